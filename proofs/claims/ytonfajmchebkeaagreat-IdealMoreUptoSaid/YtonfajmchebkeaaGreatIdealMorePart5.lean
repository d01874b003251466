/- Part 5 of the proof of IdealMore: CS3, CS2, CS, S1, S2, S3, S4, S5, S6, S7, S8, S9, CM, R3, R4, M1, M2, T1, T1b, T1c, T1d, U1, CP, P1, P2, U2, P3, P4, U3, CL, U4, U5, CU, CJ, FwUD, FwUE, FwUF, FwUI. Own lemmas; no conditions. -/
import Derived.Test.YtonfajmchebkeaaGreatIdealMorePart4
set_option linter.unusedSimpArgs false
set_option linter.unnecessarySimpa false
set_option linter.unusedVariables false
namespace Go.Proofs.YtonfajmchebkeaaGreat
open Go Go.FW
set_option maxRecDepth 100000
def c75:SFn:=⟨92,[.t 4],Zr (Zo (.mv 4 (.c .nilS)) .nil)<|Zr (Zo (.mv 5 (.c .nilS)) .nil)<|Zr (Zc 6 0<|
 Zc 7 0 .nil)<| .seq (.block 0<| .loop<| .seq (Zr (Zm 10 6<|
 Zm 11 0<|
 Zn 12 11<|
 Zb 13 .lss 10 12<|
 Zm 14 13<|
 Zg 14 false (.mv 15 (.t 7))<|
 Zg 14 false (.mv 16 (.t 1))<|
 Zg 14 false (.len 17 (.t 16))<|
 Zg 14 false (.bin 18 .lss false (.t 15) (.t 17))<|
 Zo (.pick 19 (.t 14) (.c (.bool true)) (.t 18)) .nil)<| .cond (.t 19) .skip (.exit 0))<| .block 1<|Zr (Zc 8 1 .nil)<| .seq (Zr (Zm 20 6<|
 Zm 21 0<|
 Zn 22 21<|
 Zb 23 .eql 20 22 .nil)<| .cond (.t 23) (.rg (Zc 8 (-1) .nil)) (Zr (Zm 24 7<|
 Zm 25 1<|
 Zn 26 25<|
 Zb 27 .lss 24 26 .nil)<| .cond (.t 27) (.rg (Zm 28 0<|
 Zm 29 6<|
 Zi 30 4 28 29<|
 Zf 31 3 30<|
 Zl 32 1 31<|
 Zm 33 1<|
 Zm 34 7<|
 Zi 35 4 33 34<|
 Zf 36 3 35<|
 Zl 37 1 36<|
 Zq 38 false 91 [.t 32,.t 37,.c (Zz 0)]<|
 Zm 8 38 .nil)) .skip))<| .block 2<|Zr (Zm 68 8<|
 Zk 69 .gtr 68 0<|
 Zm 67 69 .nil)<| .cond (.t 67) (Zr (Zm 70 5<|
 Zm 71 0<|
 Zm 72 6<|
 Zi 73 4 71 72<|
 Zh 74 4 73<|
 Zo (.bs 75 4 127 [.t 74])<|
 Zo (.app 76 4 80 127 (.t 70) (.t 75))<|
 Zm 5 76 .nil)<| .rg (Zm 77 6<|
 Zk 78 .add 77 1<|
 Zm 6 78 .nil)) (Zr (Zm 80 8<|
 Zk 81 .lss 80 0<|
 Zm 79 81 .nil)<| .cond (.t 79) (Zr (Zm 82 5<|
 Zm 83 1<|
 Zm 84 7<|
 Zi 85 4 83 84<|
 Zh 86 4 85<|
 Zo (.bs 87 4 127 [.t 86])<|
 Zo (.app 88 4 80 127 (.t 82) (.t 87))<|
 Zm 5 88 .nil)<| .rg (Zm 89 7<|
 Zk 90 .add 89 1<|
 Zm 7 90 .nil)) (.seq (Zr (Zm 39 0<|
 Zm 40 6<|
 Zi 41 4 39 40<|
 Zf 42 0 41<|
 Zh 43 3 42<|
 Zm 44 1<|
 Zm 45 7<|
 Zi 46 4 44 45<|
 Zf 47 0 46<|
 Zh 48 3 47<|
 .br (Zq 49 true 71 [.t 43,.t 48]<|
 Zo (.alloc 9 3 32 (.agg [.bool false,.nilS,.nilS]))<|
 Zs 3 9 49 .nil) (Zo (.alloc 9 3 32 (.agg [.bool false,.nilS,.nilS]))<|
 Zq 49 true 71 [.t 43,.t 48]<|
 Zs 3 9 49 .nil))<|Zr (Zh 50 3 9<|
 Zq 51 false 85 [.t 50]<|
 Zk 52 .neq 51 0 .nil)<| .cond (.t 52) (.rg (Zm 53 5<|
 Zh 54 3 9<|
 Zm 55 0<|
 Zm 56 6<|
 Zi 57 4 55 56<|
 Zf 58 3 57<|
 Zl 59 1 58<|
 Zo (.bld 60 [.bool false,.nilS,.nilS,.nilS] [(0,3,.t 54),(3,1,.t 59)])<|
 Zo (.bs 61 4 127 [.t 60])<|
 Zo (.app 62 4 80 127 (.t 53) (.t 61))<|
 Zm 5 62 .nil)) .skip)<|Zr (Zm 63 6<|
 Zk 64 .add 63 1<|
 Zm 6 64 .nil)<| .rg (Zm 65 7<|
 Zk 66 .add 65 1<|
 Zm 7 66 .nil))))<|Zr (Zm 91 5<|
 Zm 4 91 .nil) .ret⟩
theorem Qalz:Qe Tryz.prog Tryz.f75=some c75:=by kernel_rfl
def c63:SFn:=⟨58,[.t 4],Zr (Zc 4 0 .nil)<| .seq (Zr (Zc 5 0 .nil)<| .block 0<| .loop<| .seq (Zr (Zm 8 5<|
 Zm 9 0<|
 Zn 10 9<|
 Zb 11 .lss 8 10<|
 Zm 12 11<|
 Zg 12 true (.mv 13 (.t 5))<|
 Zg 12 true (.mv 14 (.t 1))<|
 Zg 12 true (.len 15 (.t 14))<|
 Zg 12 true (.bin 16 .lss false (.t 13) (.t 15))<|
 Zo (.pick 17 (.t 12) (.t 16) (.c (.bool false))) .nil)<| .cond (.t 17) .skip (.exit 0))<| .seq (.block 1<| .seq (Zr (Zm 20 0<|
 Zm 21 5<|
 Zi 22 4 20 21<|
 Zf 23 3 22<|
 Zl 24 1 23<|
 Zm 25 1<|
 Zm 26 5<|
 Zi 27 4 25 26<|
 Zf 28 3 27<|
 Zl 29 1 28<|
 Zq 30 false 91 [.t 24,.t 29,.c (Zz 0)]<|
 Zm 6 30 .nil)<|Zr (Zm 31 6<|
 Zk 32 .neq 31 0 .nil)<| .cond (.t 32) (Zr (Zm 33 6<|
 Zm 4 33 .nil) .ret) .skip)<|Zr (Zm 34 0<|
 Zm 35 5<|
 Zi 36 4 34 35<|
 Zf 37 0 36<|
 Zh 38 3 37<|
 Zm 39 1<|
 Zm 40 5<|
 Zi 41 4 39 40<|
 Zf 42 0 41<|
 Zh 43 3 42<|
 Zq 44 false 72 [.t 38,.t 43]<|
 Zm 7 44 .nil)<|Zr (Zm 45 7<|
 Zk 46 .neq 45 0 .nil)<| .cond (.t 46) (Zr (Zm 47 7<|
 Zm 4 47 .nil) .ret) .skip)<| .rg (Zm 18 5<|
 Zk 19 .add 18 1<|
 Zm 5 19 .nil))<| .seq (Zr (Zm 48 0<|
 Zn 49 48<|
 Zm 50 1<|
 Zn 51 50<|
 Zb 52 .lss 49 51 .nil)<| .cond (.t 52) (Zr (Zc 4 (-1) .nil) .ret) .skip)<| .seq (Zr (Zm 53 0<|
 Zn 54 53<|
 Zm 55 1<|
 Zn 56 55<|
 Zb 57 .gtr 54 56 .nil)<| .cond (.t 57) (Zr (Zc 4 1 .nil) .ret) .skip)<|Zr (Zc 4 0 .nil) .ret⟩
theorem Qal0:Qe Tryz.prog Tryz.f63=some c63:=by kernel_rfl
def c107:SFn:=⟨5,[.t 2],Zr (Zo (.box 1 3 32 (.t 0))<|
 Zo (.mv 2 (.c .nilS)) .nil)<|Zr (Zh 3 3 1<|
 Zq 4 false 104 [.c .nilS,.t 3,.c .nilS]<|
 Zm 2 4 .nil) .ret⟩
theorem Qahz:Qe Tryz.prog Tryz.f107=some c107:=by kernel_rfl
def c20:SFn:=⟨9,[.t 4],Zr (Zo (.mv 4 (.c (.bool false))) .nil)<|Zr (Zm 5 0<|
 Zm 6 1<|
 Zq 7 false 63 [.t 5,.t 6]<|
 Zk 8 .eql 7 0<|
 Zm 4 8 .nil) .ret⟩
theorem Qal1:Qe Tryz.prog Tryz.f20=some c20:=by kernel_rfl
def c41:SFn:=⟨22,[.t 4],Zr (Zo (.mv 4 (.c .nilS)) .nil)<|Zr (Zo (.mv 5 (.c .nilS)) .nil)<| .seq (Zr (Zc 6 0 .nil)<| .block 0<| .loop<| .seq (Zr (Zm 7 6<|
 Zm 8 1<|
 Zn 9 8<|
 Zb 10 .lss 7 9 .nil)<| .cond (.t 10) .skip (.exit 0))<| .seq (.block 1<| .rg (Zm 13 5<|
 Zm 14 0<|
 Zm 15 1<|
 Zm 16 6<|
 Zi 17 4 15 16<|
 Zh 18 4 17<|
 Zq 19 false 86 [.t 14,.t 18]<|
 Zq 20 false 75 [.t 13,.t 19]<|
 Zm 5 20 .nil))<| .rg (Zm 11 6<|
 Zk 12 .add 11 1<|
 Zm 6 12 .nil))<|Zr (Zm 21 5<|
 Zm 4 21 .nil) .ret⟩
theorem Qal2:Qe Tryz.prog Tryz.f41=some c41:=by kernel_rfl
def c44:SFn:=⟨52,[.t 2],Zr (Zo (.mv 2 (.c (.bool false))) .nil)<| .seq (Zr (Zc 3 0 .nil)<| .block 0<| .loop<| .seq (Zr (Zm 4 3<|
 Zm 5 0<|
 Zn 6 5<|
 Zb 7 .lss 4 6 .nil)<| .cond (.t 7) .skip (.exit 0))<| .seq (.block 1<| .seq (Zr (Zm 10 0<|
 Zm 11 3<|
 Zi 12 4 10 11<|
 Zf 13 0 12<|
 Zh 14 3 13<|
 Zq 15 false 56 [.t 14]<|
 Zu 16 15<|
 Zm 17 16<|
 Zg 17 false (.mv 18 (.t 0))<|
 Zg 17 false (.mv 19 (.t 3))<|
 Zg 17 false (.idx 20 4 (.t 18) (.t 19))<|
 Zg 17 false (.fld 21 0 (.t 20))<|
 Zg 17 false (.ld 22 3 true (.t 21))<|
 Zg 17 false (.call (some 23) false (.c (.fn 85 [] [])) [.t 22])<|
 Zg 17 false (.bin 24 .eql false (.t 23) (.c (Zz 0)))<|
 Zo (.pick 25 (.t 17) (.c (.bool true)) (.t 24))<|
 Zm 26 25<|
 Zg 26 false (.mv 27 (.t 0))<|
 Zg 26 false (.mv 28 (.t 3))<|
 Zg 26 false (.idx 29 4 (.t 27) (.t 28))<|
 Zg 26 false (.fld 30 3 (.t 29))<|
 Zg 26 false (.ld 31 1 false (.t 30))<|
 Zg 26 false (.call (some 32) false (.c (.fn 90 [] [])) [.t 31])<|
 Zg 26 false (.un 33 .not (.t 32))<|
 Zo (.pick 34 (.t 26) (.c (.bool true)) (.t 33)) .nil)<| .cond (.t 34) (Zr (Zo (.mv 2 (.c (.bool false))) .nil) .ret) .skip)<|Zr (Zm 35 3<|
 Zk 36 .gtr 35 0<|
 Zm 37 36<|
 Zg 37 true (.mv 38 (.t 0))<|
 Zg 37 true (.mv 39 (.t 3))<|
 Zg 37 true (.bin 40 .sub false (.t 39) (.c (Zz 1)))<|
 Zg 37 true (.idx 41 4 (.t 38) (.t 40))<|
 Zg 37 true (.fld 42 3 (.t 41))<|
 Zg 37 true (.ld 43 1 false (.t 42))<|
 Zg 37 true (.mv 44 (.t 0))<|
 Zg 37 true (.mv 45 (.t 3))<|
 Zg 37 true (.idx 46 4 (.t 44) (.t 45))<|
 Zg 37 true (.fld 47 3 (.t 46))<|
 Zg 37 true (.ld 48 1 false (.t 47))<|
 Zg 37 true (.call (some 49) false (.c (.fn 91 [] [])) [.t 43,.t 48,.c (Zz 0)])<|
 Zg 37 true (.bin 50 .leq false (.t 49) (.c (Zz 0)))<|
 Zo (.pick 51 (.t 37) (.t 50) (.c (.bool false))) .nil)<| .cond (.t 51) (Zr (Zo (.mv 2 (.c (.bool false))) .nil) .ret) .skip)<| .rg (Zm 8 3<|
 Zk 9 .add 8 1<|
 Zm 3 9 .nil))<|Zr (Zo (.mv 2 (.c (.bool true))) .nil) .ret⟩
theorem Qal3:Qe Tryz.prog Tryz.f44=some c44:=by kernel_rfl
def c104:SFn:=⟨88,[.t 6],Zr (Zo (.box 4 3 32 (.t 1))<|
 Zo (.mv 6 (.c .nilS)) .nil)<|Zr (Zm 10 0<|
 Zn 11 10<|
 Zm 7 11 .nil)<| .seq (.block 0<| .loop<| .seq (Zr (Zm 12 7<|
 Zk 13 .gtr 12 0<|
 Zm 14 13<|
 Zg 14 true (.mv 15 (.t 0))<|
 Zg 14 true (.mv 16 (.t 7))<|
 Zg 14 true (.bin 17 .sub false (.t 16) (.c (Zz 1)))<|
 Zg 14 true (.idx 18 4 (.t 15) (.t 17))<|
 Zg 14 true (.fld 19 3 (.t 18))<|
 Zg 14 true (.ld 20 1 false (.t 19))<|
 Zg 14 true (.mv 21 (.t 2))<|
 Zg 14 true (.call (some 22) false (.c (.fn 91 [] [])) [.t 20,.t 21,.c (Zz 0)])<|
 Zg 14 true (.bin 23 .lss false (.t 22) (.c (Zz 0)))<|
 Zo (.pick 24 (.t 14) (.t 23) (.c (.bool false))) .nil)<| .cond (.t 24) .skip (.exit 0))<| .block 1<| .rg (Zm 25 7<|
 Zk 26 .sub 25 1<|
 Zm 7 26 .nil))<|Zr (Zo (.mv 8 (.c .nilS)) .nil)<| .seq (Zr (Zm 27 7<|
 Zk 28 .gtr 27 0<|
 Zm 29 28<|
 Zg 29 true (.mv 30 (.t 0))<|
 Zg 29 true (.mv 31 (.t 7))<|
 Zg 29 true (.bin 32 .sub false (.t 31) (.c (Zz 1)))<|
 Zg 29 true (.idx 33 4 (.t 30) (.t 32))<|
 Zg 29 true (.fld 34 3 (.t 33))<|
 Zg 29 true (.ld 35 1 false (.t 34))<|
 Zg 29 true (.mv 36 (.t 2))<|
 Zg 29 true (.call (some 37) false (.c (.fn 91 [] [])) [.t 35,.t 36,.c (Zz 0)])<|
 Zg 29 true (.bin 38 .eql false (.t 37) (.c (Zz 0)))<|
 Zo (.pick 39 (.t 29) (.t 38) (.c (.bool false))) .nil)<| .cond (.t 39) (Zr (Zm 40 8<|
 Zm 41 0<|
 Zm 42 7<|
 Zk 43 .sub 42 1<|
 Zo (.sl 44 4 (.t 41) none (some (.t 43)) none)<|
 Zo (.app 45 4 80 127 (.t 40) (.t 44))<|
 Zm 8 45 .nil)<| .seq (Zr (Zm 46 0<|
 Zm 47 7<|
 Zk 48 .sub 47 1<|
 Zi 49 4 46 48<|
 Zf 50 0 49<|
 Zh 51 3 50<|
 Zh 52 3 4<|
 .br (Zq 53 true 71 [.t 51,.t 52]<|
 Zo (.alloc 9 3 32 (.agg [.bool false,.nilS,.nilS]))<|
 Zs 3 9 53 .nil) (Zo (.alloc 9 3 32 (.agg [.bool false,.nilS,.nilS]))<|
 Zq 53 true 71 [.t 51,.t 52]<|
 Zs 3 9 53 .nil))<|Zr (Zh 54 3 9<|
 Zq 55 false 85 [.t 54]<|
 Zk 56 .neq 55 0 .nil)<| .cond (.t 56) (.rg (Zm 57 8<|
 Zh 58 3 9<|
 Zm 59 2<|
 Zo (.bld 60 [.bool false,.nilS,.nilS,.nilS] [(0,3,.t 58),(3,1,.t 59)])<|
 Zo (.bs 61 4 127 [.t 60])<|
 Zo (.app 62 4 80 127 (.t 57) (.t 61))<|
 Zm 8 62 .nil)) .skip)<|Zr (Zm 63 8<|
 Zm 64 0<|
 Zm 65 7<|
 Zo (.sl 66 4 (.t 64) (some (.t 65)) none none)<|
 Zo (.app 67 4 80 127 (.t 63) (.t 66))<|
 Zm 6 67 .nil) .ret) .skip)<|Zr (Zm 68 8<|
 Zm 69 0<|
 Zm 70 7<|
 Zo (.sl 71 4 (.t 69) none (some (.t 70)) none)<|
 Zo (.app 72 4 80 127 (.t 68) (.t 71))<|
 Zm 8 72 .nil)<| .seq (Zr (Zh 73 3 4<|
 Zq 74 false 85 [.t 73]<|
 Zk 75 .neq 74 0 .nil)<| .cond (.t 75) (.rg (Zm 76 8<|
 Zh 77 3 4<|
 Zq 78 false 148 [.t 77]<|
 Zm 79 2<|
 Zo (.bld 80 [.bool false,.nilS,.nilS,.nilS] [(0,3,.t 78),(3,1,.t 79)])<|
 Zo (.bs 81 4 127 [.t 80])<|
 Zo (.app 82 4 80 127 (.t 76) (.t 81))<|
 Zm 8 82 .nil)) .skip)<|Zr (Zm 83 8<|
 Zm 84 0<|
 Zm 85 7<|
 Zo (.sl 86 4 (.t 84) (some (.t 85)) none none)<|
 Zo (.app 87 4 80 127 (.t 83) (.t 86))<|
 Zm 6 87 .nil) .ret⟩
theorem Qah0:Qe Tryz.prog Tryz.f104=some c104:=by kernel_rfl
def c86:SFn:=⟨34,[.t 4],Zr (Zo (.box 3 4 127 (.t 1))<|
 Zo (.mv 4 (.c .nilS)) .nil)<|Zr (Zo (.mv 5 (.c .nilS)) .nil)<| .seq (Zr (Zc 6 0 .nil)<| .block 0<| .loop<| .seq (Zr (Zm 7 6<|
 Zm 8 0<|
 Zn 9 8<|
 Zb 10 .lss 7 9 .nil)<| .cond (.t 10) .skip (.exit 0))<| .seq (.block 1<| .rg (Zm 13 5<|
 Zm 14 0<|
 Zm 15 6<|
 Zi 16 4 14 15<|
 Zf 17 0 16<|
 Zh 18 3 17<|
 Zf 19 0 3<|
 Zh 20 3 19<|
 Zm 22 0<|
 Zm 23 6<|
 Zi 24 4 22 23<|
 Zf 25 3 24<|
 Zl 26 1 25<|
 Zf 27 3 3<|
 Zl 28 1 27<|
 Zq 21 true 69 [.t 18,.t 20]<|
 Zq 29 true 163 [.t 26,.t 28]<|
 Zo (.bld 30 [.bool false,.nilS,.nilS,.nilS] [(0,3,.t 21),(3,1,.t 29)])<|
 Zo (.bs 31 4 127 [.t 30])<|
 Zo (.app 32 4 80 127 (.t 13) (.t 31))<|
 Zm 5 32 .nil))<| .rg (Zm 11 6<|
 Zk 12 .add 11 1<|
 Zm 6 12 .nil))<|Zr (Zm 33 5<|
 Zm 4 33 .nil) .ret⟩
theorem Qal4:Qe Tryz.prog Tryz.f86=some c86:=by kernel_rfl
end Go.Proofs.YtonfajmchebkeaaGreat
namespace Go.Proofs.YtonfajmchebkeaaGreat
open Go Go.FW
set_option maxRecDepth 100000
def c90:SFn:=⟨39,[.t 2],Zr (Zo (.mv 2 (.c (.bool false))) .nil)<| .seq (Zr (Zm 4 0<|
 Zn 5 4<|
 Zk 6 .gtr 5 64<|
 Zm 7 6<|
 Zg 7 false (.mv 8 (.t 0))<|
 Zg 7 false (.len 9 (.t 8))<|
 Zg 7 false (.bin 10 .gtr false (.t 9) (.c (Zz 0)))<|
 Zg 7 false (.mv 11 (.t 10))<|
 Zg 11 true (.mv 12 (.t 0))<|
 Zg 11 true (.mv 13 (.t 0))<|
 Zg 11 true (.len 14 (.t 13))<|
 Zg 11 true (.bin 15 .sub false (.t 14) (.c (Zz 1)))<|
 Zg 11 true (.idx 16 1 (.t 12) (.t 15))<|
 Zg 11 true (.ld 17 1 false (.t 16))<|
 Zg 11 true (.bin 18 .eql false (.t 17) (.c (Zz 0)))<|
 Zg 7 false (.pick 19 (.t 11) (.t 18) (.c (.bool false)))<|
 Zo (.pick 20 (.t 7) (.c (.bool true)) (.t 19)) .nil)<| .cond (.t 20) (Zr (Zo (.mv 2 (.c (.bool false))) .nil) .ret) .skip)<| .seq (Zr (Zc 3 0 .nil)<| .block 0<| .loop<| .seq (Zr (Zm 21 3<|
 Zm 22 0<|
 Zn 23 22<|
 Zb 24 .lss 21 23 .nil)<| .cond (.t 24) .skip (.exit 0))<| .seq (.block 1<|Zr (Zm 27 0<|
 Zm 28 3<|
 Zi 29 1 27 28<|
 Zl 30 1 29<|
 Zk 31 .lss 30 0<|
 Zm 32 31<|
 Zg 32 false (.mv 33 (.t 0))<|
 Zg 32 false (.mv 34 (.t 3))<|
 Zg 32 false (.idx 35 1 (.t 33) (.t 34))<|
 Zg 32 false (.ld 36 1 false (.t 35))<|
 Zg 32 false (.bin 37 .gtr false (.t 36) (.c (Zz 1048576)))<|
 Zo (.pick 38 (.t 32) (.c (.bool true)) (.t 37)) .nil)<| .cond (.t 38) (Zr (Zo (.mv 2 (.c (.bool false))) .nil) .ret) .skip)<| .rg (Zm 25 3<|
 Zk 26 .add 25 1<|
 Zm 3 26 .nil))<|Zr (Zo (.mv 2 (.c (.bool true))) .nil) .ret⟩
theorem Qal5:Qe Tryz.prog Tryz.f90=some c90:=by kernel_rfl
def c169:SFn:=⟨18,[.t 2],Zr (Zc 2 0 .nil)<|Zr (Zc 3 0 .nil)<| .seq (Zr (Zc 4 0 .nil)<| .block 0<| .loop<| .seq (Zr (Zm 5 4<|
 Zm 6 0<|
 Zn 7 6<|
 Zb 8 .lss 5 7 .nil)<| .cond (.t 8) .skip (.exit 0))<| .seq (.block 1<| .rg (Zm 11 3<|
 Zm 12 0<|
 Zm 13 4<|
 Zi 14 1 12 13<|
 Zl 15 1 14<|
 Zb 16 .add 11 15<|
 Zm 3 16 .nil))<| .rg (Zm 9 4<|
 Zk 10 .add 9 1<|
 Zm 4 10 .nil))<|Zr (Zm 17 3<|
 Zm 2 17 .nil) .ret⟩
theorem Qah1:Qe Tryz.prog Tryz.f169=some c169:=by kernel_rfl
def c171:SFn:=⟨17,[.t 4],Zr (Zc 4 0 .nil)<| .seq (Zr (Zm 5 1<|
 Zk 6 .lss 5 0<|
 Zm 7 6<|
 Zg 7 false (.mv 8 (.t 1))<|
 Zg 7 false (.mv 9 (.t 0))<|
 Zg 7 false (.len 10 (.t 9))<|
 Zg 7 false (.bin 11 .geq false (.t 8) (.t 10))<|
 Zo (.pick 12 (.t 7) (.c (.bool true)) (.t 11)) .nil)<| .cond (.t 12) (Zr (Zc 4 0 .nil) .ret) .skip)<|Zr (Zm 13 0<|
 Zm 14 1<|
 Zi 15 1 13 14<|
 Zl 16 1 15<|
 Zm 4 16 .nil) .ret⟩
theorem Qah2:Qe Tryz.prog Tryz.f171=some c171:=by kernel_rfl
def c163:SFn:=⟨30,[.t 4],Zr (Zo (.mv 4 (.c .nilS)) .nil)<|Zr (Zo (.mv 5 (.c .nilS)) .nil)<| .seq (Zr (Zc 6 0 .nil)<| .block 0<| .loop<| .seq (Zr (Zm 7 6<|
 Zm 8 0<|
 Zn 9 8<|
 Zb 10 .lss 7 9<|
 Zm 11 10<|
 Zg 11 false (.mv 12 (.t 6))<|
 Zg 11 false (.mv 13 (.t 1))<|
 Zg 11 false (.len 14 (.t 13))<|
 Zg 11 false (.bin 15 .lss false (.t 12) (.t 14))<|
 Zo (.pick 16 (.t 11) (.c (.bool true)) (.t 15)) .nil)<| .cond (.t 16) .skip (.exit 0))<| .seq (.block 1<| .rg (Zm 19 5<|
 Zm 20 0<|
 Zm 21 6<|
 Zq 22 false 171 [.t 20,.t 21]<|
 Zm 23 1<|
 Zm 24 6<|
 Zq 25 false 171 [.t 23,.t 24]<|
 Zb 26 .add 22 25<|
 Zo (.bs 27 1 3 [.t 26])<|
 Zo (.app 28 1 8 3 (.t 19) (.t 27))<|
 Zm 5 28 .nil))<| .rg (Zm 17 6<|
 Zk 18 .add 17 1<|
 Zm 6 18 .nil))<|Zr (Zm 29 5<|
 Zm 4 29 .nil) .ret⟩
theorem Qah3:Qe Tryz.prog Tryz.f163=some c163:=by kernel_rfl
def c91:SFn:=⟨48,[.t 6],Zr (Zc 6 0 .nil)<| .seq (Zr (Zm 8 2<|
 Zk 9 .eql 8 1<|
 Zm 10 9<|
 Zg 10 true (.mv 11 (.t 0))<|
 Zg 10 true (.call (some 12) false (.c (.fn 169 [] [])) [.t 11])<|
 Zg 10 true (.mv 13 (.t 1))<|
 Zg 10 true (.call (some 14) false (.c (.fn 169 [] [])) [.t 13])<|
 Zg 10 true (.bin 15 .neq false (.t 12) (.t 14))<|
 Zo (.pick 16 (.t 10) (.t 15) (.c (.bool false))) .nil)<| .cond (.t 16) (Zr (Zm 17 0<|
 Zq 18 false 169 [.t 17]<|
 Zm 19 1<|
 Zq 20 false 169 [.t 19]<|
 Zb 21 .sub 18 20<|
 Zq 22 false 170 [.t 21]<|
 Zm 6 22 .nil) .ret) .skip)<| .seq (Zr (Zm 23 0<|
 Zn 24 23<|
 Zm 25 1<|
 Zn 26 25<|
 Zo (.mx 27 (.t 24) (.t 26))<|
 Zk 28 .sub 27 1<|
 Zm 7 28 .nil)<| .block 0<| .loop<| .seq (Zr (Zm 29 7<|
 Zk 30 .geq 29 0 .nil)<| .cond (.t 30) .skip (.exit 0))<| .seq (.block 1<|Zr (Zm 33 0<|
 Zm 34 7<|
 Zq 35 false 171 [.t 33,.t 34]<|
 Zm 36 1<|
 Zm 37 7<|
 Zq 38 false 171 [.t 36,.t 37]<|
 Zb 39 .neq 35 38 .nil)<| .cond (.t 39) (Zr (Zm 40 0<|
 Zm 41 7<|
 Zq 42 false 171 [.t 40,.t 41]<|
 Zm 43 1<|
 Zm 44 7<|
 Zq 45 false 171 [.t 43,.t 44]<|
 Zb 46 .sub 42 45<|
 Zq 47 false 170 [.t 46]<|
 Zm 6 47 .nil) .ret) .skip)<| .rg (Zm 31 7<|
 Zk 32 .sub 31 1<|
 Zm 7 32 .nil))<|Zr (Zc 6 0 .nil) .ret⟩
theorem Qal6:Qe Tryz.prog Tryz.f91=some c91:=by kernel_rfl
def c170:SFn:=⟨7,[.t 2],Zr (Zc 2 0 .nil)<| .seq (Zr (Zm 3 0<|
 Zk 4 .lss 3 0 .nil)<| .cond (.t 4) (Zr (Zc 2 (-1) .nil) .ret) .skip)<| .seq (Zr (Zm 5 0<|
 Zk 6 .gtr 5 0 .nil)<| .cond (.t 6) (Zr (Zc 2 1 .nil) .ret) .skip)<|Zr (Zc 2 0 .nil) .ret⟩
theorem Qah4:Qe Tryz.prog Tryz.f170=some c170:=by kernel_rfl
end Go.Proofs.YtonfajmchebkeaaGreat
namespace Go.Proofs.YtonfajmchebkeaaGreat
open Go Go.FW
set_option maxRecDepth 100000
def c157:SFn:=⟨24,[.t 2],Zr (Zo (.mv 2 (.c .nilS)) .nil)<|Zr (Zm 5 0<|
 Zn 6 5<|
 Zm 3 6 .nil)<| .seq (.block 0<| .loop<| .seq (Zr (Zm 7 3<|
 Zk 8 .gtr 7 0<|
 Zm 9 8<|
 Zg 9 true (.mv 10 (.t 0))<|
 Zg 9 true (.mv 11 (.t 3))<|
 Zg 9 true (.bin 12 .sub false (.t 11) (.c (Zz 1)))<|
 Zg 9 true (.idx 13 1 (.t 10) (.t 12))<|
 Zg 9 true (.ld 14 1 false (.t 13))<|
 Zg 9 true (.bin 15 .eql false (.t 14) (.c (.int .u16 0)))<|
 Zo (.pick 16 (.t 9) (.t 15) (.c (.bool false))) .nil)<| .cond (.t 16) .skip (.exit 0))<| .block 1<| .rg (Zm 17 3<|
 Zk 18 .sub 17 1<|
 Zm 3 18 .nil))<|Zr (Zo (.mv 4 (.c .nilS)) .nil)<|Zr (Zm 19 4<|
 Zm 20 0<|
 Zm 21 3<|
 Zo (.sl 22 1 (.t 20) none (some (.t 21)) none)<|
 Zo (.app 23 1 2 191 (.t 19) (.t 22))<|
 Zm 2 23 .nil) .ret⟩
theorem Qah5:Qe Tryz.prog Tryz.f157=some c157:=by kernel_rfl
def c84:SFn:=⟨15,[.t 2],Zr (Zo (.mv 2 (.c .nilS)) .nil)<|Zr (Zo (.mv 3 (.c .nilS)) .nil)<| .seq (.block 0<| .loop<| .seq (Zr (Zm 4 0<|
 Zo (.bin 5 .gtr false (.t 4) (.c (.int .u64 0))) .nil)<| .cond (.t 5) .skip (.exit 0))<| .block 1<|Zr (Zm 6 3<|
 Zm 7 0<|
 Zo (.bin 8 .rem false (.t 7) (.c (.int .u64 65536)))<|
 Zo (.conv 9 .u16 (.t 8))<|
 Zo (.bs 10 1 191 [.t 9])<|
 Zo (.app 11 1 2 191 (.t 6) (.t 10))<|
 Zm 3 11 .nil)<| .rg (Zm 12 0<|
 Zo (.bin 13 .quo false (.t 12) (.c (.int .u64 65536)))<|
 Zm 0 13 .nil))<|Zr (Zm 14 3<|
 Zm 2 14 .nil) .ret⟩
theorem Qal7:Qe Tryz.prog Tryz.f84=some c84:=by kernel_rfl
def c214:SFn:=⟨21,[.t 2],Zr (Zo (.mv 2 (.c (.int .u64 0))) .nil)<|Zr (Zo (.mv 3 (.c (.int .u64 0))) .nil)<| .seq (Zr (Zm 5 0<|
 Zn 6 5<|
 Zk 7 .sub 6 1<|
 Zm 4 7 .nil)<| .block 0<| .loop<| .seq (Zr (Zm 8 4<|
 Zk 9 .geq 8 0 .nil)<| .cond (.t 9) .skip (.exit 0))<| .seq (.block 1<| .rg (Zm 12 3<|
 Zo (.bin 13 .mul false (.t 12) (.c (.int .u64 65536)))<|
 Zm 14 0<|
 Zm 15 4<|
 Zi 16 1 14 15<|
 Zl 17 1 16<|
 Zo (.conv 18 .u64 (.t 17))<|
 Zb 19 .add 13 18<|
 Zm 3 19 .nil))<| .rg (Zm 10 4<|
 Zk 11 .sub 10 1<|
 Zm 4 11 .nil))<|Zr (Zm 20 3<|
 Zm 2 20 .nil) .ret⟩
theorem Qah6:Qe Tryz.prog Tryz.f214=some c214:=by kernel_rfl
def c199:SFn:=⟨14,[.t 4],Zr (Zc 4 0 .nil)<| .seq (Zr (Zm 5 1<|
 Zm 6 0<|
 Zn 7 6<|
 Zb 8 .lss 5 7 .nil)<| .cond (.t 8) (Zr (Zm 9 0<|
 Zm 10 1<|
 Zi 11 1 9 10<|
 Zl 12 1 11<|
 Zo (.conv 13 .i64 (.t 12))<|
 Zm 4 13 .nil) .ret) .skip)<|Zr (Zc 4 0 .nil) .ret⟩
theorem Qah7:Qe Tryz.prog Tryz.f199=some c199:=by kernel_rfl
def c201:SFn:=⟨30,[.t 4],Zr (Zc 4 0 .nil)<| .seq (Zr (Zm 6 0<|
 Zn 7 6<|
 Zm 8 1<|
 Zn 9 8<|
 Zo (.mx 10 (.t 7) (.t 9))<|
 Zk 11 .sub 10 1<|
 Zm 5 11 .nil)<| .block 0<| .loop<| .seq (Zr (Zm 12 5<|
 Zk 13 .geq 12 0 .nil)<| .cond (.t 13) .skip (.exit 0))<| .seq (.block 1<| .seq (Zr (Zm 16 0<|
 Zm 17 5<|
 Zq 18 false 199 [.t 16,.t 17]<|
 Zm 19 1<|
 Zm 20 5<|
 Zq 21 false 199 [.t 19,.t 20]<|
 Zb 22 .lss 18 21 .nil)<| .cond (.t 22) (Zr (Zc 4 (-1) .nil) .ret) .skip)<|Zr (Zm 23 0<|
 Zm 24 5<|
 Zq 25 false 199 [.t 23,.t 24]<|
 Zm 26 1<|
 Zm 27 5<|
 Zq 28 false 199 [.t 26,.t 27]<|
 Zb 29 .gtr 25 28 .nil)<| .cond (.t 29) (Zr (Zc 4 1 .nil) .ret) .skip)<| .rg (Zm 14 5<|
 Zk 15 .sub 14 1<|
 Zm 5 15 .nil))<|Zr (Zc 4 0 .nil) .ret⟩
theorem Qah8:Qe Tryz.prog Tryz.f201=some c201:=by kernel_rfl
def c161:SFn:=⟨44,[.t 4],Zr (Zo (.mv 4 (.c .nilS)) .nil)<|Zr (Zo (.mv 5 (.c .nilS)) .nil)<|Zr (Zc 6 0 .nil)<| .seq (Zr (Zc 7 0 .nil)<| .block 0<| .loop<| .seq (Zr (Zm 9 7<|
 Zm 10 0<|
 Zn 11 10<|
 Zb 12 .lss 9 11<|
 Zm 13 12<|
 Zg 13 false (.mv 14 (.t 7))<|
 Zg 13 false (.mv 15 (.t 1))<|
 Zg 13 false (.len 16 (.t 15))<|
 Zg 13 false (.bin 17 .lss false (.t 14) (.t 16))<|
 Zo (.pick 18 (.t 13) (.c (.bool true)) (.t 17))<|
 Zm 19 18<|
 Zg 19 false (.mv 20 (.t 6))<|
 Zg 19 false (.bin 21 .gtr false (.t 20) (.c (Zz 0)))<|
 Zo (.pick 22 (.t 19) (.c (.bool true)) (.t 21)) .nil)<| .cond (.t 22) .skip (.exit 0))<| .seq (.block 1<|Zr (Zm 25 0<|
 Zm 26 7<|
 Zq 27 false 199 [.t 25,.t 26]<|
 Zm 28 1<|
 Zm 29 7<|
 Zq 30 false 199 [.t 28,.t 29]<|
 Zb 31 .add 27 30<|
 Zm 32 6<|
 Zb 33 .add 31 32<|
 Zm 8 33 .nil)<|Zr (Zm 34 5<|
 Zm 35 8<|
 Zk 36 .rem 35 65536<|
 Zo (.conv 37 .u16 (.t 36))<|
 Zo (.bs 38 1 191 [.t 37])<|
 Zo (.app 39 1 2 191 (.t 34) (.t 38))<|
 Zm 5 39 .nil)<| .rg (Zm 40 8<|
 Zk 41 .quo 40 65536<|
 Zm 6 41 .nil))<| .rg (Zm 23 7<|
 Zk 24 .add 23 1<|
 Zm 7 24 .nil))<|Zr (Zm 42 5<|
 Zq 43 false 157 [.t 42]<|
 Zm 4 43 .nil) .ret⟩
theorem Qah9:Qe Tryz.prog Tryz.f161=some c161:=by kernel_rfl
def c200:SFn:=⟨40,[.t 4,.t 5],Zr (Zo (.mv 4 (.c .nilS))<|
 Zc 5 0 .nil)<| .seq (Zr (Zm 10 0<|
 Zm 11 1<|
 Zq 12 false 201 [.t 10,.t 11]<|
 Zk 13 .lss 12 0 .nil)<| .cond (.t 13) (Zr (Zo (.mv 4 (.c .nilS))<|
 Zc 5 2 .nil) .ret) .skip)<|Zr (Zo (.mv 6 (.c .nilS)) .nil)<|Zr (Zc 7 0 .nil)<| .seq (Zr (Zc 8 0 .nil)<| .block 0<| .loop<| .seq (Zr (Zm 14 8<|
 Zm 15 0<|
 Zn 16 15<|
 Zb 17 .lss 14 16 .nil)<| .cond (.t 17) .skip (.exit 0))<| .seq (.block 1<|Zr (Zm 20 0<|
 Zm 21 8<|
 Zq 22 false 199 [.t 20,.t 21]<|
 Zm 23 1<|
 Zm 24 8<|
 Zq 25 false 199 [.t 23,.t 24]<|
 Zb 26 .sub 22 25<|
 Zm 27 7<|
 Zb 28 .sub 26 27<|
 Zm 9 28 .nil)<|Zr (Zc 7 0 .nil)<| .seq (Zr (Zm 29 9<|
 Zk 30 .lss 29 0 .nil)<| .cond (.t 30) (Zr (Zm 31 9<|
 Zk 32 .add 31 65536<|
 Zm 9 32 .nil)<| .rg (Zc 7 1 .nil)) .skip)<| .rg (Zm 33 6<|
 Zm 34 9<|
 Zo (.conv 35 .u16 (.t 34))<|
 Zo (.bs 36 1 191 [.t 35])<|
 Zo (.app 37 1 2 191 (.t 33) (.t 36))<|
 Zm 6 37 .nil))<| .rg (Zm 18 8<|
 Zk 19 .add 18 1<|
 Zm 8 19 .nil))<|Zr (Zm 38 6<|
 Zq 39 false 157 [.t 38]<|
 Zm 4 39<|
 Zc 5 0 .nil) .ret⟩
theorem Qaia:Qe Tryz.prog Tryz.f200=some c200:=by kernel_rfl
def c147:SFn:=⟨65,[.t 4],Zr (Zo (.mv 4 (.c .nilS)) .nil)<|Zr (Zm 10 0<|
 Zn 11 10<|
 Zm 12 1<|
 Zn 13 12<|
 Zb 14 .add 11 13<|
 Zk 15 .add 14 1<|
 Zo (.mk 16 1 2 191 (.int .u16 0) (.t 15) (.t 15))<|
 Zm 5 16 .nil)<| .seq (Zr (Zc 6 0 .nil)<| .block 0<| .loop<| .seq (Zr (Zm 17 6<|
 Zm 18 0<|
 Zn 19 18<|
 Zb 20 .lss 17 19 .nil)<| .cond (.t 20) .skip (.exit 0))<| .seq (.block 1<|Zr (Zo (.mv 7 (.c (.int .u64 0))) .nil)<|Zr (Zc 8 0 .nil)<| .block 2<| .loop<| .seq (Zr (Zm 23 8<|
 Zm 24 1<|
 Zn 25 24<|
 Zb 26 .lss 23 25<|
 Zm 27 26<|
 Zg 27 false (.mv 28 (.t 7))<|
 Zg 27 false (.bin 29 .gtr false (.t 28) (.c (.int .u64 0)))<|
 Zo (.pick 30 (.t 27) (.c (.bool true)) (.t 29)) .nil)<| .cond (.t 30) .skip (.exit 2))<| .seq (.block 3<|Zr (Zm 33 5<|
 Zm 34 6<|
 Zm 35 8<|
 Zb 36 .add 34 35<|
 Zi 37 1 33 36<|
 Zl 38 1 37<|
 Zo (.conv 39 .u64 (.t 38))<|
 Zm 40 0<|
 Zm 41 6<|
 Zi 42 1 40 41<|
 Zl 43 1 42<|
 Zo (.conv 44 .u64 (.t 43))<|
 Zm 45 1<|
 Zm 46 8<|
 Zm 51 7<|
 Zq 47 true 199 [.t 45,.t 46]<|
 Zo (.conv 48 .u64 (.t 47))<|
 Zb 49 .mul 44 48<|
 Zb 50 .add 39 49<|
 Zb 52 .add 50 51<|
 Zm 9 52 .nil)<|Zr (Zm 53 5<|
 Zm 54 6<|
 Zm 55 8<|
 Zb 56 .add 54 55<|
 Zm 57 9<|
 Zo (.bin 58 .rem false (.t 57) (.c (.int .u64 65536)))<|
 Zo (.conv 59 .u16 (.t 58))<|
 Zi 60 1 53 56<|
 Zs 1 60 59 .nil)<| .rg (Zm 61 9<|
 Zo (.bin 62 .quo false (.t 61) (.c (.int .u64 65536)))<|
 Zm 7 62 .nil))<| .rg (Zm 31 8<|
 Zk 32 .add 31 1<|
 Zm 8 32 .nil))<| .rg (Zm 21 6<|
 Zk 22 .add 21 1<|
 Zm 6 22 .nil))<|Zr (Zm 63 5<|
 Zq 64 false 157 [.t 63]<|
 Zm 4 64 .nil) .ret⟩
theorem Qaib:Qe Tryz.prog Tryz.f147=some c147:=by kernel_rfl
def c215:SFn:=⟨27,[.t 4],Zr (Zo (.mv 4 (.c (.int .u64 0))) .nil)<|Zr (Zo (.mv 5 (.c (.int .u64 0)))<|
 Zo (.mv 6 (.c (.int .u64 65535))) .nil)<| .seq (.block 0<| .loop<| .seq (Zr (Zm 8 5<|
 Zm 9 6<|
 Zb 10 .lss 8 9 .nil)<| .cond (.t 10) .skip (.exit 0))<| .block 1<|Zr (Zm 11 5<|
 Zm 12 6<|
 Zb 13 .add 11 12<|
 Zo (.bin 14 .add false (.t 13) (.c (.int .u64 1)))<|
 Zo (.bin 15 .quo false (.t 14) (.c (.int .u64 2)))<|
 Zm 7 15 .nil)<|Zr (Zm 16 1<|
 Zm 17 7<|
 Zq 18 false 84 [.t 17]<|
 Zq 19 false 147 [.t 16,.t 18]<|
 Zm 20 0<|
 Zq 21 false 201 [.t 19,.t 20]<|
 Zk 22 .leq 21 0 .nil)<| .cond (.t 22) (.rg (Zm 23 7<|
 Zm 5 23 .nil)) (.rg (Zm 24 7<|
 Zo (.bin 25 .sub false (.t 24) (.c (.int .u64 1)))<|
 Zm 6 25 .nil)))<|Zr (Zm 26 5<|
 Zm 4 26 .nil) .ret⟩
theorem Qaic:Qe Tryz.prog Tryz.f215=some c215:=by kernel_rfl
def c158:SFn:=⟨73,[.t 4,.t 5,.t 6],Zr (Zo (.mv 4 (.c .nilS))<|
 Zo (.mv 5 (.c .nilS))<|
 Zc 6 0 .nil)<|Zr (Zm 11 0<|
 Zq 12 false 157 [.t 11]<|
 Zm 13 1<|
 Zq 14 false 157 [.t 13]<|
 Zm 0 12<|
 Zm 1 14 .nil)<| .seq (Zr (Zm 15 1<|
 Zn 16 15<|
 Zk 17 .eql 16 0 .nil)<| .cond (.t 17) (Zr (Zo (.mv 4 (.c .nilS))<|
 Zo (.mv 5 (.c .nilS))<|
 Zc 6 3 .nil) .ret) .skip)<| .seq (Zr (Zm 18 0<|
 Zn 19 18<|
 Zk 20 .leq 19 4<|
 Zm 21 20<|
 Zg 21 true (.mv 22 (.t 1))<|
 Zg 21 true (.len 23 (.t 22))<|
 Zg 21 true (.bin 24 .leq false (.t 23) (.c (Zz 4)))<|
 Zo (.pick 25 (.t 21) (.t 24) (.c (.bool false))) .nil)<| .cond (.t 25) (Zr (Zm 26 0<|
 Zq 27 false 214 [.t 26]<|
 Zm 28 1<|
 Zq 29 false 214 [.t 28]<|
 Zb 30 .quo 27 29<|
 Zq 31 false 84 [.t 30]<|
 Zm 32 0<|
 Zq 33 false 214 [.t 32]<|
 Zm 34 1<|
 Zq 35 false 214 [.t 34]<|
 Zb 36 .rem 33 35<|
 Zq 37 false 84 [.t 36]<|
 Zm 4 31<|
 Zm 5 37<|
 Zc 6 0 .nil) .ret) .skip)<|Zr (Zo (.mv 7 (.c .nilS))<|
 Zo (.mv 8 (.c .nilS)) .nil)<| .seq (Zr (Zm 38 0<|
 Zn 39 38<|
 Zk 40 .sub 39 1<|
 Zm 9 40 .nil)<| .block 0<| .loop<| .seq (Zr (Zm 41 9<|
 Zk 42 .geq 41 0 .nil)<| .cond (.t 42) .skip (.exit 0))<| .seq (.block 1<|Zr (Zm 45 0<|
 Zm 46 9<|
 Zi 47 1 45 46<|
 Zl 48 1 47<|
 Zo (.bs 49 1 191 [.t 48])<|
 Zm 50 8<|
 Zo (.app 51 1 2 191 (.t 49) (.t 50))<|
 Zq 52 false 157 [.t 51]<|
 Zm 8 52 .nil)<|Zr (Zm 53 8<|
 Zm 54 1<|
 Zq 55 false 215 [.t 53,.t 54]<|
 Zm 10 55 .nil)<|Zr (Zm 56 10<|
 Zo (.conv 57 .u16 (.t 56))<|
 Zo (.bs 58 1 191 [.t 57])<|
 Zm 59 7<|
 Zo (.app 60 1 2 191 (.t 58) (.t 59))<|
 Zm 7 60 .nil)<| .rg (Zm 62 8<|
 Zm 63 1<|
 Zm 64 10<|
 Zq 65 false 84 [.t 64]<|
 Zq 66 false 147 [.t 63,.t 65]<|
 Zq 67 false 200 [.t 62,.t 66]<|
 Zm 61 67<|
 Zo (.ext 68 (.t 61) 0)<|
 Zo (.ext 69 (.t 61) 1)<|
 Zm 8 68 .nil))<| .rg (Zm 43 9<|
 Zk 44 .sub 43 1<|
 Zm 9 44 .nil))<|Zr (Zm 70 7<|
 Zq 71 false 157 [.t 70]<|
 Zm 72 8<|
 Zm 4 71<|
 Zm 5 72<|
 Zc 6 0 .nil) .ret⟩
theorem Qaid:Qe Tryz.prog Tryz.f158=some c158:=by kernel_rfl
def c103:SFn:=⟨25,[.t 4],Zr (Zo (.mv 4 (.c .nilS)) .nil)<|Zr (Zm 8 0<|
 Zq 9 false 157 [.t 8]<|
 Zm 10 1<|
 Zq 11 false 157 [.t 10]<|
 Zm 0 9<|
 Zm 1 11 .nil)<| .seq (.block 0<| .loop<| .seq (Zr (Zm 12 1<|
 Zn 13 12<|
 Zk 14 .gtr 13 0 .nil)<| .cond (.t 14) .skip (.exit 0))<| .block 1<|Zr (Zm 16 0<|
 Zm 17 1<|
 Zq 18 false 158 [.t 16,.t 17]<|
 Zm 15 18<|
 Zo (.ext 19 (.t 15) 0)<|
 Zo (.ext 20 (.t 15) 1)<|
 Zo (.ext 21 (.t 15) 2)<|
 Zm 5 19<|
 Zm 6 20<|
 Zm 7 21 .nil)<| .rg (Zm 22 1<|
 Zm 23 6<|
 Zm 0 22<|
 Zm 1 23 .nil))<|Zr (Zm 24 0<|
 Zm 4 24 .nil) .ret⟩
theorem Qaie:Qe Tryz.prog Tryz.f103=some c103:=by kernel_rfl
def c101:SFn:=⟨15,[.t 2],Zr (Zo (.mv 2 (.c (.bool false))) .nil)<|Zr (Zm 3 0<|
 Zn 4 3<|
 Zk 5 .eql 4 0<|
 Zm 6 5<|
 Zg 6 false (.mv 7 (.t 0))<|
 Zg 6 false (.mv 8 (.t 0))<|
 Zg 6 false (.len 9 (.t 8))<|
 Zg 6 false (.bin 10 .sub false (.t 9) (.c (Zz 1)))<|
 Zg 6 false (.idx 11 1 (.t 7) (.t 10))<|
 Zg 6 false (.ld 12 1 false (.t 11))<|
 Zg 6 false (.bin 13 .neq false (.t 12) (.c (.int .u16 0)))<|
 Zo (.pick 14 (.t 6) (.c (.bool true)) (.t 13))<|
 Zm 2 14 .nil) .ret⟩
theorem Qaif:Qe Tryz.prog Tryz.f101=some c101:=by kernel_rfl
def c102:SFn:=⟨26,[.t 4],Zr (Zo (.mv 4 (.c (.bool false))) .nil)<| .seq (Zr (Zm 6 0<|
 Zn 7 6<|
 Zm 8 1<|
 Zn 9 8<|
 Zb 10 .neq 7 9 .nil)<| .cond (.t 10) (Zr (Zo (.mv 4 (.c (.bool false))) .nil) .ret) .skip)<| .seq (Zr (Zc 5 0 .nil)<| .block 0<| .loop<| .seq (Zr (Zm 11 5<|
 Zm 12 0<|
 Zn 13 12<|
 Zb 14 .lss 11 13 .nil)<| .cond (.t 14) .skip (.exit 0))<| .seq (.block 1<|Zr (Zm 17 0<|
 Zm 18 5<|
 Zi 19 1 17 18<|
 Zl 20 1 19<|
 Zm 21 1<|
 Zm 22 5<|
 Zi 23 1 21 22<|
 Zl 24 1 23<|
 Zb 25 .neq 20 24 .nil)<| .cond (.t 25) (Zr (Zo (.mv 4 (.c (.bool false))) .nil) .ret) .skip)<| .rg (Zm 15 5<|
 Zk 16 .add 15 1<|
 Zm 5 16 .nil))<|Zr (Zo (.mv 4 (.c (.bool true))) .nil) .ret⟩
theorem Qaig:Qe Tryz.prog Tryz.f102=some c102:=by kernel_rfl
def c100:SFn:=⟨17,[.t 2],Zr (Zo (.box 1 2 30 (.t 0))<|
 Zo (.mv 2 (.c (.bool false))) .nil)<|Zr (Zf 3 1 1<|
 Zl 4 1 3<|
 Zq 5 false 101 [.t 4]<|
 Zm 6 5<|
 Zg 6 true (.fld 7 0 (.t 1))<|
 Zg 6 true (.ld 8 1 false (.t 7))<|
 Zg 6 true (.mv 9 (.t 8))<|
 Zg 9 true (.fld 10 1 (.t 1))<|
 Zg 9 true (.ld 11 1 false (.t 10))<|
 Zg 9 true (.len 12 (.t 11))<|
 Zg 9 true (.bin 13 .eql false (.t 12) (.c (Zz 0)))<|
 Zg 6 true (.pick 14 (.t 9) (.t 13) (.c (.bool false)))<|
 Zg 6 true (.un 15 .not (.t 14))<|
 Zo (.pick 16 (.t 6) (.t 15) (.c (.bool false)))<|
 Zm 2 16 .nil) .ret⟩
theorem Qaih:Qe Tryz.prog Tryz.f100=some c100:=by kernel_rfl
def c160:SFn:=⟨15,[.cell 4 2 true],Zr (Zo (.alloc 4 2 30 (.agg [.bool false,.nilS])) .nil)<|Zr (Zm 5 1<|
 Zq 6 false 157 [.t 5]<|
 Zm 1 6 .nil)<|Zr (Zm 7 0<|
 Zm 8 7<|
 Zg 8 true (.mv 9 (.t 1))<|
 Zg 8 true (.len 10 (.t 9))<|
 Zg 8 true (.bin 11 .gtr false (.t 10) (.c (Zz 0)))<|
 Zo (.pick 12 (.t 8) (.t 11) (.c (.bool false)))<|
 Zm 13 1<|
 Zo (.bld 14 [.bool false,.nilS] [(0,1,.t 12),(1,1,.t 13)])<|
 Zs 2 4 14 .nil) .ret⟩
theorem Qaii:Qe Tryz.prog Tryz.f160=some c160:=by kernel_rfl
def c159:SFn:=⟨8,[.cell 2 2 true],Zr (Zo (.box 1 2 30 (.t 0))<|
 Zo (.alloc 2 2 30 (.agg [.bool false,.nilS])) .nil)<|Zr (Zf 3 0 1<|
 Zl 4 1 3<|
 Zf 5 1 1<|
 Zl 6 1 5<|
 Zq 7 false 160 [.t 4,.t 6]<|
 Zs 2 2 7 .nil) .ret⟩
theorem Qaij:Qe Tryz.prog Tryz.f159=some c159:=by kernel_rfl
def c83:SFn:=⟨17,[.cell 2 2 true],Zr (Zo (.alloc 2 2 30 (.agg [.bool false,.nilS])) .nil)<| .seq (Zr (Zm 3 0<|
 Zk 4 .lss 3 0 .nil)<| .cond (.t 4) (Zr (Zm 5 0<|
 Zk 6 .add 5 1<|
 Zo (.un 7 .neg (.t 6))<|
 Zo (.conv 8 .u64 (.t 7))<|
 Zq 9 false 84 [.t 8]<|
 Zq 10 false 84 [.c (.int .u64 1)]<|
 Zq 11 false 161 [.t 9,.t 10]<|
 Zq 12 false 160 [.c (.bool true),.t 11]<|
 Zs 2 2 12 .nil) .ret) .skip)<|Zr (Zm 13 0<|
 Zo (.conv 14 .u64 (.t 13))<|
 Zq 15 false 84 [.t 14]<|
 Zq 16 false 160 [.c (.bool false),.t 15]<|
 Zs 2 2 16 .nil) .ret⟩
theorem Qal8:Qe Tryz.prog Tryz.f83=some c83:=by kernel_rfl
def c162:SFn:=⟨11,[.t 2],Zr (Zo (.box 1 2 30 (.t 0))<|
 Zc 2 0 .nil)<|Zr (Zh 3 2 1<|
 Zq 4 false 159 [.t 3]<|
 Zs 2 1 4 .nil)<| .seq (Zr (Zf 5 1 1<|
 Zl 6 1 5<|
 Zn 7 6<|
 Zk 8 .eql 7 0 .nil)<| .cond (.t 8) (Zr (Zc 2 0 .nil) .ret) .skip)<| .seq (Zr (Zf 9 0 1<|
 Zl 10 1 9 .nil)<| .cond (.t 10) (Zr (Zc 2 (-1) .nil) .ret) .skip)<|Zr (Zc 2 1 .nil) .ret⟩
theorem Qaik:Qe Tryz.prog Tryz.f162=some c162:=by kernel_rfl
def c151:SFn:=⟨38,[.t 4],Zr (Zo (.box 2 2 30 (.t 0))<|
 Zo (.box 3 2 30 (.t 1))<|
 Zc 4 0 .nil)<|Zr (Zh 5 2 2<|
 Zh 7 2 3<|
 Zq 6 true 159 [.t 5]<|
 Zq 8 true 159 [.t 7]<|
 Zs 2 2 6<|
 Zs 2 3 8 .nil)<| .seq (.block 0<|Zr (Zf 10 0 2<|
 Zl 11 1 10<|
 Zm 12 11<|
 Zg 12 true (.fld 13 0 (.t 3))<|
 Zg 12 true (.ld 14 1 false (.t 13))<|
 Zg 12 true (.un 15 .not (.t 14))<|
 Zo (.pick 16 (.t 12) (.t 15) (.c (.bool false)))<|
 Zm 9 16 .nil)<| .cond (.t 9) (Zr (Zc 4 (-1) .nil) .ret) (Zr (Zf 18 0 3<|
 Zl 19 1 18<|
 Zm 20 19<|
 Zg 20 true (.fld 21 0 (.t 2))<|
 Zg 20 true (.ld 22 1 false (.t 21))<|
 Zg 20 true (.un 23 .not (.t 22))<|
 Zo (.pick 24 (.t 20) (.t 23) (.c (.bool false)))<|
 Zm 17 24 .nil)<| .cond (.t 17) (Zr (Zc 4 1 .nil) .ret) (Zr (Zf 26 0 2<|
 Zl 27 1 26<|
 Zm 25 27 .nil)<| .cond (.t 25) (Zr (Zf 28 1 3<|
 Zl 29 1 28<|
 Zf 30 1 2<|
 Zl 31 1 30<|
 Zq 32 false 201 [.t 29,.t 31]<|
 Zm 4 32 .nil) .ret) .skip)))<|Zr (Zf 33 1 2<|
 Zl 34 1 33<|
 Zf 35 1 3<|
 Zl 36 1 35<|
 Zq 37 false 201 [.t 34,.t 36]<|
 Zm 4 37 .nil) .ret⟩
theorem Qail:Qe Tryz.prog Tryz.f151=some c151:=by kernel_rfl
def c149:SFn:=⟨48,[.cell 4 2 true],Zr (Zo (.box 2 2 30 (.t 0))<|
 Zo (.box 3 2 30 (.t 1))<|
 Zo (.alloc 4 2 30 (.agg [.bool false,.nilS])) .nil)<| .seq (Zr (Zf 9 0 2<|
 Zl 10 1 9<|
 Zf 11 0 3<|
 Zl 12 1 11<|
 Zo (.bin 13 .eql true (.t 10) (.t 12)) .nil)<| .cond (.t 13) (Zr (Zf 14 0 2<|
 Zl 15 1 14<|
 Zf 16 1 2<|
 Zl 17 1 16<|
 Zf 18 1 3<|
 Zl 19 1 18<|
 Zq 20 true 161 [.t 17,.t 19]<|
 Zq 21 true 160 [.t 15,.t 20]<|
 Zs 2 4 21 .nil) .ret) .skip)<| .seq (Zr (Zf 23 1 2<|
 Zl 24 1 23<|
 Zf 25 1 3<|
 Zl 26 1 25<|
 Zq 27 false 200 [.t 24,.t 26]<|
 Zm 22 27<|
 Zo (.ext 28 (.t 22) 0)<|
 Zo (.ext 29 (.t 22) 1)<|
 Zm 5 28<|
 Zm 6 29 .nil)<|Zr (Zm 30 6<|
 Zk 31 .eql 30 0 .nil)<| .cond (.t 31) (Zr (Zf 32 0 2<|
 Zl 33 1 32<|
 Zm 34 5<|
 Zq 35 false 160 [.t 33,.t 34]<|
 Zs 2 4 35 .nil) .ret) .skip)<|Zr (Zf 37 1 3<|
 Zl 38 1 37<|
 Zf 39 1 2<|
 Zl 40 1 39<|
 Zq 41 false 200 [.t 38,.t 40]<|
 Zm 36 41<|
 Zo (.ext 42 (.t 36) 0)<|
 Zo (.ext 43 (.t 36) 1)<|
 Zm 7 42<|
 Zm 8 43 .nil)<|Zr (Zf 44 0 3<|
 Zl 45 1 44<|
 Zm 46 7<|
 Zq 47 false 160 [.t 45,.t 46]<|
 Zs 2 4 47 .nil) .ret⟩
theorem Qaim:Qe Tryz.prog Tryz.f149=some c149:=by kernel_rfl
def c146:SFn:=⟨16,[.cell 4 2 true],Zr (Zo (.box 2 2 30 (.t 0))<|
 Zo (.box 3 2 30 (.t 1))<|
 Zo (.alloc 4 2 30 (.agg [.bool false,.nilS])) .nil)<|Zr (Zf 5 0 2<|
 Zl 6 1 5<|
 Zf 7 0 3<|
 Zl 8 1 7<|
 Zo (.bin 9 .neq true (.t 6) (.t 8))<|
 Zf 10 1 2<|
 Zl 11 1 10<|
 Zf 12 1 3<|
 Zl 13 1 12<|
 Zq 14 true 147 [.t 11,.t 13]<|
 Zq 15 true 160 [.t 9,.t 14]<|
 Zs 2 4 15 .nil) .ret⟩
theorem Qain:Qe Tryz.prog Tryz.f146=some c146:=by kernel_rfl
def c56:SFn:=⟨27,[.t 2],Zr (Zo (.box 1 3 32 (.t 0))<|
 Zo (.mv 2 (.c (.bool false))) .nil)<|Zr (Zf 3 0 1<|
 Zh 4 2 3<|
 Zq 5 false 100 [.t 4]<|
 Zm 6 5<|
 Zg 6 true (.fld 7 2 (.t 1))<|
 Zg 6 true (.ld 8 1 false (.t 7))<|
 Zg 6 true (.call (some 9) false (.c (.fn 101 [] [])) [.t 8])<|
 Zo (.pick 10 (.t 6) (.t 9) (.c (.bool false)))<|
 Zm 11 10<|
 Zg 11 true (.fld 12 0 (.t 1))<|
 Zg 11 true (.fld 13 1 (.t 12))<|
 Zg 11 true (.ld 14 1 false (.t 13))<|
 Zg 11 true (.fld 15 2 (.t 1))<|
 Zg 11 true (.ld 16 1 false (.t 15))<|
 Zg 11 true (.call (some 17) false (.c (.fn 103 [] [])) [.t 14,.t 16])<|
 Zg 11 true (.call (some 18) false (.c (.fn 84 [] [])) [.c (.int .u64 1)])<|
 Zg 11 true (.call (some 19) false (.c (.fn 102 [] [])) [.t 17,.t 18])<|
 Zo (.pick 20 (.t 11) (.t 19) (.c (.bool false)))<|
 Zm 21 20<|
 Zg 21 true (.fld 22 2 (.t 1))<|
 Zg 21 true (.ld 23 1 false (.t 22))<|
 Zg 21 true (.len 24 (.t 23))<|
 Zg 21 true (.bin 25 .gtr false (.t 24) (.c (Zz 0)))<|
 Zo (.pick 26 (.t 21) (.t 25) (.c (.bool false)))<|
 Zm 2 26 .nil) .ret⟩
theorem Qal9:Qe Tryz.prog Tryz.f56=some c56:=by kernel_rfl
def c82:SFn:=⟨44,[.cell 4 3 true],Zr (Zo (.box 2 2 30 (.t 0))<|
 Zo (.alloc 4 3 32 (.agg [.bool false,.nilS,.nilS])) .nil)<| .seq (Zr (Zm 12 1<|
 Zq 13 false 157 [.t 12]<|
 Zn 14 13<|
 Zk 15 .eql 14 0 .nil)<| .cond (.t 15) (Zr (Zq 16 false 84 [.c (.int .u64 1)]<|
 Zo (.bld 17 [.bool false,.nilS,.nilS] [(2,1,.t 16)])<|
 Zs 3 4 17 .nil) .ret) .skip)<|Zr (Zf 18 1 2<|
 Zl 19 1 18<|
 Zm 20 1<|
 Zq 21 false 103 [.t 19,.t 20]<|
 Zm 5 21 .nil)<|Zr (Zf 23 1 2<|
 Zl 24 1 23<|
 Zm 25 5<|
 Zq 26 false 158 [.t 24,.t 25]<|
 Zm 22 26<|
 Zo (.ext 27 (.t 22) 0)<|
 Zo (.ext 28 (.t 22) 1)<|
 Zo (.ext 29 (.t 22) 2)<|
 Zm 6 27<|
 Zm 7 28<|
 Zm 8 29 .nil)<|Zr (Zm 31 1<|
 Zm 32 5<|
 Zq 33 false 158 [.t 31,.t 32]<|
 Zm 30 33<|
 Zo (.ext 34 (.t 30) 0)<|
 Zo (.ext 35 (.t 30) 1)<|
 Zo (.ext 36 (.t 30) 2)<|
 Zm 9 34<|
 Zm 10 35<|
 Zm 11 36 .nil)<|Zr (Zf 37 0 2<|
 Zl 38 1 37<|
 Zm 39 6<|
 Zo (.bld 40 [.bool false,.nilS] [(0,1,.t 38),(1,1,.t 39)])<|
 Zq 41 false 159 [.t 40]<|
 Zm 42 9<|
 Zo (.bld 43 [.bool false,.nilS,.nilS] [(0,2,.t 41),(2,1,.t 42)])<|
 Zs 3 4 43 .nil) .ret⟩
theorem Qama:Qe Tryz.prog Tryz.f82=some c82:=by kernel_rfl
def c148:SFn:=⟨8,[.cell 2 3 true],Zr (Zo (.box 1 3 32 (.t 0))<|
 Zo (.alloc 2 3 32 (.agg [.bool false,.nilS,.nilS])) .nil)<|Zr (Zf 3 0 1<|
 Zh 4 2 3<|
 Zf 5 2 1<|
 Zl 6 1 5<|
 Zq 7 false 82 [.t 4,.t 6]<|
 Zs 3 2 7 .nil) .ret⟩
theorem Qaio:Qe Tryz.prog Tryz.f148=some c148:=by kernel_rfl
def c37:SFn:=⟨7,[.cell 2 3 true],Zr (Zo (.alloc 2 3 32 (.agg [.bool false,.nilS,.nilS])) .nil)<|Zr (Zm 3 0<|
 Zq 4 false 83 [.t 3]<|
 Zq 5 false 84 [.c (.int .u64 1)]<|
 Zq 6 false 82 [.t 4,.t 5]<|
 Zs 3 2 6 .nil) .ret⟩
theorem Qamb:Qe Tryz.prog Tryz.f37=some c37:=by kernel_rfl
def c150:SFn:=⟨5,[.cell 2 2 true],Zr (Zo (.alloc 2 2 30 (.agg [.bool false,.nilS])) .nil)<|Zr (Zm 3 0<|
 Zo (.bld 4 [.bool false,.nilS] [(1,1,.t 3)])<|
 Zs 2 2 4 .nil) .ret⟩
theorem Qaip:Qe Tryz.prog Tryz.f150=some c150:=by kernel_rfl
def c85:SFn:=⟨7,[.t 2],Zr (Zo (.box 1 3 32 (.t 0))<|
 Zc 2 0 .nil)<|Zr (Zh 3 3 1<|
 Zq 4 false 148 [.t 3]<|
 Zo (.fldv 5 0 2 true (.t 4))<|
 Zq 6 false 162 [.t 5]<|
 Zm 2 6 .nil) .ret⟩
theorem Qamc:Qe Tryz.prog Tryz.f85=some c85:=by kernel_rfl
def c72:SFn:=⟨22,[.t 4],Zr (Zo (.box 2 3 32 (.t 0))<|
 Zo (.box 3 3 32 (.t 1))<|
 Zc 4 0 .nil)<|Zr (Zh 5 3 2<|
 Zh 7 3 3<|
 Zq 6 true 148 [.t 5]<|
 Zq 8 true 148 [.t 7]<|
 Zs 3 2 6<|
 Zs 3 3 8 .nil)<|Zr (Zf 9 0 2<|
 Zh 10 2 9<|
 Zf 11 2 3<|
 Zl 12 1 11<|
 Zf 15 0 3<|
 Zh 16 2 15<|
 Zf 17 2 2<|
 Zl 18 1 17<|
 Zq 13 true 150 [.t 12]<|
 Zq 14 true 146 [.t 10,.t 13]<|
 Zq 19 true 150 [.t 18]<|
 Zq 20 true 146 [.t 16,.t 19]<|
 Zq 21 true 151 [.t 14,.t 20]<|
 Zm 4 21 .nil) .ret⟩
theorem Qamd:Qe Tryz.prog Tryz.f72=some c72:=by kernel_rfl
def c71:SFn:=⟨28,[.cell 4 3 true],Zr (Zo (.box 2 3 32 (.t 0))<|
 Zo (.box 3 3 32 (.t 1))<|
 Zo (.alloc 4 3 32 (.agg [.bool false,.nilS,.nilS])) .nil)<|Zr (Zh 5 3 2<|
 Zh 7 3 3<|
 Zq 6 true 148 [.t 5]<|
 Zq 8 true 148 [.t 7]<|
 Zs 3 2 6<|
 Zs 3 3 8 .nil)<|Zr (Zf 9 0 2<|
 Zh 10 2 9<|
 Zf 11 2 3<|
 Zl 12 1 11<|
 Zf 15 0 3<|
 Zh 16 2 15<|
 Zf 17 2 2<|
 Zl 18 1 17<|
 Zf 22 2 2<|
 Zl 23 1 22<|
 Zf 24 2 3<|
 Zl 25 1 24<|
 Zq 13 true 150 [.t 12]<|
 Zq 14 true 146 [.t 10,.t 13]<|
 Zq 19 true 150 [.t 18]<|
 Zq 20 true 146 [.t 16,.t 19]<|
 Zq 21 true 149 [.t 14,.t 20]<|
 Zq 26 true 147 [.t 23,.t 25]<|
 Zq 27 true 82 [.t 21,.t 26]<|
 Zs 3 4 27 .nil) .ret⟩
theorem Qame:Qe Tryz.prog Tryz.f71=some c71:=by kernel_rfl
def c69:SFn:=⟨16,[.cell 4 3 true],Zr (Zo (.box 2 3 32 (.t 0))<|
 Zo (.box 3 3 32 (.t 1))<|
 Zo (.alloc 4 3 32 (.agg [.bool false,.nilS,.nilS])) .nil)<|Zr (Zf 5 0 2<|
 Zh 6 2 5<|
 Zf 7 0 3<|
 Zh 8 2 7<|
 Zf 10 2 2<|
 Zl 11 1 10<|
 Zf 12 2 3<|
 Zl 13 1 12<|
 Zq 9 true 146 [.t 6,.t 8]<|
 Zq 14 true 147 [.t 11,.t 13]<|
 Zq 15 true 82 [.t 9,.t 14]<|
 Zs 3 4 15 .nil) .ret⟩
theorem Qamf:Qe Tryz.prog Tryz.f69=some c69:=by kernel_rfl
end Go.Proofs.YtonfajmchebkeaaGreat
namespace Go.Proofs.YtonfajmchebkeaaGreat
open Go Go.FW
set_option linter.unusedSimpArgs false
set_option linter.unusedVariables false
set_option maxRecDepth 100000
theorem Qbx{l:List Nat}(hv:Qh l)(hl:l.length<2^42):Qd Tryz.prog 157 [PV.nat l] (· =PV.num (val l)):=by
 have hcut:=Qmx hv
 refine Qf Qk Tryz.func157 rfl Qah5 (by simp[c157]) fun C hP=> ?_;simp only[c157,Zo,Zg,Zm,Zc,Zf,Zl,Zh,Zs,Zi,Zb,Zk,Zn,Zu,Zq,Zr,Zz]
 simp+decide (disch:=first|exact D0|fail) only[go_sem,↓reduceIte]
 refine Q6 (by repeat (first|exact Qx|exact Qp|exact Qq|exact Qr|exact Qt|apply Qo|apply Qw|apply Q4|apply Qac|apply Qad|apply Qm|apply Q5)) [(3,3),(7,18)] [] (fun m J hp=>m<=l.length/\cut l m=dig (val l)/\J 3= .int .i64 m/\hp=hp0) l.length ?_ ?_
 ·refine⟨Nat.le_refl _,hcut,?_⟩
  simp+decide (disch:=first|exact D0|fail) only[go_sem,↓reduceIte]
 rintro n J _ ⟨hn,hc,h3,rfl⟩
 simp+decide (disch:=first|exact D1 h3|fail) only[go_sem,↓reduceIte,h3]
 refine Qan (fun hg=> ?_) (fun hg=> ?_)
 ·obtain _|n:=n
  ·omega
  have e:((n+1:Nat):Int)-1=n:=by omega
  simp only[cut]at hc
  simp+decide (disch:=first|exact D2 h3 e|fail) only[go_sem,↓reduceIte,h3,e]
  refine Qb (fun hz=> ?_) (fun hz=> ?_)
  ·rw[if_pos (by grind)]at hc
   simp+decide (disch:=first|exact D2 h3 e|fail) only[go_sem,↓reduceIte,h3,e]
   refine Qi n (by omega) ⟨by omega,hc,?_⟩
   simp+decide (disch:=first|exact D0|fail) only[go_sem,↓reduceIte]
  ·rw[if_neg (by grind)]at hc
   have hlt:(l.take (n+1)).length<2^42:=by rw[List.length_take];omega
   simp+decide (disch:=first|exact E2 h3 e|fail) only[go_sem,↓reduceIte,h3,e,Q7,List.contains_cons,List.contains_nil,List.flatMap_cons,List.flatMap_nil,List.append_nil]
   exact Qc (by rw[List.take_of_length_le (by simp),hc]) rfl
 ·obtain rfl:n=0:=by omega
  simp+decide (disch:=first|omega|rfl|(simp+decide only[go_sem,↓reduceIte,h3,List.take_zero,List.map_nil,List.length_nil]<;>rfl)|fail) only[go_sem,↓reduceIte,h3,List.take_zero,List.map_nil,List.length_nil]
  rw[Qnu (ys:=[]) rfl (by omega) (by simp) (by simp)]
  simp+decide (disch:=first|exact E0|fail) only[go_sem,↓reduceIte,Q7,List.contains_cons,List.contains_nil,List.flatMap_cons,List.flatMap_nil,List.append_nil]
  exact Qc (by show _=PV.nat (dig (val l));rw[<-hc];rfl) rfl
theorem Qc9{n:Nat}(hn:n<18446744073709551616):Qd Tryz.prog 84 [.int .u64 n] (· =PV.num n):=by
 have hlen:=Qfw hn
 unfold nl at hlen
 refine Qf Qk Tryz.func84 rfl Qal7 (by simp[c84]) fun C hP=> ?_;simp only[c84,Zo,Zg,Zm,Zc,Zf,Zl,Zh,Zs,Zi,Zb,Zk,Zn,Zu,Zq,Zr,Zz]
 simp+decide (disch:=first|exact D0|fail) only[go_sem,↓reduceIte]
 refine Qiq 3 900 1 191 (by omega) T0 ?_
 refine Q6 (by repeat (first|exact Qx|exact Qp|exact Qq|exact Qr|exact Qt|apply Qo|apply Qw|apply Q4|apply Qac|apply Qad|apply Qm|apply Q5)) [(0,0),(3,13)] [10,11,900] (fun m J hp=>∃done:List Nat,dig n=done++dig m/\m<=n/\J 0= .int .u64 m/\J 3= .ms 900 done.length/\hp 900=some ⟨1,191,Qa5 done,false⟩) n ?_ ?_
 ·refine⟨[],rfl,Nat.le_refl _,?_⟩
  simp+decide (disch:=first|exact D0|fail) only[go_sem,↓reduceIte]
 rintro m J hp ⟨done,hd,hm,h0,h3,hh⟩
 rw[hd,List.length_append]at hlen
 simp+decide (disch:=first|exact D2 h0 h3|fail) only[go_sem,↓reduceIte,h0,h3]
 refine Qb (fun hz=> ?_) (fun hz=> ?_)
 ·have hne:m≠0:=by omega
  have hd2:dig n=(done++[m%65536])++dig (m/65536):=by rw[hd,Qhr hne];simp
  simp+decide (disch:=first|omega|rfl|(simp+decide only[go_sem,↓reduceIte,h0,h3,Nat.mod_mod]<;>rfl)|fail) only[go_sem,↓reduceIte,h0,h3,Nat.mod_mod]
  rw[Qao (f:=fun(x:Nat)=> .int .u16 x) (y:=m%65536) (xs:=done) (ty':=191) (fz:=false) (T1 hh) Tr0 (by omega) rfl (by omega) (by omega)]
  simp+decide (disch:=first|exact D2 h0 h3|fail) only[go_sem,↓reduceIte,h0,h3]
  refine Qi (m/65536) (by omega) ⟨done++[m%65536],hd2,by omega,?_⟩
  simp+decide (disch:=first|exact D2 h0 h3|fail) only[go_sem,↓reduceIte,h0,h3]
  simp
 ·obtain rfl:m=0:=by omega
  rw[Qa6,List.append_nil]at hd
  simp+decide (disch:=first|exact E2 h3 hh|fail) only[go_sem,↓reduceIte,h3,hh,Q7,List.contains_cons,List.contains_nil,List.flatMap_cons,List.flatMap_nil,List.append_nil]
  exact Qc (by show _=PV.nat (dig n);rw[hd,List.take_of_length_le (by simp)]) rfl
theorem Qbr{a:List Nat}{i:Nat}(ha:Qh a)(hl:a.length<2^43):Qd Tryz.prog 199 [PV.nat a,.int .i64 i] (· = .int .i64 (dg a i:Nat)):=by
 refine Qf Qk Tryz.func199 rfl Qah7 (by simp[c199]) fun C hP=> ?_;simp only[c199,Zo,Zg,Zm,Zc,Zf,Zl,Zh,Zs,Zi,Zb,Zk,Zn,Zu,Zq,Zr,Zz]
 simp+decide (disch:=first|exact D0|fail) only[go_sem,↓reduceIte]
 refine Qb (fun hi=> ?_) (fun hi=> ?_)
 ·have hi':i<a.length:=by omega
  have hai:=Qap ha hi'
  have hg:dg a i=a[i]:=Qbn hi'
  simp+decide (disch:=first|exact D0|fail) only[go_sem,↓reduceIte]
  exact Qc (by rw[hg]) rfl
 ·simp+decide (disch:=first|exact D0|fail) only[go_sem,↓reduceIte]
  exact Qc (by rw[dg,Qbo (by omega)];rfl) rfl
theorem Qha{a:List Nat}(ha:Qh a)(hl:a.length<=4):Qd Tryz.prog 214 [PV.nat a] (· = .int .u64 (val a:Nat)):=by
 have hlt:∀k,val (a.drop k)<18446744073709551616:=fun k=>by
  have h1:=Qf4 (Qh1 ha k)
  have:65536^(a.drop k).length<=65536^4:=Nat.pow_le_pow_right (by omega) (by rw[List.length_drop];omega)
  omega
 refine Qf Qk Tryz.func214 rfl Qah6 (by simp[c214]) fun C hP=> ?_;simp only[c214,Zo,Zg,Zm,Zc,Zf,Zl,Zh,Zs,Zi,Zb,Zk,Zn,Zu,Zq,Zr,Zz]
 simp+decide (disch:=first|exact D0|fail) only[go_sem,↓reduceIte]
 refine Q6 (by repeat (first|exact Qx|exact Qp|exact Qq|exact Qr|exact Qt|apply Qo|apply Qw|apply Q4|apply Qac|apply Qad|apply Qm|apply Q5)) [(3,4),(8,19)] [] (fun k J hp=>k<=a.length/\J 3= .int .u64 (val (a.drop k):Nat)/\J 4= .int .i64 ((k:Int)-1)) a.length ?_ ?_
 ·refine⟨Nat.le_refl _,?_⟩
  simp+decide (disch:=first|exact D0|fail) only[go_sem,↓reduceIte]
  simp[val]
 rintro k J h ⟨hk,h3,h4⟩
 simp+decide (disch:=first|exact D2 h3 h4|fail) only[go_sem,↓reduceIte,h3,h4]
 refine Qb (fun hg=> ?_) (fun hg=> ?_)
 ·obtain _|n:=k
  ·omega
  have hn:n<a.length:=by omega
  have han:=Qap ha hn
  have e:((n+1:Nat):Int)-1=n:=by omega
  have hv:=Qcw hn
  have h1:=hlt n
  generalize hxx:a[n]=x at *
  have e2:val (a.drop (n+1))*65536+x=val (a.drop n):=by omega
  simp+decide (disch:=first|exact D5 h3 h4 e hxx e2|fail) only[go_sem,↓reduceIte,h3,h4,e,hxx,e2]
  refine Qi n (by omega) ⟨by omega,?_⟩
  simp+decide (disch:=first|exact D0|fail) only[go_sem,↓reduceIte]
 ·obtain rfl:k=0:=by omega
  simp+decide (disch:=first|omega|rfl|(simp+decide only[go_sem,↓reduceIte,h3,List.drop_zero]<;>rfl)|fail) only[go_sem,↓reduceIte,h3,List.drop_zero]
  exact Qc rfl rfl
theorem Qja{a b:List Nat}(ha:Qh a)(hb:Qh b)(hla:a.length<2^42)(hlb:b.length<2^42):Qd Tryz.prog 201 [PV.nat a,PV.nat b] (· = .int .i64 (Qd5 (val a) (val b))):=by
 refine Qf Qk Tryz.func201 rfl Qah8 (by simp[c201]) fun C hP=> ?_;simp only[c201,Zo,Zg,Zm,Zc,Zf,Zl,Zh,Zs,Zi,Zb,Zk,Zn,Zu,Zq,Zr,Zz]
 simp+decide (disch:=first|omega|rfl|(simp+decide only[go_sem,↓reduceIte,Qve]<;>rfl)|fail) only[go_sem,↓reduceIte,Qve]
 refine Q6 (by repeat (first|exact Qx|exact Qp|exact Qq|exact Qr|exact Qt|apply Qo|apply Qw|apply Q4|apply Qac|apply Qad|apply Qm|apply Q5)) [(4,5),(12,29)] [] (fun k J hp=>k<=max a.length b.length/\val (a.drop k)=val (b.drop k)/\J 5= .int .i64 ((k:Int)-1)) (max a.length b.length) ?_ ?_
 ·refine⟨Nat.le_refl _,?_,?_⟩
  ·rw[List.drop_of_length_le (by omega),List.drop_of_length_le (by omega)]
  ·simp+decide (disch:=first|exact D0|fail) only[go_sem,↓reduceIte]
 rintro k J h ⟨hk,hv,h5⟩
 simp+decide (disch:=first|exact D1 h5|fail) only[go_sem,↓reduceIte,h5]
 refine Qb (fun hg=> ?_) (fun hg=> ?_)
 ·obtain _|n:=k
  ·omega
  have e:((n+1:Nat):Int)-1=n:=by omega
  have e1:=Qhs a n
  have e2:=Qhs b n
  have d1:=Qod ha n
  have d2:=Qod hb n
  simp+decide (disch:=first|exact D2 h5 e|fail) only[go_sem,↓reduceIte,h5,e]
  refine Qa hP (Qbr ha (by omega)) rfl rfl rfl ?_
  simp+decide (disch:=first|exact D2 h5 e|fail) only[go_sem,↓reduceIte,h5,e]
  refine Qa hP (Qbr hb (by omega)) rfl rfl rfl ?_
  simp+decide (disch:=first|exact D2 h5 e|fail) only[go_sem,↓reduceIte,h5,e]
  refine Qb (fun hc=> ?_) (fun hc=> ?_)
  ·have hlt:=Qrj (a:=a) (b:=b) ha (i:=n) (by omega)
   simp+decide (disch:=first|exact D0|fail) only[go_sem,↓reduceIte]
   exact Qc (by rw[Qu3 hlt]) rfl
  simp+decide (disch:=first|exact D2 h5 e|fail) only[go_sem,↓reduceIte,h5,e]
  refine Qa hP (Qbr ha (by omega)) rfl rfl rfl ?_
  simp+decide (disch:=first|exact D2 h5 e|fail) only[go_sem,↓reduceIte,h5,e]
  refine Qa hP (Qbr hb (by omega)) rfl rfl rfl ?_
  simp+decide (disch:=first|exact D2 h5 e|fail) only[go_sem,↓reduceIte,h5,e]
  refine Qb (fun hc2=> ?_) (fun hc2=> ?_)
  ·have hlt:=Qrj (a:=b) (b:=a) hb (i:=n) (by omega)
   simp+decide (disch:=first|exact D0|fail) only[go_sem,↓reduceIte]
   exact Qc (by rw[Qu4 hlt]) rfl
  ·simp+decide (disch:=first|exact D2 h5 e|fail) only[go_sem,↓reduceIte,h5,e]
   refine Qi n (by omega) ⟨by omega,by omega,?_⟩
   simp+decide (disch:=first|exact D0|fail) only[go_sem,↓reduceIte]
 ·obtain rfl:k=0:=by omega
  simp+decide (disch:=first|exact D0|fail) only[go_sem,↓reduceIte]
  exact Qc (by rw[Q2c (by simpa using hv)]) rfl
end Go.Proofs.YtonfajmchebkeaaGreat
namespace Go.Proofs.YtonfajmchebkeaaGreat
open Go Go.FW
set_option linter.unusedSimpArgs false
set_option linter.unusedVariables false
set_option maxRecDepth 100000
theorem Qo8{a:List Nat}(ha:Qh a)(hl:a.length<2^43):Qd Tryz.prog 101 [PV.nat a] (· = .bool (decide (a.getLast? ≠some 0))):=by
 refine Qf Qk Tryz.func101 rfl Qaif (by simp[c101]) fun C hP=> ?_;simp only[c101,Zo,Zg,Zm,Zc,Zf,Zl,Zh,Zs,Zi,Zb,Zk,Zn,Zu,Zq,Zr,Zz]
 simp+decide (disch:=first|exact D0|fail) only[go_sem,↓reduceIte]
 refine Qaa (fun h0=> ?_) (fun h0=> ?_)
 ·have:a=[]:=List.length_eq_zero_iff.1 (by omega)
  subst this
  simp+decide (disch:=first|exact D0|fail) only[go_sem,↓reduceIte]
  exact Qc (by simp) rfl
 ·obtain⟨k,hk⟩:∃k,a.length=k+1:=⟨a.length-1,by omega⟩
  have hlast:=Qzm hk
  have e:((k+1:Nat):Int)-1=k:=by omega
  generalize hy:a[k]'(by omega)=y at *
  simp+decide (disch:=first|exact D3 hk e hy|fail) only[go_sem,↓reduceIte,hk,e,hy]
  refine Qc (congrArg PV.bool ?_) rfl
  rw[hlast]
  exact decide_eq_decide.2 ⟨fun h h'=>h (by injection h' with h';rw[h'];rfl),fun h h'=>h (by rw[show y=0 by omega])⟩
theorem Qz8{a b:List Nat}(hla:a.length<2^43)(hlb:b.length<2^43):Qd Tryz.prog 102 [PV.nat a,PV.nat b] (· = .bool (decide (a=b))):=by
 refine Qf Qk Tryz.func102 rfl Qaig (by simp[c102]) fun C hP=> ?_;simp only[c102,Zo,Zg,Zm,Zc,Zf,Zl,Zh,Zs,Zi,Zb,Zk,Zn,Zu,Zq,Zr,Zz]
 simp+decide (disch:=first|exact D0|fail) only[go_sem,↓reduceIte]
 refine Qb (fun h0=> ?_) (fun h0=> ?_)
 ·simp+decide (disch:=first|exact D0|fail) only[go_sem,↓reduceIte]
  exact Qc (congrArg PV.bool (by rw[decide_eq_false];rintro rfl;exact h0 rfl)) rfl
 have hlen:a.length=b.length:=by omega
 simp+decide (disch:=first|exact D0|fail) only[go_sem,↓reduceIte]
 refine Q6 (by repeat (first|exact Qx|exact Qp|exact Qq|exact Qr|exact Qt|apply Qo|apply Qw|apply Q4|apply Qac|apply Qad|apply Qm|apply Q5)) [(4,5),(11,25)] [] (fun n J hp=>∃i,n=a.length-i/\i<=a.length/\a.take i=b.take i/\J 5= .int .i64 (i:Nat)) a.length ?_ ?_
 ·refine⟨0,rfl,by omega,by simp,?_⟩
  simp+decide (disch:=first|exact D0|fail) only[go_sem,↓reduceIte]
  rfl
 rintro _ J h ⟨i,rfl,hi,he,h5⟩
 simp+decide (disch:=first|exact D1 h5|fail) only[go_sem,↓reduceIte,h5]
 refine Qb (fun hg=> ?_) (fun hg=> ?_)
 ·have hi':i<a.length:=by omega
  have hib:i<b.length:=by omega
  have ta:=List.take_succ_eq_append_getElem hi'
  have tb:=List.take_succ_eq_append_getElem hib
  have hne:a=b->a[i]=b[i]:=fun h=>by subst h;rfl
  generalize hx:a[i]=x at *
  generalize hy:b[i]=y at *
  simp+decide (disch:=first|exact D3 h5 hx hy|fail) only[go_sem,↓reduceIte,h5,hx,hy]
  refine Qb (fun hc=> ?_) (fun hc=> ?_)
  ·simp+decide (disch:=first|exact D0|fail) only[go_sem,↓reduceIte]
   exact Qc (congrArg PV.bool (by rw[decide_eq_false];intro h;exact hc (by rw[hne h]))) rfl
  ·simp+decide (disch:=first|exact D1 h5|fail) only[go_sem,↓reduceIte,h5]
   refine Qi (a.length-(i+1)) (by omega) ⟨i+1,rfl,by omega,by rw[ta,tb,he,show x=y by omega],?_⟩
   simp+decide (disch:=first|exact D0|fail) only[go_sem,↓reduceIte]
 ·obtain rfl:i=a.length:=by omega
  rw[List.take_length,hlen,List.take_length]at he
  simp+decide (disch:=first|exact D0|fail) only[go_sem,↓reduceIte]
  exact Qc (congrArg PV.bool (by rw[he];simp)) rfl
theorem Qro{a b:List Nat}(ha:Qh a)(hb:Qh b)(hla:a.length<2^40)(hlb:b.length<2^40):Qd Tryz.prog 161 [PV.nat a,PV.nat b] (· =PV.num (val a+val b)):=by
 refine Qf Qk Tryz.func161 rfl Qah9 (by simp[c161]) fun C hP=> ?_;simp only[c161,Zo,Zg,Zm,Zc,Zf,Zl,Zh,Zs,Zi,Zb,Zk,Zn,Zu,Zq,Zr,Zz]
 simp+decide (disch:=first|exact D0|fail) only[go_sem,↓reduceIte]
 refine Qiq 5 900 1 191 (by omega) T0 ?_
 refine Q6 (by repeat (first|exact Qx|exact Qp|exact Qq|exact Qr|exact Qt|apply Qo|apply Qw|apply Q4|apply Qac|apply Qad|apply Qm|apply Q5)) [(5,41)] [38,39,900] (fun m J hp=>∃(i c:Nat)(out:List Nat),m=2*(max a.length b.length-i)+c/\c<=1/\i<=max a.length b.length+1/\(i<=max a.length b.length∨c=0)/\out.length=i/\Qh out/\val out+65536^i*(c+val (a.drop i)+val (b.drop i))=val a+val b/\J 5= .ms 900 out.length/\J 6= .int .i64 c/\J 7= .int .i64 i/\hp 900=some ⟨1,191,Qa5 out,false⟩) (2*max a.length b.length) ?_ ?_
 ·refine⟨0,0,[],rfl,by omega,by omega,by omega,rfl,Qcx,by simp[val],?_⟩
  simp+decide (disch:=first|exact D0|fail) only[go_sem,↓reduceIte]
  simp
 rintro _ J h ⟨i,c,out,rfl,hc,hi,hi2,hol,hout,hv,h5,h6,h7,hh⟩
 have e1:=Qhs a i
 have e2:=Qhs b i
 have d1:=Qod ha i
 have d2:=Qod hb i
 simp+decide (disch:=first|exact D3 h5 h6 h7|fail) only[go_sem,↓reduceIte,h5,h6,h7]
 refine Qaa (fun hg=> ?_) (fun hg=> ?_)
 ·have hlt:i<max a.length b.length:=by omega
  have hs1:(dg a i+dg b i+c)/65536<=1:=by omega
  have hstep:val (out++[(dg a i+dg b i+c)%65536])+65536^(i+1)*((dg a i+dg b i+c)/65536+val (a.drop (i+1))+val (b.drop (i+1)))=val a+val b:=by
   rw[Qof,hol,Nat.pow_succ,<-hv,e1,e2]
   have:=Nat.div_add_mod (dg a i+dg b i+c) 65536
   generalize 65536^i=P at *
   generalize(dg a i+dg b i+c)/65536=q at *
   generalize(dg a i+dg b i+c)%65536=r at *
   have e:c+(dg a i+65536*val (a.drop (i+1)))+(dg b i+65536*val (b.drop (i+1)))=r+65536*(q+val (a.drop (i+1))+val (b.drop (i+1))):=by omega
   rw[e,Nat.mul_add P,Nat.mul_assoc];omega
  simp+decide (disch:=first|exact D3 h5 h6 h7|fail) only[go_sem,↓reduceIte,h5,h6,h7]
  refine Qa hP (Qbr ha (by omega)) rfl rfl rfl ?_
  simp+decide (disch:=first|exact D3 h5 h6 h7|fail) only[go_sem,↓reduceIte,h5,h6,h7]
  refine Qa hP (Qbr hb (by omega)) rfl rfl rfl ?_
  simp+decide (disch:=first|omega|rfl|(simp+decide only[go_sem,↓reduceIte,h5,h6,h7,Nat.mod_mod]<;>rfl)|fail) only[go_sem,↓reduceIte,h5,h6,h7,Nat.mod_mod]
  rw[Qao (f:=fun(x:Nat)=> .int .u16 x) (y:=(dg a i+dg b i+c)%65536) (xs:=out) (ty':=191) (fz:=false) (T1 hh) Tr0 (by omega) rfl (by omega) (by omega)]
  simp+decide (disch:=first|exact D3 h5 h6 h7|fail) only[go_sem,↓reduceIte,h5,h6,h7]
  refine Qi (2*(max a.length b.length-(i+1))+(dg a i+dg b i+c)/65536) ?_ ⟨i+1,(dg a i+dg b i+c)/65536,out++[(dg a i+dg b i+c)%65536],rfl,hs1,by omega,?_,by simp[hol],?_,hstep,?_⟩
  ·by_cases hlt:i<max a.length b.length
   ·omega
   ·have z1:dg a i=0:=by rw[dg,Qbo (by omega)]
    have z2:dg b i=0:=by rw[dg,Qbo (by omega)]
    rw[z1,z2];omega
  ·by_cases hlt:i<max a.length b.length
   ·omega
   ·have z1:dg a i=0:=by rw[dg,Qbo (by omega)]
    have z2:dg b i=0:=by rw[dg,Qbo (by omega)]
    rw[z1,z2];omega
  ·rw[Qbw];exact⟨hout,by intro z hz;simp at hz;omega⟩
  ·simp+decide (disch:=first|exact D0|fail) only[go_sem,↓reduceIte]
   simp
 simp+decide (disch:=first|exact D3 h5 h6 h7|fail) only[go_sem,↓reduceIte,h5,h6,h7]
 refine Qaa (fun hg2=> ?_) (fun hg2=> ?_)
 ·have hlt:i<max a.length b.length:=by omega
  have hs1:(dg a i+dg b i+c)/65536<=1:=by omega
  have hstep:val (out++[(dg a i+dg b i+c)%65536])+65536^(i+1)*((dg a i+dg b i+c)/65536+val (a.drop (i+1))+val (b.drop (i+1)))=val a+val b:=by
   rw[Qof,hol,Nat.pow_succ,<-hv,e1,e2]
   have:=Nat.div_add_mod (dg a i+dg b i+c) 65536
   generalize 65536^i=P at *
   generalize(dg a i+dg b i+c)/65536=q at *
   generalize(dg a i+dg b i+c)%65536=r at *
   have e:c+(dg a i+65536*val (a.drop (i+1)))+(dg b i+65536*val (b.drop (i+1)))=r+65536*(q+val (a.drop (i+1))+val (b.drop (i+1))):=by omega
   rw[e,Nat.mul_add P,Nat.mul_assoc];omega
  simp+decide (disch:=first|exact D3 h5 h6 h7|fail) only[go_sem,↓reduceIte,h5,h6,h7]
  refine Qa hP (Qbr ha (by omega)) rfl rfl rfl ?_
  simp+decide (disch:=first|exact D3 h5 h6 h7|fail) only[go_sem,↓reduceIte,h5,h6,h7]
  refine Qa hP (Qbr hb (by omega)) rfl rfl rfl ?_
  simp+decide (disch:=first|omega|rfl|(simp+decide only[go_sem,↓reduceIte,h5,h6,h7,Nat.mod_mod]<;>rfl)|fail) only[go_sem,↓reduceIte,h5,h6,h7,Nat.mod_mod]
  rw[Qao (f:=fun(x:Nat)=> .int .u16 x) (y:=(dg a i+dg b i+c)%65536) (xs:=out) (ty':=191) (fz:=false) (T1 hh) Tr0 (by omega) rfl (by omega) (by omega)]
  simp+decide (disch:=first|exact D3 h5 h6 h7|fail) only[go_sem,↓reduceIte,h5,h6,h7]
  refine Qi (2*(max a.length b.length-(i+1))+(dg a i+dg b i+c)/65536) ?_ ⟨i+1,(dg a i+dg b i+c)/65536,out++[(dg a i+dg b i+c)%65536],rfl,hs1,by omega,?_,by simp[hol],?_,hstep,?_⟩
  ·by_cases hlt:i<max a.length b.length
   ·omega
   ·have z1:dg a i=0:=by rw[dg,Qbo (by omega)]
    have z2:dg b i=0:=by rw[dg,Qbo (by omega)]
    rw[z1,z2];omega
  ·by_cases hlt:i<max a.length b.length
   ·omega
   ·have z1:dg a i=0:=by rw[dg,Qbo (by omega)]
    have z2:dg b i=0:=by rw[dg,Qbo (by omega)]
    rw[z1,z2];omega
  ·rw[Qbw];exact⟨hout,by intro z hz;simp at hz;omega⟩
  ·simp+decide (disch:=first|exact D0|fail) only[go_sem,↓reduceIte]
   simp
 simp+decide (disch:=first|exact D3 h5 h6 h7|fail) only[go_sem,↓reduceIte,h5,h6,h7]
 refine Qb (fun hg3=> ?_) (fun hg3=> ?_)
 ·have hib:i<=max a.length b.length:=by omega
  have hs1:(dg a i+dg b i+c)/65536<=1:=by omega
  have hstep:val (out++[(dg a i+dg b i+c)%65536])+65536^(i+1)*((dg a i+dg b i+c)/65536+val (a.drop (i+1))+val (b.drop (i+1)))=val a+val b:=by
   rw[Qof,hol,Nat.pow_succ,<-hv,e1,e2]
   have:=Nat.div_add_mod (dg a i+dg b i+c) 65536
   generalize 65536^i=P at *
   generalize(dg a i+dg b i+c)/65536=q at *
   generalize(dg a i+dg b i+c)%65536=r at *
   have e:c+(dg a i+65536*val (a.drop (i+1)))+(dg b i+65536*val (b.drop (i+1)))=r+65536*(q+val (a.drop (i+1))+val (b.drop (i+1))):=by omega
   rw[e,Nat.mul_add P,Nat.mul_assoc];omega
  simp+decide (disch:=first|exact D3 h5 h6 h7|fail) only[go_sem,↓reduceIte,h5,h6,h7]
  refine Qa hP (Qbr ha (by omega)) rfl rfl rfl ?_
  simp+decide (disch:=first|exact D3 h5 h6 h7|fail) only[go_sem,↓reduceIte,h5,h6,h7]
  refine Qa hP (Qbr hb (by omega)) rfl rfl rfl ?_
  simp+decide (disch:=first|omega|rfl|(simp+decide only[go_sem,↓reduceIte,h5,h6,h7,Nat.mod_mod]<;>rfl)|fail) only[go_sem,↓reduceIte,h5,h6,h7,Nat.mod_mod]
  rw[Qao (f:=fun(x:Nat)=> .int .u16 x) (y:=(dg a i+dg b i+c)%65536) (xs:=out) (ty':=191) (fz:=false) (T1 hh) Tr0 (by omega) rfl (by omega) (by omega)]
  simp+decide (disch:=first|exact D3 h5 h6 h7|fail) only[go_sem,↓reduceIte,h5,h6,h7]
  refine Qi (2*(max a.length b.length-(i+1))+(dg a i+dg b i+c)/65536) ?_ ⟨i+1,(dg a i+dg b i+c)/65536,out++[(dg a i+dg b i+c)%65536],rfl,hs1,by omega,?_,by simp[hol],?_,hstep,?_⟩
  ·by_cases hlt:i<max a.length b.length
   ·omega
   ·have z1:dg a i=0:=by rw[dg,Qbo (by omega)]
    have z2:dg b i=0:=by rw[dg,Qbo (by omega)]
    rw[z1,z2];omega
  ·by_cases hlt:i<max a.length b.length
   ·omega
   ·have z1:dg a i=0:=by rw[dg,Qbo (by omega)]
    have z2:dg b i=0:=by rw[dg,Qbo (by omega)]
    rw[z1,z2];omega
  ·rw[Qbw];exact⟨hout,by intro z hz;simp at hz;omega⟩
  ·simp+decide (disch:=first|exact D0|fail) only[go_sem,↓reduceIte]
   simp
 ·obtain rfl:c=0:=by omega
  rw[List.drop_of_length_le (by omega),List.drop_of_length_le (by omega)]at hv
  simp only[val,Nat.add_zero,Nat.mul_zero]at hv
  simp+decide (disch:=first|exact D2 h5 hh|fail) only[go_sem,↓reduceIte,h5,hh]
  refine Qgl hP (Qbx hout (by omega)) (by simp+decide (disch:=first|exact E1 hh|fail) only[go_sem,↓reduceIte,hh,Q7,List.contains_cons,List.contains_nil,List.flatMap_cons,List.flatMap_nil,List.append_nil];simp[List.take_of_length_le]) rfl fun hp'=> ?_
  simp+decide (disch:=first|exact D0|fail) only[go_sem,↓reduceIte]
  exact Qc (by rw[hv]) rfl
end Go.Proofs.YtonfajmchebkeaaGreat
namespace Go.Proofs.YtonfajmchebkeaaGreat
open Go Go.FW
set_option linter.unusedSimpArgs false
set_option linter.unusedVariables false
set_option maxRecDepth 100000
theorem Qmo{a b:List Nat}(ha:Qh a)(hb:Qh b)(hla:a.length<2^40)(hlb:b.length<2^40):Qd Tryz.prog 200 [PV.nat a,PV.nat b] (· =if val a<val b then .tup [PV.num 0,.int .i64 2]else .tup [PV.num (val a-val b),.int .i64 0]):=by
 refine Qf Qk Tryz.func200 rfl Qaia (by simp[c200]) fun C hP=> ?_;simp only[c200,Zo,Zg,Zm,Zc,Zf,Zl,Zh,Zs,Zi,Zb,Zk,Zn,Zu,Zq,Zr,Zz]
 simp+decide (disch:=first|exact D0|fail) only[go_sem,↓reduceIte]
 refine Qa hP (Qja ha hb (by omega) (by omega)) rfl rfl rfl ?_
 simp+decide (disch:=first|exact D0|fail) only[go_sem,↓reduceIte]
 refine Qb (fun hc=> ?_) (fun hc=> ?_)
 ·rw[if_pos (Qn2.1 hc)]
  simp+decide (disch:=first|exact D0|fail) only[go_sem,↓reduceIte]
  exact Qc5 rfl rfl rfl Qin (Qz _)
 have hge:¬val a<val b:=fun h=>hc (Qn2.2 h)
 rw[if_neg hge]
 simp+decide (disch:=first|exact D0|fail) only[go_sem,↓reduceIte]
 refine Qiq 6 900 1 191 (by omega) T0 ?_
 refine Q6 (by repeat (first|exact Qx|exact Qp|exact Qq|exact Qr|exact Qt|apply Qo|apply Qw|apply Q4|apply Qac|apply Qad|apply Qm|apply Q5)) [(6,9),(14,37)] [36,37,900] (fun m J hp=>∃(i c:Nat)(out:List Nat),m=a.length-i/\c<=1/\i<=a.length/\out.length=i/\Qh out/\val (a.take i)+65536^i*c=val out+val (b.take i)/\J 6= .ms 900 out.length/\J 7= .int .i64 c/\J 8= .int .i64 i/\hp 900=some ⟨1,191,Qa5 out,false⟩) a.length ?_ ?_
 ·refine⟨0,0,[],rfl,by omega,by omega,rfl,Qcx,by simp[val],?_⟩
  simp+decide (disch:=first|exact D0|fail) only[go_sem,↓reduceIte]
  simp
 rintro _ J h ⟨i,c,out,rfl,hc1,hi,hol,hout,hv,h6,h7,h8,hh⟩
 simp+decide (disch:=first|exact D3 h6 h7 h8|fail) only[go_sem,↓reduceIte,h6,h7,h8]
 refine Qb (fun hg=> ?_) (fun hg=> ?_)
 ·have hi':i<a.length:=by omega
  have e1:=Qm3 a i
  have e2:=Qm3 b i
  have d1:=Qod ha i
  have d2:=Qod hb i
  simp+decide (disch:=first|exact D3 h6 h7 h8|fail) only[go_sem,↓reduceIte,h6,h7,h8]
  refine Qa hP (Qbr ha (by omega)) rfl rfl rfl ?_
  simp+decide (disch:=first|exact D3 h6 h7 h8|fail) only[go_sem,↓reduceIte,h6,h7,h8]
  refine Qa hP (Qbr hb (by omega)) rfl rfl rfl ?_
  simp+decide (disch:=first|exact D3 h6 h7 h8|fail) only[go_sem,↓reduceIte,h6,h7,h8]
  have step:∀(d c':Nat),d<65536->c'<=1->dg a i+65536*c'=d+dg b i+c->val (a.take (i+1))+65536^(i+1)*c'=val (out++[d])+val (b.take (i+1)):=fun d c' _ _ h3=>by
   rw[Qof,hol,e1,e2,Nat.pow_succ]
   generalize 65536^i=P at *
   have:P*(dg a i+65536*c')=P*(d+dg b i+c):=by rw[h3]
   rw[Nat.mul_add,<-Nat.mul_assoc,Nat.mul_add,Nat.mul_add]at this
   omega
  refine Qb (fun hd=> ?_) (fun hd=> ?_)
  ·obtain⟨d,hd1⟩:∃d:Nat,(dg a i:Int)-(dg b i:Int)-(c:Int)+65536=d:=⟨((dg a i:Int)-(dg b i:Int)-(c:Int)+65536).toNat,by omega⟩
   have hst:=step d 1 (by omega) (by omega) (by omega)
   simp+decide (disch:=first|exact D4 h6 h7 h8 hd1|fail) only[go_sem,↓reduceIte,h6,h7,h8,hd1]
   rw[Qao (f:=fun(x:Nat)=> .int .u16 x) (y:=d) (xs:=out) (ty':=191) (fz:=false) (T1 hh) (by simp+decide (disch:=first|omega|rfl|(simp+decide only[go_sem,↓reduceIte,Nat.mod_eq_of_lt (by omega:d<65536)]<;>rfl)|fail) only[go_sem,↓reduceIte,Nat.mod_eq_of_lt (by omega:d<65536)]) (by omega) rfl (by omega) (by omega)]
   simp+decide (disch:=first|exact D3 h6 h7 h8|fail) only[go_sem,↓reduceIte,h6,h7,h8]
   refine Qi (a.length-(i+1)) (by omega) ⟨i+1,1,out++[d],rfl,by omega,by omega,by simp[hol],?_,hst,?_⟩
   ·rw[Qbw];exact⟨hout,by intro z hz;simp at hz;omega⟩
   ·simp+decide (disch:=first|exact D0|fail) only[go_sem,↓reduceIte]
    simp
  ·obtain⟨d,hd1⟩:∃d:Nat,(dg a i:Int)-(dg b i:Int)-(c:Int)=d:=⟨((dg a i:Int)-(dg b i:Int)-(c:Int)).toNat,by omega⟩
   have hst:=step d 0 (by omega) (by omega) (by omega)
   simp+decide (disch:=first|exact D4 h6 h7 h8 hd1|fail) only[go_sem,↓reduceIte,h6,h7,h8,hd1]
   rw[Qao (f:=fun(x:Nat)=> .int .u16 x) (y:=d) (xs:=out) (ty':=191) (fz:=false) (T1 hh) (by simp+decide (disch:=first|omega|rfl|(simp+decide only[go_sem,↓reduceIte,Nat.mod_eq_of_lt (by omega:d<65536)]<;>rfl)|fail) only[go_sem,↓reduceIte,Nat.mod_eq_of_lt (by omega:d<65536)]) (by omega) rfl (by omega) (by omega)]
   simp+decide (disch:=first|exact D3 h6 h7 h8|fail) only[go_sem,↓reduceIte,h6,h7,h8]
   refine Qi (a.length-(i+1)) (by omega) ⟨i+1,0,out++[d],rfl,by omega,by omega,by simp[hol],?_,hst,?_⟩
   ·rw[Qbw];exact⟨hout,by intro z hz;simp at hz;omega⟩
   ·simp+decide (disch:=first|exact D0|fail) only[go_sem,↓reduceIte]
    simp
 ·obtain rfl:i=a.length:=by omega
  have hbz:val (b.drop a.length)=0:=Qi7 (by have:=Qf4 ha;omega)
  have hbs:=Qoe b a.length
  rw[hbz,Nat.mul_zero,Nat.add_zero]at hbs
  rw[List.take_length,<-hbs]at hv
  have hvo:=Qf4 hout
  rw[hol]at hvo
  have hc0:c=0:=by
   match c,hc1 with
   |0,_=>rfl
   |1,_=>exfalso;have:=Qf4 ha;omega
  subst hc0
  simp+decide (disch:=first|exact D2 h6 hh|fail) only[go_sem,↓reduceIte,h6,hh]
  refine Qgl hP (Qbx hout (by omega)) (by simp+decide (disch:=first|exact E1 hh|fail) only[go_sem,↓reduceIte,hh,Q7,List.contains_cons,List.contains_nil,List.flatMap_cons,List.flatMap_nil,List.append_nil];simp[List.take_of_length_le]) rfl fun hp'=> ?_
  simp+decide (disch:=first|exact D0|fail) only[go_sem,↓reduceIte]
  exact Qc5 rfl rfl rfl (Qgm (congrArg PV.num (by omega))) (Qz _)
theorem Qmp{a b:List Nat}(ha:Qh a)(hb:Qh b)(hla:a.length<2^40)(hlb:b.length<2^40):Qd Tryz.prog 147 [PV.nat a,PV.nat b] (· =PV.num (val a*val b)):=by
 refine Qf Qk Tryz.func147 rfl Qaib (by simp[c147]) fun C hP=> ?_;simp only[c147,Zo,Zg,Zm,Zc,Zf,Zl,Zh,Zs,Zi,Zb,Zk,Zn,Zu,Zq,Zr,Zz]
 simp+decide (disch:=first|exact D0|fail) only[go_sem,↓reduceIte]
 refine Q6 (by repeat (first|exact Qx|exact Qp|exact Qq|exact Qr|exact Qt|apply Qo|apply Qw|apply Q4|apply Qac|apply Qad|apply Qm|apply Q5)) [(6,9),(17,62)] [] (fun m J hp=>∃(i:Nat)(L:List Nat),m=a.length-i/\i<=a.length/\L.length=a.length+b.length+1/\Qh L/\val L=val (a.take i)*val b/\J 6= .int .i64 i/\hp=Qn hp0 16 ⟨1,191,Qa5 L,false⟩) a.length ?_ ?_
 ·refine⟨0,List.replicate (a.length+b.length+1) 0,rfl,by omega,by simp,?_,by simp[val,Qwb],?_⟩
  ·intro z hz;rw[List.eq_of_mem_replicate hz];omega
  ·simp+decide (disch:=first|exact D0|fail) only[go_sem,↓reduceIte]
   simp
 rintro _ J _ ⟨i,L,rfl,hi,hLl,hL,hv,h6,rfl⟩
 simp+decide (disch:=first|exact D1 h6|fail) only[go_sem,↓reduceIte,h6]
 refine Qb (fun hg=> ?_) (fun hg=> ?_)
 ·have hi':i<a.length:=by omega
  have hai:=Qap ha hi'
  have hts:=Qf5 hi'
  have hz0:dg L (i+b.length)=0:=by
   apply Q4j
   apply Qi7
   rw[hv,Nat.pow_add]
   have h1:=Qeb ha i (by omega)
   have h2:=Qf4 hb
   exact Nat.mul_lt_mul'' h1 h2
  generalize hxx:a[i]=ai at *
  simp+decide (disch:=first|exact D2 h6 hxx|fail) only[go_sem,↓reduceIte,h6,hxx]
  refine Q6 (by repeat (first|exact Qx|exact Qp|exact Qq|exact Qr|exact Qt|apply Qo|apply Qw|apply Q4|apply Qac|apply Qad|apply Qm|apply Q5)) [(7,9),(23,62)] [] (fun m J hp=>∃(k c:Nat)(M:List Nat),m=b.length+1-k/\k<=b.length+1/\(k<=b.length∨c=0)/\c<65536/\M.length=L.length/\Qh M/\val M+65536^(i+k)*(c+ai*val (b.drop k))=val L+65536^i*(ai*val b)/\(∀j,i+k<=j->dg M j=dg L j)/\J 7= .int .u64 c/\J 8= .int .i64 k/\hp=Qn hp0 16 ⟨1,191,Qa5 M,false⟩) (b.length+1) ?_ ?_
  ·refine⟨0,0,L,rfl,by omega,by omega,by omega,rfl,hL,by simp,fun _ _=>rfl,?_⟩
   simp+decide (disch:=first|exact D1 h6|fail) only[go_sem,↓reduceIte,h6]
   simp
  rintro _ J2 _ ⟨k,c,M,rfl,hk,hk2,hc,hMl,hM,hw,hsame,h7,h8,rfl⟩
  have e2:=Qhs b k
  have d2:=Qod hb k
  simp+decide (disch:=first|exact D3 h6 h7 h8|fail) only[go_sem,↓reduceIte,h6,h7,h8]
  refine Qaa (fun hkb=> ?_) (fun hkb=> ?_)
  ·have hkb':k<=b.length:=by omega
   have hj:i+k<M.length:=by omega
   have hx:=Qap hM hj
   have hset:=fun v=>Q2n (v:=v) hj
   have hmx:=Qfs hai d2
   have hdx:dg M (i+k)=M[i+k]:=Qbn hj
   generalize hxm:M[i+k]=x at *
   have hdm:=Nat.div_add_mod (x+ai*dg b k+c) 65536
   have hnew:=Qwm (T:=val L+65536^i*(ai*val b)) (hset ((x+ai*dg b k+c)%65536)) (by rw[<-e2];exact hw) hdm
   have hr:=Nat.mod_lt (x+ai*dg b k+c) (show 0<65536 by omega)
   have hq:(x+ai*dg b k+c)/65536<65536:=by omega
   have hq0:¬k<b.length->(x+ai*dg b k+c)/65536=0:=fun h=>by
    have z1:dg b k=0:=by rw[dg,Qbo (by omega)]
    have z2:x=0:=by rw[<-hdx,hsame _ (Nat.le_refl _),show i+k=i+b.length by omega,hz0]
    rw[z1,z2];omega
   have hlims:Qh (M.set (i+k) ((x+ai*dg b k+c)%65536)):=fun z hz=>by
    rcases List.mem_or_eq_of_mem_set hz with h|h
    ·exact hM z h
    ·omega
   have e5:IntKind.u64.wrap ((ai*dg b k:Nat):Int)=((ai*dg b k:Nat):Int):=Qfv (by omega) (by omega)
   simp+decide (disch:=first|exact D5 h6 h7 h8 hxx hxm|fail) only[go_sem,↓reduceIte,h6,h7,h8,hxx,hxm]
   refine Qa hP (Qbr hb (by omega)) rfl rfl rfl ?_
   simp+decide (disch:=first|omega|rfl|(simp+decide only[go_sem,↓reduceIte,h6,h7,h8,hxx,hxm,e5,Nat.mod_mod]<;>rfl)|fail) only[go_sem,↓reduceIte,h6,h7,h8,hxx,hxm,e5,Nat.mod_mod]
   refine Qi (b.length+1-(k+1)) (by omega) ⟨k+1,(x+ai*dg b k+c)/65536,M.set (i+k) ((x+ai*dg b k+c)%65536),rfl,by omega,?_,hq,by rw[List.length_set];exact hMl,hlims,?_,?_,?_⟩
   ·by_cases h:k<b.length
    ·omega
    ·exact .inr (hq0 h)
   ·rw[<-Nat.add_assoc,Nat.pow_succ];exact hnew
   ·intro j hj2
    rw[Qwn (by omega)];exact hsame j (by omega)
   ·simp+decide (disch:=first|exact D3 h6 h7 h8|fail) only[go_sem,↓reduceIte,h6,h7,h8]
  simp+decide (disch:=first|exact D3 h6 h7 h8|fail) only[go_sem,↓reduceIte,h6,h7,h8]
  refine Qb (fun hc0=> ?_) (fun hc0=> ?_)
  ·have hkb':k<=b.length:=by omega
   have hj:i+k<M.length:=by omega
   have hx:=Qap hM hj
   have hset:=fun v=>Q2n (v:=v) hj
   have hmx:=Qfs hai d2
   have hdx:dg M (i+k)=M[i+k]:=Qbn hj
   generalize hxm:M[i+k]=x at *
   have hdm:=Nat.div_add_mod (x+ai*dg b k+c) 65536
   have hnew:=Qwm (T:=val L+65536^i*(ai*val b)) (hset ((x+ai*dg b k+c)%65536)) (by rw[<-e2];exact hw) hdm
   have hr:=Nat.mod_lt (x+ai*dg b k+c) (show 0<65536 by omega)
   have hq:(x+ai*dg b k+c)/65536<65536:=by omega
   have hq0:¬k<b.length->(x+ai*dg b k+c)/65536=0:=fun h=>by
    have z1:dg b k=0:=by rw[dg,Qbo (by omega)]
    have z2:x=0:=by rw[<-hdx,hsame _ (Nat.le_refl _),show i+k=i+b.length by omega,hz0]
    rw[z1,z2];omega
   have hlims:Qh (M.set (i+k) ((x+ai*dg b k+c)%65536)):=fun z hz=>by
    rcases List.mem_or_eq_of_mem_set hz with h|h
    ·exact hM z h
    ·omega
   have e5:IntKind.u64.wrap ((ai*dg b k:Nat):Int)=((ai*dg b k:Nat):Int):=Qfv (by omega) (by omega)
   simp+decide (disch:=first|exact D5 h6 h7 h8 hxx hxm|fail) only[go_sem,↓reduceIte,h6,h7,h8,hxx,hxm]
   refine Qa hP (Qbr hb (by omega)) rfl rfl rfl ?_
   simp+decide (disch:=first|omega|rfl|(simp+decide only[go_sem,↓reduceIte,h6,h7,h8,hxx,hxm,e5,Nat.mod_mod]<;>rfl)|fail) only[go_sem,↓reduceIte,h6,h7,h8,hxx,hxm,e5,Nat.mod_mod]
   refine Qi (b.length+1-(k+1)) (by omega) ⟨k+1,(x+ai*dg b k+c)/65536,M.set (i+k) ((x+ai*dg b k+c)%65536),rfl,by omega,?_,hq,by rw[List.length_set];exact hMl,hlims,?_,?_,?_⟩
   ·by_cases h:k<b.length
    ·omega
    ·exact .inr (hq0 h)
   ·rw[<-Nat.add_assoc,Nat.pow_succ];exact hnew
   ·intro j hj2
    rw[Qwn (by omega)];exact hsame j (by omega)
   ·simp+decide (disch:=first|exact D3 h6 h7 h8|fail) only[go_sem,↓reduceIte,h6,h7,h8]
  ·obtain rfl:c=0:=by omega
   rw[List.drop_of_length_le (by omega)]at hw
   simp only[val,Nat.mul_zero,Nat.add_zero]at hw
   simp+decide (disch:=first|exact D3 h6 h7 h8|fail) only[go_sem,↓reduceIte,h6,h7,h8]
   simp (disch:=decide) only[Qck,Qir]
   refine Qi (a.length-(i+1)) (by omega) ⟨i+1,M,rfl,by omega,by omega,hM,?_,?_⟩
   ·rw[hw,hv,hts,Nat.add_mul,Nat.mul_assoc]
   ·simp+decide (disch:=first|exact D0|fail) only[go_sem,↓reduceIte]
 ·obtain rfl:i=a.length:=by omega
  rw[List.take_length]at hv
  simp+decide (disch:=first|exact D0|fail) only[go_sem,↓reduceIte]
  refine Qgl hP (Qbx hL (by omega)) (by simp+decide (disch:=first|exact E0|fail) only[go_sem,↓reduceIte,Q7,List.contains_cons,List.contains_nil,List.flatMap_cons,List.flatMap_nil,List.append_nil];simp[List.take_of_length_le,hLl]) rfl fun hp'=> ?_
  simp+decide (disch:=first|exact D0|fail) only[go_sem,↓reduceIte]
  exact Qc (by rw[hv]) rfl
end Go.Proofs.YtonfajmchebkeaaGreat
namespace Go.Proofs.YtonfajmchebkeaaGreat
open Go Go.FW
set_option linter.unusedSimpArgs false
set_option linter.unusedVariables false
set_option maxRecDepth 100000
theorem Qkf{x y:Nat}(hx:nl x<2^40)(hy:nl y<2^40):Qd Tryz.prog 147 [PV.num x,PV.num y] (· =PV.num (x*y)):=by
 have:=Qmp (Qj x) (Qj y) hx hy
 rwa[Q2,Q2]at this
theorem Q4z{x y:Nat}(hx:nl x<2^42)(hy:nl y<2^42):Qd Tryz.prog 201 [PV.num x,PV.num y] (· = .int .i64 (Qd5 x y)):=by
 have:=Qja (Qj x) (Qj y) hx hy
 rwa[Q2,Q2]at this
theorem Qt8{x y:Nat}(hx:nl x<2^40)(hy:nl y<2^40)(h:y<=x):Qd Tryz.prog 200 [PV.num x,PV.num y] (· = .tup [PV.num (x-y),.int .i64 0]):=by
 have:=Qmo (Qj x) (Qj y) hx hy
 rwa[Q2,Q2,if_neg (by omega)]at this
theorem Q2u{x y:Nat}:Qd5 x y<=0↔x<=y:=by unfold Qd5;split<;>(try split)<;>omega
theorem Qo9{x y:Nat}(hx:nl x<2^38)(hy:nl y<2^38)(hy0:0<y):Qd Tryz.prog 215 [PV.num x,PV.num y] (· = .int .u64 (min 65535 (x/y):Nat)):=by
 have hq2:∀(n d:Nat) fr hp K,n<18446744073709551616->Qa4 .quo false (.int .u64 (n:Int)) (.int .u64 2) d fr hp K=K (upd fr d (.int .u64 ((n/2:Nat):Int))) hp:=fun n d fr hp K h=>by
  rw[show(2:Int)=((2:Nat):Int)from rfl,Qkp (by omega) h]
 refine Qf Qk Tryz.func215 rfl Qaic (by simp[c215]) fun C hP=> ?_;simp only[c215,Zo,Zg,Zm,Zc,Zf,Zl,Zh,Zs,Zi,Zb,Zk,Zn,Zu,Zq,Zr,Zz]
 simp+decide (disch:=first|exact D0|fail) only[go_sem,↓reduceIte]
 refine Q6 (by repeat (first|exact Qx|exact Qp|exact Qq|exact Qr|exact Qt|apply Qo|apply Qw|apply Q4|apply Qac|apply Qad|apply Qm|apply Q5)) [(5,25)] [] (fun m J hp=>∃lo hi:Nat,m=hi-lo/\lo<=hi/\hi<=65535/\y*lo<=x/\(hi=65535∨x<y*(hi+1))/\J 5= .int .u64 lo/\J 6= .int .u64 hi) 65535 ?_ ?_
 ·refine⟨0,65535,rfl,by omega,by omega,by omega,.inl rfl,?_⟩
  simp+decide (disch:=first|exact D0|fail) only[go_sem,↓reduceIte]
  simp
 rintro _ J h ⟨lo,hi,rfl,h1,h2,h3,h4,h5,h6⟩
 simp+decide (disch:=first|exact D2 h5 h6|fail) only[go_sem,↓reduceIte,h5,h6]
 refine Qb (fun hg=> ?_) (fun hg=> ?_)
 ·have hsz:nl ((lo+hi+1)/2)<=4:=Qfw (by omega)
  have hm:=Qb1 y ((lo+hi+1)/2)
  generalize hmid:(lo+hi+1)/2=mid at *
  simp+decide (disch:=first|exact D4 h5 h6 hq2 hmid|fail) only[go_sem,↓reduceIte,h5,h6,hq2,hmid]
  refine Qa hP (Qc9 (n:=mid) (by omega)) rfl rfl rfl ?_
  simp+decide (disch:=first|exact D2 h5 h6|fail) only[go_sem,↓reduceIte,h5,h6]
  refine Qa hP (Qkf (x:=y) (y:=mid) (by omega) (by omega)) rfl rfl rfl ?_
  simp+decide (disch:=first|exact D2 h5 h6|fail) only[go_sem,↓reduceIte,h5,h6]
  refine Qa hP (Q4z (x:=y*mid) (y:=x) (by omega) (by omega)) rfl rfl rfl ?_
  simp+decide (disch:=first|exact D2 h5 h6|fail) only[go_sem,↓reduceIte,h5,h6]
  refine Qb (fun hc=> ?_) (fun hc=> ?_)
  ·rw[Q2u]at hc
   simp+decide (disch:=first|exact D2 h5 h6|fail) only[go_sem,↓reduceIte,h5,h6]
   refine Qi (hi-mid) (by omega) ⟨mid,hi,rfl,by omega,h2,hc,h4,?_⟩
   simp+decide (disch:=first|exact D1 h6|fail) only[go_sem,↓reduceIte,h6]
  ·rw[Q2u]at hc
   obtain⟨n,rfl⟩:∃n,mid=n+1:=⟨mid-1,by omega⟩
   have e:((n+1:Nat):Int)-1=n:=by omega
   simp+decide (disch:=first|exact D3 h5 h6 e|fail) only[go_sem,↓reduceIte,h5,h6,e]
   refine Qi (n-lo) (by omega) ⟨lo,n,rfl,by omega,by omega,h3,.inr (by omega),?_⟩
   simp+decide (disch:=first|exact D1 h5|fail) only[go_sem,↓reduceIte,h5]
 ·obtain rfl:lo=hi:=by omega
  simp+decide (disch:=first|exact D1 h5|fail) only[go_sem,↓reduceIte,h5]
  refine Qc ?_ rfl
  have hle:lo<=x/y:=(Nat.le_div_iff_mul_le hy0).2 (by rw[Nat.mul_comm];exact h3)
  rcases h4 with rfl|h4
  ·rw[Nat.min_eq_left hle]
  ·have:x/y<lo+1:=(Nat.div_lt_iff_lt_mul hy0).2 (by rw[Nat.mul_comm];exact h4)
   congr 2;omega
theorem Qm6{a b:List Nat}(ha:Qh a)(hb:Qh b)(hla:a.length<2^36)(hlb:b.length<2^36):Qd Tryz.prog 158 [PV.nat a,PV.nat b]
  (· =if val b=0 then .tup [PV.num 0,PV.num 0,.int .i64 3]else .tup [PV.num (val a/val b),PV.num (val a%val b),.int .i64 0]):=by
 have hda:=Qar ha
 have hdb:=Qar hb
 refine Qf Qk Tryz.func158 rfl Qaid (by simp[c158]) fun C hP=> ?_;simp only[c158,Zo,Zg,Zm,Zc,Zf,Zl,Zh,Zs,Zi,Zb,Zk,Zn,Zu,Zq,Zr,Zz]
 simp+decide (disch:=first|exact D0|fail) only[go_sem,↓reduceIte]
 refine Qa hP (Qbx ha (by omega)) rfl rfl rfl ?_
 simp+decide (disch:=first|exact D0|fail) only[go_sem,↓reduceIte]
 refine Qa hP (Qbx hb (by omega)) rfl rfl rfl ?_
 simp+decide (disch:=first|exact D0|fail) only[go_sem,↓reduceIte]
 generalize val a=x at *
 generalize val b=y at *
 unfold nl at hda hdb
 refine Qb (fun hz=> ?_) (fun hz=> ?_)
 ·have hy0:y=0:=Qb3.1 (Qc6 (by omega))
  simp+decide (disch:=first|exact D0|fail) only[go_sem,↓reduceIte]
  rw[if_pos hy0]
  exact Qpn rfl rfl rfl rfl Qin Qin (Qz _)
 have hy0:y≠0:=fun h=>by rw[h,Qa6]at hz;simp at hz
 rw[if_neg hy0]
 have hyp:0<y:=Nat.pos_of_ne_zero hy0
 have hxl:=Qj x
 have hyl:=Qj y
 have hxv:=Q2 x
 have hyv:=Q2 y
 simp+decide (disch:=first|exact D0|fail) only[go_sem,↓reduceIte]
 refine Qan (fun h1=> ?_) (fun h1=> ?_)
 ·simp+decide (disch:=first|exact D0|fail) only[go_sem,↓reduceIte]
  refine Qb (fun h2=> ?_) (fun h2=> ?_)
  ·have hx64:=Qlv.1 (show nl x<=4 by unfold nl;omega)
   have hy64:=Qlv.1 (show nl y<=4 by unfold nl;omega)
   have hq:=Nat.div_le_self x y
   have hr:=Nat.mod_lt x hyp
   simp+decide (disch:=first|exact D0|fail) only[go_sem,↓reduceIte]
   refine Qa hP (Qha hxl (by omega)) rfl rfl rfl ?_
   simp+decide (disch:=first|exact D1 hxv|fail) only[go_sem,↓reduceIte,hxv]
   refine Qa hP (Qha hyl (by omega)) rfl rfl rfl ?_
   simp+decide (disch:=first|omega|rfl|(simp+decide only[go_sem,↓reduceIte,hxv,hyv,Qkp]<;>rfl)|fail) only[go_sem,↓reduceIte,hxv,hyv,Qkp]
   refine Qa hP (Qc9 (n:=x/y) (by omega)) rfl rfl rfl ?_
   simp+decide (disch:=first|exact D0|fail) only[go_sem,↓reduceIte]
   refine Qa hP (Qha hxl (by omega)) rfl rfl rfl ?_
   simp+decide (disch:=first|exact D1 hxv|fail) only[go_sem,↓reduceIte,hxv]
   refine Qa hP (Qha hyl (by omega)) rfl rfl rfl ?_
   simp+decide (disch:=first|omega|rfl|(simp+decide only[go_sem,↓reduceIte,hxv,hyv,Qef]<;>rfl)|fail) only[go_sem,↓reduceIte,hxv,hyv,Qef]
   refine Qa hP (Qc9 (n:=x%y) (by omega)) rfl rfl rfl ?_
   simp+decide (disch:=first|exact D0|fail) only[go_sem,↓reduceIte]
   exact Qpn rfl rfl rfl rfl (Qz _) (Qz _) (Qz _)
  ·have hsep:=trivial
   simp+decide (disch:=first|exact D0|fail) only[go_sem,↓reduceIte]
   refine Qks 7 1 T0 ?_
   refine Qks 8 1 T0 ?_
   refine Qzp (by repeat (first|exact Qx|exact Qp|exact Qq|exact Qr|exact Qt|apply Qo|apply Qw|apply Q4|apply Qac|apply Qad|apply Qm|apply Q5)) [(7,10),(41,69)] [49,51,58,60] (fun k J hp=>∃qs,k<=(dig x).length/\qs.length=(dig x).length-k/\Qh qs/\val qs=val ((dig x).drop k)/y/\J 7= .sl 1 (Qa5 qs)/\J 8=PV.num (val ((dig x).drop k)%y)/\J 9= .int .i64 ((k:Int)-1)) (dig x).length ?_ ?_
   ·refine⟨[],Nat.le_refl _,by simp,Qcx,by simp[val],?_⟩
    simp+decide (disch:=first|exact D0|fail) only[go_sem,↓reduceIte]
    simp[val,Qa6]
   rintro k J h ⟨qs,hk,hql,hqs,hqv,h7,h8,h9⟩
   simp+decide (disch:=first|exact D3 h7 h8 h9|fail) only[go_sem,↓reduceIte,h7,h8,h9]
   have hr:=Nat.mod_lt (val ((dig x).drop k)) hyp
   refine Qb (fun hg=> ?_) (fun hg=> ?_)
   ·obtain _|n:=k
    ·omega
    have hn:n<(dig x).length:=by omega
    have han:=Qap hxl hn
    have e:((n+1:Nat):Int)-1=n:=by omega
    have hst:=Qtv (x:=(dig x)[n]) hyp hqv
    rw[<-Qcw hn]at hst
    generalize hV:val ((dig x).drop (n+1))%y=r at *
    generalize hxx:(dig x)[n]=xi at *
    have hrl:(dig r).length<=(dig y).length:=Qbm (Nat.le_of_lt hr)
    have hlim:Qh ([xi]++dig r):=by rw[Qbw];exact⟨by intro z hz;simp at hz;omega,Qj r⟩
    have hvl:val ([xi]++dig r)=r*65536+xi:=by rw[Qcd,Q2];simp[val];omega
    have hlt:(r*65536+xi)/y<65536:=by
     rw[Nat.div_lt_iff_lt_mul hyp]
     have:(r+1)*65536<=y*65536:=Nat.mul_le_mul_right _ hr
     omega
    have hnR:nl (r*65536+xi)<=(dig y).length+1:=by
     have:=Qar hlim
     rw[hvl,List.length_append]at this
     simp at this;omega
    have hdm:=Nat.div_add_mod (r*65536+xi) y
    have hnm:nl (y*((r*65536+xi)/y))<=(dig y).length+1:=Nat.le_trans (Qbm (by omega)) hnR
    have hn4:nl ((r*65536+xi)/y)<=4:=Qfw (by omega)
    have hsub:r*65536+xi-y*((r*65536+xi)/y)=(r*65536+xi)%y:=by omega
    simp+decide (disch:=first|exact D5 h7 h8 h9 e hxx|fail) only[go_sem,↓reduceIte,h7,h8,h9,e,hxx]
    rw[Qde (f:=fun(x:Nat)=> .int .u16 x) (xs:=[xi]) (ys:=dig r) (n:=1) Tr0 rfl (by omega) (by omega) (by omega)]
    simp+decide (disch:=first|exact D5 h7 h8 h9 e hxx|fail) only[go_sem,↓reduceIte,h7,h8,h9,e,hxx]
    refine Qcj hP (Qbx (l:=[xi]++dig r) hlim (by simp;omega)) (by simp+decide (disch:=first|exact E0|fail) only[go_sem,↓reduceIte,Q7,List.contains_cons,List.contains_nil,List.flatMap_cons,List.flatMap_nil,List.append_nil];simp[Nat.add_comm 1,List.take_of_length_le]) rfl ?_
    rw[hvl]
    simp+decide (disch:=first|exact D5 h7 h8 h9 e hxx|fail) only[go_sem,↓reduceIte,h7,h8,h9,e,hxx]
    refine Qa hP (Qo9 (x:=r*65536+xi) (y:=y) (by omega) (by unfold nl;omega) hyp) rfl rfl rfl ?_
    rw[Nat.min_eq_right (by omega:(r*65536+xi)/y<=65535)]
    generalize hD:(r*65536+xi)/y=D at *
    simp+decide (disch:=first|omega|rfl|(simp+decide only[go_sem,↓reduceIte,h7,h8,h9,e,hxx,Nat.mod_eq_of_lt hlt]<;>rfl)|fail) only[go_sem,↓reduceIte,h7,h8,h9,e,hxx,Nat.mod_eq_of_lt hlt]
    rw[Qde (f:=fun(x:Nat)=> .int .u16 x) (xs:=[D]) (ys:=qs) (n:=1) Tr0 rfl (by omega) (by omega) (by omega)]
    simp+decide (disch:=first|exact D5 h7 h8 h9 e hxx|fail) only[go_sem,↓reduceIte,h7,h8,h9,e,hxx]
    refine Qa hP (Qc9 (n:=D) (by omega)) rfl rfl rfl ?_
    simp+decide (disch:=first|exact D4 h7 h8 h9 e|fail) only[go_sem,↓reduceIte,h7,h8,h9,e]
    refine Qa hP (Qkf (x:=y) (y:=D) (by unfold nl;omega) (by omega)) rfl rfl rfl ?_
    simp+decide (disch:=first|exact D4 h7 h8 h9 e|fail) only[go_sem,↓reduceIte,h7,h8,h9,e]
    refine Qa hP (Qt8 (x:=r*65536+xi) (y:=y*D) (by omega) (by omega) (by omega)) rfl rfl rfl ?_
    rw[hsub]
    simp+decide (disch:=first|exact D4 h7 h8 h9 e|fail) only[go_sem,↓reduceIte,h7,h8,h9,e]
    refine Qtu 7 n rfl ?_ (by omega) ⟨D::qs,by omega,by simp;omega,?_,?_,?_⟩
    ·simp+decide (disch:=first|exact E0|fail) only[go_sem,↓reduceIte,Q7,List.contains_cons,List.contains_nil,List.flatMap_cons,List.flatMap_nil,List.append_nil]
    ·rw[Qa0];exact⟨hlt,hqs⟩
    ·rw[val,hst.1]
    ·simp+decide (disch:=first|exact E1 hst.2|fail) only[go_sem,↓reduceIte,Q7,List.contains_cons,List.contains_nil,List.flatMap_cons,List.flatMap_nil,List.append_nil,hst.2]
     simp[Nat.add_comm 1,List.take_of_length_le]
   ·obtain rfl:k=0:=by omega
    rw[List.drop_zero,hxv]at hqv h8
    simp+decide (disch:=first|exact D2 h7 h8|fail) only[go_sem,↓reduceIte,h7,h8]
    refine Qa hP (Qbx hqs (by omega)) rfl rfl rfl ?_
    simp+decide (disch:=first|exact D2 h7 h8|fail) only[go_sem,↓reduceIte,h7,h8]
    exact Qpn rfl rfl rfl rfl (Qgm (by rw[hqv])) (Qz _) (Qz _)
 ·have hsep:=trivial
  simp+decide (disch:=first|exact D0|fail) only[go_sem,↓reduceIte]
  refine Qks 7 1 T0 ?_
  refine Qks 8 1 T0 ?_
  refine Qzp (by repeat (first|exact Qx|exact Qp|exact Qq|exact Qr|exact Qt|apply Qo|apply Qw|apply Q4|apply Qac|apply Qad|apply Qm|apply Q5)) [(7,10),(41,69)] [49,51,58,60] (fun k J hp=>∃qs,k<=(dig x).length/\qs.length=(dig x).length-k/\Qh qs/\val qs=val ((dig x).drop k)/y/\J 7= .sl 1 (Qa5 qs)/\J 8=PV.num (val ((dig x).drop k)%y)/\J 9= .int .i64 ((k:Int)-1)) (dig x).length ?_ ?_
  ·refine⟨[],Nat.le_refl _,by simp,Qcx,by simp[val],?_⟩
   simp+decide (disch:=first|exact D0|fail) only[go_sem,↓reduceIte]
   simp[val,Qa6]
  rintro k J h ⟨qs,hk,hql,hqs,hqv,h7,h8,h9⟩
  simp+decide (disch:=first|exact D3 h7 h8 h9|fail) only[go_sem,↓reduceIte,h7,h8,h9]
  have hr:=Nat.mod_lt (val ((dig x).drop k)) hyp
  refine Qb (fun hg=> ?_) (fun hg=> ?_)
  ·obtain _|n:=k
   ·omega
   have hn:n<(dig x).length:=by omega
   have han:=Qap hxl hn
   have e:((n+1:Nat):Int)-1=n:=by omega
   have hst:=Qtv (x:=(dig x)[n]) hyp hqv
   rw[<-Qcw hn]at hst
   generalize hV:val ((dig x).drop (n+1))%y=r at *
   generalize hxx:(dig x)[n]=xi at *
   have hrl:(dig r).length<=(dig y).length:=Qbm (Nat.le_of_lt hr)
   have hlim:Qh ([xi]++dig r):=by rw[Qbw];exact⟨by intro z hz;simp at hz;omega,Qj r⟩
   have hvl:val ([xi]++dig r)=r*65536+xi:=by rw[Qcd,Q2];simp[val];omega
   have hlt:(r*65536+xi)/y<65536:=by
    rw[Nat.div_lt_iff_lt_mul hyp]
    have:(r+1)*65536<=y*65536:=Nat.mul_le_mul_right _ hr
    omega
   have hnR:nl (r*65536+xi)<=(dig y).length+1:=by
    have:=Qar hlim
    rw[hvl,List.length_append]at this
    simp at this;omega
   have hdm:=Nat.div_add_mod (r*65536+xi) y
   have hnm:nl (y*((r*65536+xi)/y))<=(dig y).length+1:=Nat.le_trans (Qbm (by omega)) hnR
   have hn4:nl ((r*65536+xi)/y)<=4:=Qfw (by omega)
   have hsub:r*65536+xi-y*((r*65536+xi)/y)=(r*65536+xi)%y:=by omega
   simp+decide (disch:=first|exact D5 h7 h8 h9 e hxx|fail) only[go_sem,↓reduceIte,h7,h8,h9,e,hxx]
   rw[Qde (f:=fun(x:Nat)=> .int .u16 x) (xs:=[xi]) (ys:=dig r) (n:=1) Tr0 rfl (by omega) (by omega) (by omega)]
   simp+decide (disch:=first|exact D5 h7 h8 h9 e hxx|fail) only[go_sem,↓reduceIte,h7,h8,h9,e,hxx]
   refine Qcj hP (Qbx (l:=[xi]++dig r) hlim (by simp;omega)) (by simp+decide (disch:=first|exact E0|fail) only[go_sem,↓reduceIte,Q7,List.contains_cons,List.contains_nil,List.flatMap_cons,List.flatMap_nil,List.append_nil];simp[Nat.add_comm 1,List.take_of_length_le]) rfl ?_
   rw[hvl]
   simp+decide (disch:=first|exact D5 h7 h8 h9 e hxx|fail) only[go_sem,↓reduceIte,h7,h8,h9,e,hxx]
   refine Qa hP (Qo9 (x:=r*65536+xi) (y:=y) (by omega) (by unfold nl;omega) hyp) rfl rfl rfl ?_
   rw[Nat.min_eq_right (by omega:(r*65536+xi)/y<=65535)]
   generalize hD:(r*65536+xi)/y=D at *
   simp+decide (disch:=first|omega|rfl|(simp+decide only[go_sem,↓reduceIte,h7,h8,h9,e,hxx,Nat.mod_eq_of_lt hlt]<;>rfl)|fail) only[go_sem,↓reduceIte,h7,h8,h9,e,hxx,Nat.mod_eq_of_lt hlt]
   rw[Qde (f:=fun(x:Nat)=> .int .u16 x) (xs:=[D]) (ys:=qs) (n:=1) Tr0 rfl (by omega) (by omega) (by omega)]
   simp+decide (disch:=first|exact D5 h7 h8 h9 e hxx|fail) only[go_sem,↓reduceIte,h7,h8,h9,e,hxx]
   refine Qa hP (Qc9 (n:=D) (by omega)) rfl rfl rfl ?_
   simp+decide (disch:=first|exact D4 h7 h8 h9 e|fail) only[go_sem,↓reduceIte,h7,h8,h9,e]
   refine Qa hP (Qkf (x:=y) (y:=D) (by unfold nl;omega) (by omega)) rfl rfl rfl ?_
   simp+decide (disch:=first|exact D4 h7 h8 h9 e|fail) only[go_sem,↓reduceIte,h7,h8,h9,e]
   refine Qa hP (Qt8 (x:=r*65536+xi) (y:=y*D) (by omega) (by omega) (by omega)) rfl rfl rfl ?_
   rw[hsub]
   simp+decide (disch:=first|exact D4 h7 h8 h9 e|fail) only[go_sem,↓reduceIte,h7,h8,h9,e]
   refine Qtu 7 n rfl ?_ (by omega) ⟨D::qs,by omega,by simp;omega,?_,?_,?_⟩
   ·simp+decide (disch:=first|exact E0|fail) only[go_sem,↓reduceIte,Q7,List.contains_cons,List.contains_nil,List.flatMap_cons,List.flatMap_nil,List.append_nil]
   ·rw[Qa0];exact⟨hlt,hqs⟩
   ·rw[val,hst.1]
   ·simp+decide (disch:=first|exact E1 hst.2|fail) only[go_sem,↓reduceIte,Q7,List.contains_cons,List.contains_nil,List.flatMap_cons,List.flatMap_nil,List.append_nil,hst.2]
    simp[Nat.add_comm 1,List.take_of_length_le]
  ·obtain rfl:k=0:=by omega
   rw[List.drop_zero,hxv]at hqv h8
   simp+decide (disch:=first|exact D2 h7 h8|fail) only[go_sem,↓reduceIte,h7,h8]
   refine Qa hP (Qbx hqs (by omega)) rfl rfl rfl ?_
   simp+decide (disch:=first|exact D2 h7 h8|fail) only[go_sem,↓reduceIte,h7,h8]
   exact Qpn rfl rfl rfl rfl (Qgm (by rw[hqv])) (Qz _) (Qz _)
end Go.Proofs.YtonfajmchebkeaaGreat
namespace Go.Proofs.YtonfajmchebkeaaGreat
open Go Go.FW
set_option linter.unusedSimpArgs false
set_option linter.unusedVariables false
set_option maxRecDepth 100000
theorem Qxs{x y:Nat}(hx:nl x<2^36)(hy:nl y<2^36)(h0:y≠0):Qd Tryz.prog 158 [PV.num x,PV.num y] (· = .tup [PV.num (x/y),PV.num (x%y),.int .i64 0]):=by
 have:=Qm6 (Qj x) (Qj y) hx hy
 rwa[Q2,Q2,if_neg h0]at this
theorem Qrp{a b:List Nat}(ha:Qh a)(hb:Qh b)(hla:a.length<2^36)(hlb:b.length<2^36):Qd Tryz.prog 103 [PV.nat a,PV.nat b] (· =PV.num (Nat.gcd (val a) (val b))):=by
 have hda:=Qar ha
 have hdb:=Qar hb
 refine Qf Qk Tryz.func103 rfl Qaie (by simp[c103]) fun C hP=> ?_;simp only[c103,Zo,Zg,Zm,Zc,Zf,Zl,Zh,Zs,Zi,Zb,Zk,Zn,Zu,Zq,Zr,Zz]
 simp+decide (disch:=first|exact D0|fail) only[go_sem,↓reduceIte]
 refine Qa hP (Qbx ha (by omega)) rfl rfl rfl ?_
 simp+decide (disch:=first|exact D0|fail) only[go_sem,↓reduceIte]
 refine Qa hP (Qbx hb (by omega)) rfl rfl rfl ?_
 simp+decide (disch:=first|exact D0|fail) only[go_sem,↓reduceIte]
 refine Q6 (by repeat (first|exact Qx|exact Qp|exact Qq|exact Qr|exact Qt|apply Qo|apply Qw|apply Q4|apply Qac|apply Qad|apply Qm|apply Q5)) [(0,1),(5,7),(12,23)] [] (fun m J hp=>∃x y,m=y/\Nat.gcd x y=Nat.gcd (val a) (val b)/\nl x<2^36/\nl y<2^36/\J 0=PV.num x/\J 1=PV.num y/\hp=hp0) (val b) ?_ ?_
 ·refine⟨val a,val b,rfl,rfl,by omega,by omega,?_⟩
  simp+decide (disch:=first|exact D0|fail) only[go_sem,↓reduceIte]
 rintro y J _ ⟨x,_,rfl,hg,hx,hy,h0,h1,rfl⟩
 generalize Nat.gcd (val a) (val b)=g at *
 simp+decide (disch:=first|exact D2 h0 h1|fail) only[go_sem,↓reduceIte,h0,h1]
 refine Qb (fun hc=> ?_) (fun hc=> ?_)
 ·have hy0:y≠0:=fun h=>by rw[h,Qa6]at hc;simp at hc
  have hmod:=Qbm (Nat.le_of_lt (Nat.mod_lt x (Nat.pos_of_ne_zero hy0)))
  simp+decide (disch:=first|exact D2 h0 h1|fail) only[go_sem,↓reduceIte,h0,h1]
  refine Qa hP (Qxs (x:=x) (y:=y) hx hy hy0) rfl rfl rfl ?_
  simp+decide (disch:=first|exact D2 h0 h1|fail) only[go_sem,↓reduceIte,h0,h1]
  refine Qi (x%y) (Nat.mod_lt _ (Nat.pos_of_ne_zero hy0)) ⟨y,x%y,rfl,?_,hy,by omega,?_⟩
  ·rw[<-hg,Nat.gcd_comm x y,Nat.gcd_rec y x,Nat.gcd_comm]
  ·simp+decide (disch:=first|exact D0|fail) only[go_sem,↓reduceIte]
 ·have hy0:y=0:=Qb3.1 (Qc6 (by omega))
  subst hy0
  simp+decide (disch:=first|exact D1 h0|fail) only[go_sem,↓reduceIte,h0]
  exact Qc (by rw[<-hg,Nat.gcd_zero_right]) rfl
end Go.Proofs.YtonfajmchebkeaaGreat
namespace Go.Proofs.YtonfajmchebkeaaGreat
open Go Go.FW
set_option linter.unusedSimpArgs false
set_option linter.unusedVariables false
set_option maxRecDepth 100000
theorem Qf2{n:Bool}{a:List Nat}(ha:Qh a)(hla:a.length<2^42):Qd Tryz.prog 160 [.bool n,PV.nat a] (· =PV.zz (zv n a)):=by
 refine Qf Qk Tryz.func160 rfl Qaii (by simp[c160]) fun C hP=> ?_;simp only[c160,Zo,Zg,Zm,Zc,Zf,Zl,Zh,Zs,Zi,Zb,Zk,Zn,Zu,Zq,Zr,Zz]
 simp+decide (disch:=first|exact D0|fail) only[go_sem,↓reduceIte]
 refine Qa hP (Qbx ha hla) rfl rfl rfl ?_
 simp+decide (disch:=first|exact D0|fail) only[go_sem,↓reduceIte]
 refine Qgu (fun hn=> ?_) (fun hn=> ?_)
 all_goals
  simp+decide (disch:=first|exact D0|fail) only[go_sem,↓reduceIte]
  refine Qbc ?_
  simp+decide (disch:=first|exact D0|fail) only[go_sem,↓reduceIte]
  exact Qc (by have:=Qvc n (val a);rw[hn]at this;subst hn;simpa[zv]using this) rfl
theorem Qie{n:Bool}{a:List Nat}(ha:Qh a)(hla:a.length<2^42):Qd Tryz.prog 159 [PV.zi n a] (· =PV.zz (zv n a)):=by
 refine Qf Qk Tryz.func159 rfl Qaij (by simp[c159]) fun C hP=> ?_;simp only[c159,Zo,Zg,Zm,Zc,Zf,Zl,Zh,Zs,Zi,Zb,Zk,Zn,Zu,Zq,Zr,Zz]
 simp+decide (disch:=first|exact D0|fail) only[go_sem,↓reduceIte]
 refine Qa hP (Qf2 ha hla) rfl rfl rfl ?_
 simp+decide (disch:=first|exact D0|fail) only[go_sem,↓reduceIte]
 refine Qbc ?_
 simp+decide (disch:=first|exact D0|fail) only[go_sem,↓reduceIte]
 exact Qc rfl rfl
theorem Qrq{n m:Bool}{a b:List Nat}(ha:Qh a)(hb:Qh b)(hla:a.length<2^40)(hlb:b.length<2^40):Qd Tryz.prog 146 [PV.zi n a,PV.zi m b] (· =PV.zz (zv n a*zv m b)):=by
 have hr:nl (val a*val b)<2^42:=by have:=Qb1 (val a) (val b);have:=Qar ha;have:=Qar hb;omega
 refine Qf Qk Tryz.func146 rfl Qain (by simp[c146]) fun C hP=> ?_;simp only[c146,Zo,Zg,Zm,Zc,Zf,Zl,Zh,Zs,Zi,Zb,Zk,Zn,Zu,Zq,Zr,Zz]
 simp+decide (disch:=first|exact D0|fail) only[go_sem,↓reduceIte]
 refine Qa hP (Qmp ha hb hla hlb) rfl rfl rfl ?_
 simp+decide (disch:=first|exact D0|fail) only[go_sem,↓reduceIte]
 refine Qa hP (Qf2 (n:= !(n==m)) (Qj (val a*val b)) hr) rfl rfl rfl ?_
 simp+decide (disch:=first|exact D0|fail) only[go_sem,↓reduceIte]
 refine Qbc ?_
 simp+decide (disch:=first|exact D0|fail) only[go_sem,↓reduceIte]
 exact Qc (congrArg PV.zz (by rw[Qjn];unfold zv;cases n<;>cases m<;>simp[Int.neg_mul,Int.mul_neg])) rfl
theorem Q40{x:Int}(h1: -9223372036854775808<=x)(h2:x<=9223372036854775807):Qd Tryz.prog 83 [.int .i64 x] (· =PV.zz x):=by
 refine Qf Qk Tryz.func83 rfl Qal8 (by simp[c83]) fun C hP=> ?_;simp only[c83,Zo,Zg,Zm,Zc,Zf,Zl,Zh,Zs,Zi,Zb,Zk,Zn,Zu,Zq,Zr,Zz]
 simp+decide (disch:=first|exact D0|fail) only[go_sem,↓reduceIte]
 refine Qb (fun hc=> ?_) (fun hc=> ?_)
 ·obtain⟨y,hy⟩:∃y:Nat,x= -((y:Int)+1):=⟨(-(x+1)).toNat,by omega⟩
  have e1:IntKind.i64.wrap (x+1)= -(y:Int):=by rw[Qhh (by omega) (by omega)];omega
  have e2:IntKind.i64.wrap (0- -(y:Int))=(y:Int):=by rw[Qhh (by omega) (by omega)];omega
  have e3:IntKind.u64.wrap (y:Int)=(y:Int):=Qfv (by omega) (by omega)
  have hl1:nl y<=4:=Qfw (by omega)
  have hl2:nl (y+1)<=4:=Qfw (by omega)
  simp+decide (disch:=first|exact D3 e1 e2 e3|fail) only[go_sem,↓reduceIte,e1,e2,e3]
  refine Qa hP (Qc9 (n:=y) (by omega)) rfl rfl rfl ?_
  simp+decide (disch:=first|exact D0|fail) only[go_sem,↓reduceIte]
  refine Qa hP (Qc9 (n:=1) (by omega)) rfl rfl rfl ?_
  simp+decide (disch:=first|exact D0|fail) only[go_sem,↓reduceIte]
  refine Qa hP (Qro (Qj y) (Qj 1) (show nl y<_ by omega) (show nl 1<_ by rw[Qez];omega)) rfl rfl rfl ?_
  simp+decide (disch:=first|exact D0|fail) only[go_sem,↓reduceIte]
  refine Qa hP (Qf2 (n:=true) (Qj (val (dig y)+val (dig 1))) (show nl _<_ by rw[Q2,Q2];omega)) rfl rfl rfl ?_
  simp+decide (disch:=first|exact D0|fail) only[go_sem,↓reduceIte]
  refine Qbc ?_
  simp+decide (disch:=first|exact D0|fail) only[go_sem,↓reduceIte]
  exact Qc (congrArg PV.zz (by rw[Qjn,Q2,Q2];simp;omega)) rfl
 ·obtain⟨y,rfl⟩:∃y:Nat,x=y:=⟨x.toNat,by omega⟩
  have hl1:nl y<=4:=Qfw (by omega)
  simp+decide (disch:=first|exact D0|fail) only[go_sem,↓reduceIte]
  refine Qa hP (Qc9 (by omega)) rfl rfl rfl ?_
  simp+decide (disch:=first|exact D0|fail) only[go_sem,↓reduceIte]
  refine Qa hP (Qf2 (n:=false) (Qj y) (show nl _<_ by omega)) rfl rfl rfl ?_
  simp+decide (disch:=first|exact D0|fail) only[go_sem,↓reduceIte]
  refine Qbc ?_
  simp+decide (disch:=first|exact D0|fail) only[go_sem,↓reduceIte]
  exact Qc (congrArg PV.zz (by rw[Qjn];simp)) rfl
theorem Qz9{n:Bool}{a:List Nat}(ha:Qh a)(hla:a.length<2^42):Qd Tryz.prog 162 [PV.zi n a] (· = .int .i64 (sgn (zv n a))):=by
 refine Qf Qk Tryz.func162 rfl Qaik (by simp[c162]) fun C hP=> ?_;simp only[c162,Zo,Zg,Zm,Zc,Zf,Zl,Zh,Zs,Zi,Zb,Zk,Zn,Zu,Zq,Zr,Zz]
 simp+decide (disch:=first|exact D0|fail) only[go_sem,↓reduceIte]
 refine Qa hP (Qie ha hla) rfl rfl rfl ?_
 generalize zv n a=z
 simp+decide (disch:=first|exact D0|fail) only[go_sem,↓reduceIte]
 refine Qb (fun hz=> ?_) (fun hz=> ?_)
 ·have:z=0:=by have:=Qb3.1 (Qc6 (n:=z.natAbs) (by omega));omega
  subst this
  simp+decide (disch:=first|exact D0|fail) only[go_sem,↓reduceIte]
  exact Qc rfl rfl
 ·have h0:z≠0:=fun h=>by subst h;exact hz (by simp[Qa6])
  simp+decide (disch:=first|exact D0|fail) only[go_sem,↓reduceIte]
  refine Qjh (fun hn=> ?_) (fun hn=> ?_)
  ·have hn:z<0:=by simpa using hn
   simp+decide (disch:=first|exact D0|fail) only[go_sem,↓reduceIte]
   exact Qc (by rw[sgn,if_pos hn]) rfl
  ·have hn:¬z<0:=by simpa using hn
   simp+decide (disch:=first|exact D0|fail) only[go_sem,↓reduceIte]
   exact Qc (by rw[sgn,if_neg hn,if_pos (by omega)]) rfl
theorem Qxt{n:Bool}{a:List Nat}(ha:Qh a)(hla:a.length<2^42):Qd Tryz.prog 100 [PV.zi n a] (· = .bool (Qn4 n a)):=by
 refine Qf Qk Tryz.func100 rfl Qaih (by simp[c100]) fun C hP=> ?_;simp only[c100,Zo,Zg,Zm,Zc,Zf,Zl,Zh,Zs,Zi,Zb,Zk,Zn,Zu,Zq,Zr,Zz]
 simp+decide (disch:=first|exact D0|fail) only[go_sem,↓reduceIte]
 refine Qa hP (Qo8 ha (by omega)) rfl rfl rfl ?_
 simp+decide (disch:=first|exact D0|fail) only[go_sem,↓reduceIte]
 refine Qgu (fun hv=> ?_) (fun hv=> ?_)
 ·simp+decide (disch:=first|exact D0|fail) only[go_sem,↓reduceIte]
  refine Qgu (fun hn=> ?_) (fun hn=> ?_)
  ·simp+decide (disch:=first|exact D0|fail) only[go_sem,↓reduceIte]
   exact Qc (congrArg PV.bool (by unfold Qn4;subst hn;cases a<;>simp_all<;>omega)) rfl
  ·simp+decide (disch:=first|exact D0|fail) only[go_sem,↓reduceIte]
   exact Qc (congrArg PV.bool (by unfold Qn4;subst hn;cases a<;>simp_all)) rfl
 ·simp+decide (disch:=first|exact D0|fail) only[go_sem,↓reduceIte]
  exact Qc (congrArg PV.bool (by unfold Qn4;cases a<;>simp_all)) rfl
theorem Q1n{n m:Bool}{a b:List Nat}(ha:Qh a)(hb:Qh b)(hla:a.length<2^41)(hlb:b.length<2^41):Qd Tryz.prog 151 [PV.zi n a,PV.zi m b] (· = .int .i64 (Qbz (zv n a) (zv m b))):=by
 have hx:nl (zv n a).natAbs<2^41:=by rw[Qbg];have:=Qar ha;omega
 have hy:nl (zv m b).natAbs<2^41:=by rw[Qbg];have:=Qar hb;omega
 refine Qf Qk Tryz.func151 rfl Qail (by simp[c151]) fun C hP=> ?_;simp only[c151,Zo,Zg,Zm,Zc,Zf,Zl,Zh,Zs,Zi,Zb,Zk,Zn,Zu,Zq,Zr,Zz]
 simp+decide (disch:=first|exact D0|fail) only[go_sem,↓reduceIte]
 refine Qa hP (Qie ha (by omega)) rfl rfl rfl ?_
 simp+decide (disch:=first|exact D0|fail) only[go_sem,↓reduceIte]
 refine Qa hP (Qie hb (by omega)) rfl rfl rfl ?_
 generalize zv n a=x at *
 generalize zv m b=y at *
 have lx:(dig x.natAbs).length<2^41:=hx
 have ly:(dig y.natAbs).length<2^41:=hy
 by_cases hx0:x<0<;>by_cases hy0:y<0
 ·simp+decide (disch:=first|exact D2 hx0 hy0|fail) only[go_sem,↓reduceIte,hx0,hy0]
  refine Qa hP (Qja (Qj y.natAbs) (Qj x.natAbs) (by omega) (by omega)) rfl rfl rfl ?_
  simp+decide (disch:=first|exact D0|fail) only[go_sem,↓reduceIte]
  exact Qc (congrArg (PV.int .i64) (by rw[Q2,Q2];unfold Qd5 Qbz;split<;>split<;>(try split)<;>(try split)<;>omega)) rfl
 ·simp+decide (disch:=first|exact D2 hx0 hy0|fail) only[go_sem,↓reduceIte,hx0,hy0]
  exact Qc (congrArg (PV.int .i64) (by unfold Qbz;rw[if_pos (by omega)])) rfl
 ·simp+decide (disch:=first|exact D2 hx0 hy0|fail) only[go_sem,↓reduceIte,hx0,hy0]
  exact Qc (congrArg (PV.int .i64) (by unfold Qbz;rw[if_neg (by omega),if_pos (by omega)])) rfl
 ·simp+decide (disch:=first|exact D2 hx0 hy0|fail) only[go_sem,↓reduceIte,hx0,hy0]
  refine Qa hP (Qja (Qj x.natAbs) (Qj y.natAbs) (by omega) (by omega)) rfl rfl rfl ?_
  simp+decide (disch:=first|exact D0|fail) only[go_sem,↓reduceIte]
  exact Qc (congrArg (PV.int .i64) (by rw[Q2,Q2];unfold Qd5 Qbz;split<;>split<;>(try split)<;>(try split)<;>omega)) rfl
theorem Q1o{n m:Bool}{a b:List Nat}(ha:Qh a)(hb:Qh b)(hla:a.length<2^40)(hlb:b.length<2^40):Qd Tryz.prog 149 [PV.zi n a,PV.zi m b] (· =PV.zz (zv n a+zv m b)):=by
 have hda:=Qar ha
 have hdb:=Qar hb
 refine Qf Qk Tryz.func149 rfl Qaim (by simp[c149]) fun C hP=> ?_;simp only[c149,Zo,Zg,Zm,Zc,Zf,Zl,Zh,Zs,Zi,Zb,Zk,Zn,Zu,Zq,Zr,Zz]
 simp+decide (disch:=first|exact D0|fail) only[go_sem,↓reduceIte]
 refine Qjh (fun hnm=> ?_) (fun hnm=> ?_)
 ·have hnm:n=m:=by simpa using hnm
  subst hnm
  have hr:=Qmy (val a) (val b)
  simp+decide (disch:=first|exact D0|fail) only[go_sem,↓reduceIte]
  refine Qa hP (Qro ha hb hla hlb) rfl rfl rfl ?_
  simp+decide (disch:=first|exact D0|fail) only[go_sem,↓reduceIte]
  refine Qa hP (Qf2 (n:=n) (Qj (val a+val b)) (show nl _<_ by omega)) rfl rfl rfl ?_
  simp+decide (disch:=first|exact D0|fail) only[go_sem,↓reduceIte]
  refine Qbc ?_
  simp+decide (disch:=first|exact D0|fail) only[go_sem,↓reduceIte]
  exact Qc (congrArg PV.zz (by rw[Qjn];unfold zv;split<;>simp<;>omega)) rfl
 have hnm:n= !m:=by cases n<;>cases m<;>simp_all
 subst hnm
 simp+decide (disch:=first|exact D0|fail) only[go_sem,↓reduceIte]
 refine Qa hP (Qmo ha hb hla hlb) rfl rfl rfl ?_
 by_cases hc:val a<val b
 ·rw[if_pos hc]
  have hr:=Qbm (Nat.sub_le (val b) (val a))
  simp+decide (disch:=first|exact D0|fail) only[go_sem,↓reduceIte]
  refine Qa hP (Qmo hb ha hlb hla) rfl rfl rfl ?_
  rw[if_neg (by omega)]
  simp+decide (disch:=first|exact D0|fail) only[go_sem,↓reduceIte]
  refine Qa hP (Qf2 (n:=m) (Qj (val b-val a)) (show nl _<_ by omega)) rfl rfl rfl ?_
  simp+decide (disch:=first|exact D0|fail) only[go_sem,↓reduceIte]
  refine Qbc ?_
  simp+decide (disch:=first|exact D0|fail) only[go_sem,↓reduceIte]
  exact Qc (congrArg PV.zz (by rw[Qjn];unfold zv;cases m<;>simp<;>omega)) rfl
 ·rw[if_neg hc]
  have hr:=Qbm (Nat.sub_le (val a) (val b))
  simp+decide (disch:=first|exact D0|fail) only[go_sem,↓reduceIte]
  refine Qa hP (Qf2 (n:= !m) (Qj (val a-val b)) (show nl _<_ by omega)) rfl rfl rfl ?_
  simp+decide (disch:=first|exact D0|fail) only[go_sem,↓reduceIte]
  refine Qbc ?_
  simp+decide (disch:=first|exact D0|fail) only[go_sem,↓reduceIte]
  exact Qc (congrArg PV.zz (by rw[Qjn];unfold zv;cases m<;>simp<;>omega)) rfl
end Go.Proofs.YtonfajmchebkeaaGreat
namespace Go.Proofs.YtonfajmchebkeaaGreat
open Go Go.FW
set_option linter.unusedSimpArgs false
set_option linter.unusedVariables false
set_option maxRecDepth 100000
theorem Qpy{a:List Nat}{g:Nat}(ha:Qh a)(hx:a.length<2^36)(hy:nl g<2^36)(h0:g≠0):Qd Tryz.prog 158 [PV.nat a,PV.num g] (· = .tup [PV.num (val a/g),PV.num (val a%g),.int .i64 0]):=by
 have:=Qm6 ha (Qj g) hx hy
 rwa[Q2,if_neg h0]at this
theorem Qamg(n:Bool)(a:List Nat)(D:Nat):zv n (dig (val a/Nat.gcd (val a) D))=zv n a/(Nat.gcd (zv n a).natAbs D:Int):=by
 rw[Qbg,Qjn]
 unfold zv
 cases n
 ·simp
 ·have hd:((Nat.gcd (val a) D:Nat):Int)∣(val a:Int):=Int.natCast_dvd_natCast.2 (Nat.gcd_dvd_left _ _)
  simp only[if_true]
  rw[Int.neg_ediv_of_dvd hd,Int.natCast_ediv]
theorem Qpz{n:Bool}{a d:List Nat}(ha:Qh a)(hd:Qh d)(hla:a.length<2^36)(hld:d.length<2^36):Qd Tryz.prog 82 [PV.zi n a,PV.nat d] (· =PV.rat (rv n a d)):=by
 have hna:=Qar ha
 have hnd:=Qar hd
 refine Qf Qk Tryz.func82 rfl Qama (by simp[c82]) fun C hP=> ?_;simp only[c82,Zo,Zg,Zm,Zc,Zf,Zl,Zh,Zs,Zi,Zb,Zk,Zn,Zu,Zq,Zr,Zz]
 simp+decide (disch:=first|exact D0|fail) only[go_sem,↓reduceIte]
 refine Qa hP (Qbx hd (by omega)) rfl rfl rfl ?_
 simp+decide (disch:=first|exact D0|fail) only[go_sem,↓reduceIte]
 refine Qb (fun hz=> ?_) (fun hz=> ?_)
 ·have h0:val d=0:=Qb3.1 (Qc6 (n:=val d) (by omega))
  simp+decide (disch:=first|exact D0|fail) only[go_sem,↓reduceIte]
  refine Qa hP (Qc9 (n:=1) (by omega)) rfl rfl rfl ?_
  simp+decide (disch:=first|exact D0|fail) only[go_sem,↓reduceIte]
  refine Qbc ?_
  simp+decide (disch:=first|exact D0|fail) only[go_sem,↓reduceIte]
  exact(by unfold rv;rw[Qre (.inl h0),Qgx];exact Qev Q2j rfl)
 ·have h0:val d≠0:=fun h=>by rw[h,Qa6]at hz;exact hz rfl
  have hg0:Nat.gcd (val a) (val d)≠0:=fun h=>h0 (Nat.gcd_eq_zero_iff.1 h).2
  have hg:=Qbm (Nat.gcd_le_right (val a) (Nat.pos_of_ne_zero h0))
  have hq:=Q7l (val a) (Nat.gcd (val a) (val d))
  simp+decide (disch:=first|exact D0|fail) only[go_sem,↓reduceIte]
  refine Qa hP (Qrp ha hd hla hld) rfl rfl rfl ?_
  simp+decide (disch:=first|exact D0|fail) only[go_sem,↓reduceIte]
  refine Qa hP (Qpy ha hla (by omega) hg0) rfl rfl rfl ?_
  simp+decide (disch:=first|exact D0|fail) only[go_sem,↓reduceIte]
  refine Qa hP (Qpy hd hld (by omega) hg0) rfl rfl rfl ?_
  simp+decide (disch:=first|exact D0|fail) only[go_sem,↓reduceIte]
  refine Qa hP (Qie (n:=n) (Qj (val a/Nat.gcd (val a) (val d))) (show nl _<_ by omega)) rfl rfl rfl ?_
  rw[Qamg]
  have hm:=Qjo (z:=zv n a) h0
  simp+decide (disch:=first|exact D0|fail) only[go_sem,↓reduceIte]
  refine Qbc ?_
  simp+decide (disch:=first|exact D0|fail) only[go_sem,↓reduceIte]
  exact Qc (by unfold rv;rw[PV.rat,hm.1,hm.2,Qbg]) rfl
theorem Qek{n:Bool}{a d:List Nat}{k:Nat}(hp:Raw k n a d)(hk:k<2^36):Qd Tryz.prog 148 [PV.rr n a d] (· =PV.rat (rv n a d)):=by
 obtain⟨ha,hd,sa,sd,k1⟩:=hp
 refine Qf Qk Tryz.func148 rfl Qaio (by simp[c148]) fun C hP=> ?_;simp only[c148,Zo,Zg,Zm,Zc,Zf,Zl,Zh,Zs,Zi,Zb,Zk,Zn,Zu,Zq,Zr,Zz]
 simp+decide (disch:=first|exact D0|fail) only[go_sem,↓reduceIte]
 refine Qa hP (Qpz (n:=n) ha hd (by omega) (by omega)) rfl rfl rfl ?_
 simp+decide (disch:=first|exact D0|fail) only[go_sem,↓reduceIte]
 refine Qbc ?_
 simp+decide (disch:=first|exact D0|fail) only[go_sem,↓reduceIte]
 exact Qc rfl rfl
theorem Qot{z:Int}{D:Nat}(hz:nl z.natAbs<2^36)(hD:nl D<2^36):Qd Tryz.prog 82 [PV.zz z,PV.num D] (· =PV.rat (mkRat z D)):=by
 have:=Qpz (n:=decide (z<0)) (Qj z.natAbs) (Qj D) hz hD
 rwa[rv,Qfy,Q2]at this
theorem Qt9{x:Int}(h1: -9223372036854775808<=x)(h2:x<=9223372036854775807):Qd Tryz.prog 37 [.int .i64 x] (· =PV.rat (x:Rat)):=by
 have hl1:nl x.natAbs<=4:=Qfw (by omega)
 refine Qf Qk Tryz.func37 rfl Qamb (by simp[c37]) fun C hP=> ?_;simp only[c37,Zo,Zg,Zm,Zc,Zf,Zl,Zh,Zs,Zi,Zb,Zk,Zn,Zu,Zq,Zr,Zz]
 simp+decide (disch:=first|exact D0|fail) only[go_sem,↓reduceIte]
 refine Qa hP (Q40 h1 h2) rfl rfl rfl ?_
 simp+decide (disch:=first|exact D0|fail) only[go_sem,↓reduceIte]
 refine Qa hP (Qc9 (n:=1) (by omega)) rfl rfl rfl ?_
 simp+decide (disch:=first|exact D0|fail) only[go_sem,↓reduceIte]
 refine Qa hP (Qot (z:=x) (D:=1) (by omega) (by rw[Qez];omega)) rfl rfl rfl ?_
 simp+decide (disch:=first|exact D0|fail) only[go_sem,↓reduceIte]
 refine Qbc ?_
 simp+decide (disch:=first|exact D0|fail) only[go_sem,↓reduceIte]
 exact Qc (congrArg PV.rat (Rat.mkRat_one x)) rfl
theorem Qhb(d:List Nat):Qd Tryz.prog 150 [PV.nat d] (· =PV.zi false d):=by
 refine Qf Qk Tryz.func150 rfl Qaip (by simp[c150]) fun C hP=> ?_;simp only[c150,Zo,Zg,Zm,Zc,Zf,Zl,Zh,Zs,Zi,Zb,Zk,Zn,Zu,Zq,Zr,Zz]
 simp+decide (disch:=first|exact D0|fail) only[go_sem,↓reduceIte]
 refine Qbc ?_
 simp+decide (disch:=first|exact D0|fail) only[go_sem,↓reduceIte]
 exact Qc rfl rfl
theorem Q41{x:Int}(hx:nl x.natAbs<2^42):Qd Tryz.prog 162 [PV.zz x] (· = .int .i64 (sgn x)):=by
 have:=Qz9 (n:=decide (x<0)) (Qj x.natAbs) hx
 rwa[Qfy]at this
theorem Qif{n:Bool}{a d:List Nat}{k:Nat}(hp:Raw k n a d)(hk:k<2^36):Qd Tryz.prog 85 [PV.rr n a d] (· = .int .i64 (Qd6 (rv n a d))):=by
 have hs:=hp.rs
 unfold FW.rs at hs
 refine Qf Qk Tryz.func85 rfl Qamc (by simp[c85]) fun C hP=> ?_;simp only[c85,Zo,Zg,Zm,Zc,Zf,Zl,Zh,Zs,Zi,Zb,Zk,Zn,Zu,Zq,Zr,Zz]
 simp+decide (disch:=first|exact D0|fail) only[go_sem,↓reduceIte]
 refine Qa hP (Qek hp hk) rfl rfl rfl ?_
 simp+decide (disch:=first|exact D0|fail) only[go_sem,↓reduceIte]
 refine Qa hP (Q41 (x:=(rv n a d).num) (by omega)) rfl rfl rfl ?_
 simp+decide (disch:=first|exact D0|fail) only[go_sem,↓reduceIte]
 exact Qc rfl rfl
end Go.Proofs.YtonfajmchebkeaaGreat
namespace Go.Proofs.YtonfajmchebkeaaGreat
open Go Go.FW
set_option linter.unusedSimpArgs false
set_option linter.unusedVariables false
set_option maxRecDepth 100000
theorem Ql7{x:Int}{d:Nat}(hx:nl x.natAbs<2^40)(hy:nl d<2^40):Qd Tryz.prog 146 [PV.zz x,PV.zi false (dig d)] (· =PV.zz (x*(d:Int))):=by
 have:=Qrq (n:=decide (x<0)) (m:=false) (Qj x.natAbs) (Qj d) hx hy
 rwa[Qfy,Qgo,Q2]at this
theorem Q8g{x y:Int}(hx:nl x.natAbs<2^40)(hy:nl y.natAbs<2^40):Qd Tryz.prog 149 [PV.zz x,PV.zz y] (· =PV.zz (x+y)):=by
 have:=Q1o (n:=decide (x<0)) (m:=decide (y<0)) (Qj x.natAbs) (Qj y.natAbs) hx hy
 rwa[Qfy,Qfy]at this
theorem Q8h{x y:Int}(hx:nl x.natAbs<2^41)(hy:nl y.natAbs<2^41):Qd Tryz.prog 151 [PV.zz x,PV.zz y] (· = .int .i64 (Qbz x y)):=by
 have:=Q1n (n:=decide (x<0)) (m:=decide (y<0)) (Qj x.natAbs) (Qj y.natAbs) hx hy
 rwa[Qfy,Qfy]at this
theorem Q1p{n m:Bool}{a d b c:List Nat}{k:Nat}(hp:Raw k n a d)(hq:Raw k m b c)(hk:k<2^34):Qd Tryz.prog 69 [PV.rr n a d,PV.rr m b c] (· =PV.rat (rv n a d*rv m b c)):=by
 obtain⟨ha,hd,sa,sd,k1⟩:=hp
 obtain⟨hb,hc,sb,sc,k2⟩:=hq
 have h1:=Qa2 (zv n a) (zv m b)
 have h2:=Qb1 (val d) (val c)
 rw[Qbg,Qbg]at h1
 have e1:=Qar ha
 have e2:=Qar hd
 have e3:=Qar hb
 have e4:=Qar hc
 refine Qf Qk Tryz.func69 rfl Qamf (by simp[c69]) fun C hP=> ?_;simp only[c69,Zo,Zg,Zm,Zc,Zf,Zl,Zh,Zs,Zi,Zb,Zk,Zn,Zu,Zq,Zr,Zz]
 simp+decide (disch:=first|exact D0|fail) only[go_sem,↓reduceIte]
 refine Qa hP (Qrq (n:=n) (m:=m) ha hb (by omega) (by omega)) rfl rfl rfl ?_
 simp+decide (disch:=first|exact D0|fail) only[go_sem,↓reduceIte]
 refine Qa hP (Qmp hd hc (by omega) (by omega)) rfl rfl rfl ?_
 simp+decide (disch:=first|exact D0|fail) only[go_sem,↓reduceIte]
 refine Qa hP (Qot (z:=zv n a*zv m b) (D:=val d*val c) (by omega) (by omega)) rfl rfl rfl ?_
 simp+decide (disch:=first|exact D0|fail) only[go_sem,↓reduceIte]
 refine Qbc ?_
 simp+decide (disch:=first|exact D0|fail) only[go_sem,↓reduceIte]
 exact Qc (congrArg PV.rat (Rat.mkRat_mul_mkRat _ _ _ _).symm) rfl
theorem Q1q{n m:Bool}{a d b c:List Nat}{k:Nat}(hp:Raw k n a d)(hq:Raw k m b c)(hk:k<2^34):Qd Tryz.prog 72 [PV.rr n a d,PV.rr m b c] (· = .int .i64 (Qis (rv n a d) (rv m b c))):=by
 have hx:=hp.rs
 have hy:=hq.rs
 unfold FW.rs at hx hy
 refine Qf Qk Tryz.func72 rfl Qamd (by simp[c72]) fun C hP=> ?_;simp only[c72,Zo,Zg,Zm,Zc,Zf,Zl,Zh,Zs,Zi,Zb,Zk,Zn,Zu,Zq,Zr,Zz]
 simp+decide (disch:=first|exact D0|fail) only[go_sem,↓reduceIte]
 refine Qa hP (Qek hp (by omega)) rfl rfl rfl ?_
 simp+decide (disch:=first|exact D0|fail) only[go_sem,↓reduceIte]
 refine Qa hP (Qek hq (by omega)) rfl rfl rfl ?_
 generalize rv n a d=p at *
 generalize rv m b c=q at *
 have h1:=Qa2 p.num (q.den:Int)
 have h2:=Qa2 q.num (p.den:Int)
 rw[Int.natAbs_natCast]at h1 h2
 simp+decide (disch:=first|exact D0|fail) only[go_sem,↓reduceIte]
 refine Qa hP (Qhb (dig q.den)) rfl rfl rfl ?_
 simp+decide (disch:=first|exact D0|fail) only[go_sem,↓reduceIte]
 refine Qa hP (Ql7 (x:=p.num) (d:=q.den) (by omega) (by omega)) rfl rfl rfl ?_
 simp+decide (disch:=first|exact D0|fail) only[go_sem,↓reduceIte]
 refine Qa hP (Qhb (dig p.den)) rfl rfl rfl ?_
 simp+decide (disch:=first|exact D0|fail) only[go_sem,↓reduceIte]
 refine Qa hP (Ql7 (x:=q.num) (d:=p.den) (by omega) (by omega)) rfl rfl rfl ?_
 simp+decide (disch:=first|exact D0|fail) only[go_sem,↓reduceIte]
 refine Qa hP (Q8h (x:=p.num*(q.den:Int)) (y:=q.num*(p.den:Int)) (by omega) (by omega)) rfl rfl rfl ?_
 simp+decide (disch:=first|exact D0|fail) only[go_sem,↓reduceIte]
 exact Qc (congrArg (PV.int .i64) (by rw[<-Q2k p.den_nz q.den_nz,Rat.mkRat_self,Rat.mkRat_self])) rfl
theorem Qrr{n m:Bool}{a d b c:List Nat}{k:Nat}(hp:Raw k n a d)(hq:Raw k m b c)(hk:k<2^34):Qd Tryz.prog 71 [PV.rr n a d,PV.rr m b c] (· =PV.rat (rv n a d+rv m b c)):=by
 have hx:=hp.rs
 have hy:=hq.rs
 unfold FW.rs at hx hy
 refine Qf Qk Tryz.func71 rfl Qame (by simp[c71]) fun C hP=> ?_;simp only[c71,Zo,Zg,Zm,Zc,Zf,Zl,Zh,Zs,Zi,Zb,Zk,Zn,Zu,Zq,Zr,Zz]
 simp+decide (disch:=first|exact D0|fail) only[go_sem,↓reduceIte]
 refine Qa hP (Qek hp (by omega)) rfl rfl rfl ?_
 simp+decide (disch:=first|exact D0|fail) only[go_sem,↓reduceIte]
 refine Qa hP (Qek hq (by omega)) rfl rfl rfl ?_
 generalize rv n a d=p at *
 generalize rv m b c=q at *
 have h1:=Qa2 p.num (q.den:Int)
 have h2:=Qa2 q.num (p.den:Int)
 have h3:=Qf6 (p.num*(q.den:Int)) (q.num*(p.den:Int))
 have h4:=Qb1 p.den q.den
 rw[Int.natAbs_natCast]at h1 h2
 simp+decide (disch:=first|exact D0|fail) only[go_sem,↓reduceIte]
 refine Qa hP (Qhb (dig q.den)) rfl rfl rfl ?_
 simp+decide (disch:=first|exact D0|fail) only[go_sem,↓reduceIte]
 refine Qa hP (Ql7 (x:=p.num) (d:=q.den) (by omega) (by omega)) rfl rfl rfl ?_
 simp+decide (disch:=first|exact D0|fail) only[go_sem,↓reduceIte]
 refine Qa hP (Qhb (dig p.den)) rfl rfl rfl ?_
 simp+decide (disch:=first|exact D0|fail) only[go_sem,↓reduceIte]
 refine Qa hP (Ql7 (x:=q.num) (d:=p.den) (by omega) (by omega)) rfl rfl rfl ?_
 simp+decide (disch:=first|exact D0|fail) only[go_sem,↓reduceIte]
 refine Qa hP (Q8g (x:=p.num*(q.den:Int)) (y:=q.num*(p.den:Int)) (by omega) (by omega)) rfl rfl rfl ?_
 simp+decide (disch:=first|exact D0|fail) only[go_sem,↓reduceIte]
 refine Qa hP (Qkf (x:=p.den) (y:=q.den) (by omega) (by omega)) rfl rfl rfl ?_
 simp+decide (disch:=first|exact D0|fail) only[go_sem,↓reduceIte]
 refine Qa hP (Qot (z:=p.num*(q.den:Int)+q.num*(p.den:Int)) (D:=p.den*q.den) (by omega) (by omega)) rfl rfl rfl ?_
 simp+decide (disch:=first|exact D0|fail) only[go_sem,↓reduceIte]
 refine Qbc ?_
 simp+decide (disch:=first|exact D0|fail) only[go_sem,↓reduceIte]
 exact Qc (congrArg PV.rat (by rw[<-Rat.mkRat_add_mkRat _ _ p.den_nz q.den_nz,Rat.mkRat_self,Rat.mkRat_self])) rfl
end Go.Proofs.YtonfajmchebkeaaGreat
namespace Go.Proofs.YtonfajmchebkeaaGreat
open Go Go.FW
set_option linter.unusedSimpArgs false
set_option linter.unusedVariables false
set_option maxRecDepth 100000
theorem Qxu{n:Bool}{a d:List Nat}{k:Nat}(hp:Raw k n a d)(hk:k<2^36):Qd Tryz.prog 56 [PV.rr n a d] (· = .bool (Qqu n a d)):=by
 obtain⟨ha,hd,sa,sd,k1⟩:=hp
 have hgl:(dig (Nat.gcd (val a) (val d))).length<2^43:=by
  by_cases h0:val d=0
  ·rw[h0,Nat.gcd_zero_right]
   have h4:=Qar ha
   unfold nl at h4;omega
  ·have h3:=Qbm (Nat.gcd_le_right (val a) (Nat.pos_of_ne_zero h0))
   have h4:=Qar hd
   unfold nl at h3 h4;omega
 refine Qf Qk Tryz.func56 rfl Qal9 (by simp[c56]) fun C hP=> ?_;simp only[c56,Zo,Zg,Zm,Zc,Zf,Zl,Zh,Zs,Zi,Zb,Zk,Zn,Zu,Zq,Zr,Zz]
 simp+decide (disch:=first|exact D0|fail) only[go_sem,↓reduceIte]
 refine Qa hP (Qxt ha (by omega)) rfl rfl rfl ?_
 unfold Qqu
 simp+decide (disch:=first|exact D0|fail) only[go_sem,↓reduceIte]
 cases hio:Qn4 n a
 ·simp+decide (disch:=first|exact D0|fail) only[go_sem,↓reduceIte]
  exact Qc (by simp) rfl
 rw[Bool.true_and]
 simp+decide (disch:=first|exact D0|fail) only[go_sem,↓reduceIte]
 refine Qa hP (Qo8 hd (by omega)) rfl rfl rfl ?_
 simp+decide (disch:=first|exact D0|fail) only[go_sem,↓reduceIte]
 refine Qgu (fun hv=> ?_) (fun hv=> ?_)
 ·simp+decide (disch:=first|exact D0|fail) only[go_sem,↓reduceIte]
  refine Qa hP (Qrp ha hd (by omega) (by omega)) rfl rfl rfl ?_
  simp+decide (disch:=first|exact D0|fail) only[go_sem,↓reduceIte]
  refine Qa hP (Qc9 (n:=1) (by omega)) rfl rfl rfl ?_
  simp+decide (disch:=first|exact D0|fail) only[go_sem,↓reduceIte]
  refine Qa hP (Qz8 hgl (by rw[Qgx];decide)) rfl rfl rfl ?_
  rw[Qgx,decide_eq_decide.2 (Qrl (Nat.gcd (val a) (val d)))]
  simp+decide (disch:=first|exact D0|fail) only[go_sem,↓reduceIte]
  refine Qan (fun hg=> ?_) (fun hg=> ?_)
  ·simp+decide (disch:=first|exact D0|fail) only[go_sem,↓reduceIte]
   exact Qc (congrArg PV.bool (by cases d<;>simp_all)) rfl
  ·simp+decide (disch:=first|exact D0|fail) only[go_sem,↓reduceIte]
   exact Qc (congrArg PV.bool (by simp[hg])) rfl
 ·simp+decide (disch:=first|exact D0|fail) only[go_sem,↓reduceIte]
  exact Qc (congrArg PV.bool (by simp_all)) rfl
end Go.Proofs.YtonfajmchebkeaaGreat
namespace Go.Proofs.YtonfajmchebkeaaGreat
open Go Go.FW
set_option maxRecDepth 100000
def c220:SFn:=⟨47,[.t 6],Zr (Zo (.mv 6 (.c .nilS)) .nil)<|Zr (Zm 11 0<|
 Zn 12 11<|
 Zm 13 1<|
 Zn 14 13<|
 Zo (.mx 15 (.t 12) (.t 14))<|
 Zo (.mk 16 1 8 3 (Zz 0) (.t 15) (.t 15))<|
 Zm 7 16 .nil)<| .seq (Zr (Zm 17 7<|
 Zn 18 17<|
 Zc 19 0 .nil)<| .block 0<| .loop<|Zr (Zb 20 .lss 19 18 .nil)<| .seq (.cond (.t 20) .skip (.exit 0))<| .seq (.block 1<|Zr (Zm 21 19<|
 Zm 8 21 .nil)<|Zr (Zc 9 0<|
 Zc 10 0 .nil)<| .seq (Zr (Zm 22 8<|
 Zm 23 0<|
 Zn 24 23<|
 Zb 25 .lss 22 24 .nil)<| .cond (.t 25) (.rg (Zm 26 0<|
 Zm 27 8<|
 Zi 28 1 26 27<|
 Zl 29 1 28<|
 Zm 9 29 .nil)) .skip)<| .seq (Zr (Zm 30 8<|
 Zm 31 1<|
 Zn 32 31<|
 Zb 33 .lss 30 32 .nil)<| .cond (.t 33) (.rg (Zm 34 1<|
 Zm 35 8<|
 Zi 36 1 34 35<|
 Zl 37 1 36<|
 Zm 10 37 .nil)) .skip)<| .rg (Zm 38 7<|
 Zm 39 8<|
 Zm 40 2<|
 Zm 41 9<|
 Zm 42 10<|
 Zo (.call (some 43) false (.t 40) [.t 41,.t 42])<|
 Zi 44 1 38 39<|
 Zs 1 44 43 .nil))<| .rg (Zk 45 .add 19 1<|
 Zm 19 45 .nil))<|Zr (Zm 46 7<|
 Zm 6 46 .nil) .ret⟩
theorem Qaiq:Qe Tryz.prog Tryz.f220=some c220:=by kernel_rfl
def c219:SFn:=⟨24,[.t 2],Zr (Zo (.mv 2 (.c .nilS)) .nil)<|Zr (Zm 4 0<|
 Zn 5 4<|
 Zm 3 5 .nil)<| .seq (.block 0<| .loop<| .seq (Zr (Zm 6 3<|
 Zk 7 .gtr 6 0<|
 Zm 8 7<|
 Zg 8 true (.mv 9 (.t 0))<|
 Zg 8 true (.mv 10 (.t 3))<|
 Zg 8 true (.bin 11 .sub false (.t 10) (.c (Zz 1)))<|
 Zg 8 true (.idx 12 1 (.t 9) (.t 11))<|
 Zg 8 true (.ld 13 1 false (.t 12))<|
 Zg 8 true (.bin 14 .eql false (.t 13) (.c (Zz 0)))<|
 Zo (.pick 15 (.t 8) (.t 14) (.c (.bool false))) .nil)<| .cond (.t 15) .skip (.exit 0))<| .block 1<| .rg (Zm 16 3<|
 Zk 17 .sub 16 1<|
 Zm 3 17 .nil))<| .seq (Zr (Zm 18 3<|
 Zk 19 .eql 18 0 .nil)<| .cond (.t 19) (Zr (Zo (.mv 2 (.c .nilS)) .nil) .ret) .skip)<|Zr (Zm 20 0<|
 Zm 21 3<|
 Zm 22 3<|
 Zo (.sl 23 1 (.t 20) none (some (.t 21)) (some (.t 22)))<|
 Zm 2 23 .nil) .ret⟩
theorem Qair:Qe Tryz.prog Tryz.f219=some c219:=by kernel_rfl
def c216:SFn:=⟨17,[.t 2],Zr (Zc 2 0 .nil)<|Zr (Zc 3 0 .nil)<| .seq (Zr (Zm 6 0<|
 Zn 7 6<|
 Zc 8 0 .nil)<| .block 0<| .loop<|Zr (Zb 9 .lss 8 7 .nil)<| .seq (.cond (.t 9) .skip (.exit 0))<| .seq (.block 1<|Zr (Zi 10 1 6 8<|
 Zl 11 1 10<|
 Zm 5 11 .nil)<| .rg (Zm 12 3<|
 Zm 13 5<|
 Zb 14 .add 12 13<|
 Zm 3 14 .nil))<| .rg (Zk 15 .add 8 1<|
 Zm 8 15 .nil))<|Zr (Zm 16 3<|
 Zm 2 16 .nil) .ret⟩
theorem Qais:Qe Tryz.prog Tryz.f216=some c216:=by kernel_rfl
def c222:SFn:=⟨17,[.t 4],Zr (Zc 4 0 .nil)<| .seq (Zr (Zm 5 1<|
 Zk 6 .lss 5 0<|
 Zm 7 6<|
 Zg 7 false (.mv 8 (.t 1))<|
 Zg 7 false (.mv 9 (.t 0))<|
 Zg 7 false (.len 10 (.t 9))<|
 Zg 7 false (.bin 11 .geq false (.t 8) (.t 10))<|
 Zo (.pick 12 (.t 7) (.c (.bool true)) (.t 11)) .nil)<| .cond (.t 12) (Zr (Zc 4 0 .nil) .ret) .skip)<|Zr (Zm 13 0<|
 Zm 14 1<|
 Zi 15 1 13 14<|
 Zl 16 1 15<|
 Zm 4 16 .nil) .ret⟩
theorem Qait:Qe Tryz.prog Tryz.f222=some c222:=by kernel_rfl
def c224:SFn:=⟨9,[.t 4],Zr (Zo (.mv 4 (.c .nilS)) .nil)<|Zr (Zm 5 0<|
 Zm 6 1<|
 Zq 7 false 220 [.t 5,.t 6,.c (.fn 242 [] [])]<|
 Zq 8 false 219 [.t 7]<|
 Zm 4 8 .nil) .ret⟩
theorem Qaiu:Qe Tryz.prog Tryz.f224=some c224:=by kernel_rfl
def c242:SFn:=⟨8,[.t 4],Zr (Zc 4 0 .nil)<|Zr (Zm 5 0<|
 Zm 6 1<|
 Zb 7 .add 5 6<|
 Zm 4 7 .nil) .ret⟩
theorem Qaiv:Qe Tryz.prog Tryz.f242=some c242:=by kernel_rfl
def c168:SFn:=⟨46,[.t 6],Zr (Zc 6 0 .nil)<| .seq (Zr (Zm 12 2<|
 Zk 13 .eql 12 1 .nil)<| .cond (.t 13) (Zr (Zm 14 0<|
 Zq 15 false 216 [.t 14]<|
 Zm 16 1<|
 Zq 17 false 216 [.t 16]<|
 Zm 7 15<|
 Zm 8 17 .nil)<|Zr (Zm 18 7<|
 Zm 19 8<|
 Zb 20 .neq 18 19 .nil)<| .cond (.t 20) (.seq (Zr (Zm 21 7<|
 Zm 22 8<|
 Zb 23 .lss 21 22 .nil)<| .cond (.t 23) (Zr (Zc 6 (-1) .nil) .ret) .skip)<|Zr (Zc 6 1 .nil) .ret) .skip) .skip)<| .seq (Zr (Zm 24 0<|
 Zn 25 24<|
 Zm 26 1<|
 Zn 27 26<|
 Zo (.mx 28 (.t 25) (.t 27))<|
 Zk 29 .sub 28 1<|
 Zm 9 29 .nil)<| .block 0<| .loop<| .seq (Zr (Zm 30 9<|
 Zk 31 .geq 30 0 .nil)<| .cond (.t 31) .skip (.exit 0))<| .seq (.block 1<|Zr (Zm 34 0<|
 Zm 35 9<|
 Zq 36 false 222 [.t 34,.t 35]<|
 Zm 37 1<|
 Zm 38 9<|
 Zq 39 false 222 [.t 37,.t 38]<|
 Zm 10 36<|
 Zm 11 39 .nil)<|Zr (Zm 40 10<|
 Zm 41 11<|
 Zb 42 .neq 40 41 .nil)<| .cond (.t 42) (.seq (Zr (Zm 43 10<|
 Zm 44 11<|
 Zb 45 .lss 43 44 .nil)<| .cond (.t 45) (Zr (Zc 6 (-1) .nil) .ret) .skip)<|Zr (Zc 6 1 .nil) .ret) .skip)<| .rg (Zm 32 9<|
 Zk 33 .sub 32 1<|
 Zm 9 33 .nil))<|Zr (Zc 6 0 .nil) .ret⟩
theorem Qaiw:Qe Tryz.prog Tryz.f168=some c168:=by kernel_rfl
def c218:SFn:=⟨20,[.t 4],Zr (Zo (.mv 4 (.c (.bool false))) .nil)<| .seq (Zr (Zm 7 0<|
 Zn 8 7<|
 Zc 9 0 .nil)<| .block 0<| .loop<|Zr (Zb 10 .lss 9 8 .nil)<| .seq (.cond (.t 10) .skip (.exit 0))<| .seq (.block 1<|Zr (Zm 11 9<|
 Zi 12 1 7 9<|
 Zl 13 1 12<|
 Zm 5 11<|
 Zm 6 13 .nil)<|Zr (Zm 14 6<|
 Zm 15 1<|
 Zm 16 5<|
 Zq 17 false 222 [.t 15,.t 16]<|
 Zb 18 .gtr 14 17 .nil)<| .cond (.t 18) (Zr (Zo (.mv 4 (.c (.bool false))) .nil) .ret) .skip)<| .rg (Zk 19 .add 9 1<|
 Zm 9 19 .nil))<|Zr (Zo (.mv 4 (.c (.bool true))) .nil) .ret⟩
theorem Qaix:Qe Tryz.prog Tryz.f218=some c218:=by kernel_rfl
def c167:SFn:=⟨14,[.t 4,.t 5],Zr (Zo (.mv 4 (.c .nilS))<|
 Zo (.mv 5 (.c (.bool false))) .nil)<| .seq (Zr (Zm 6 1<|
 Zm 7 0<|
 Zq 8 false 218 [.t 6,.t 7]<|
 Zu 9 8 .nil)<| .cond (.t 9) (Zr (Zo (.mv 4 (.c .nilS))<|
 Zo (.mv 5 (.c (.bool false))) .nil) .ret) .skip)<|Zr (Zm 10 0<|
 Zm 11 1<|
 Zq 12 false 220 [.t 10,.t 11,.c (.fn 221 [] [])]<|
 Zq 13 false 219 [.t 12]<|
 Zm 4 13<|
 Zo (.mv 5 (.c (.bool true))) .nil) .ret⟩
theorem Qaiy:Qe Tryz.prog Tryz.f167=some c167:=by kernel_rfl
def c221:SFn:=⟨8,[.t 4],Zr (Zc 4 0 .nil)<|Zr (Zm 5 0<|
 Zm 6 1<|
 Zb 7 .sub 5 6<|
 Zm 4 7 .nil) .ret⟩
theorem Qaiz:Qe Tryz.prog Tryz.f221=some c221:=by kernel_rfl
end Go.Proofs.YtonfajmchebkeaaGreat
namespace Go.Proofs.YtonfajmchebkeaaGreat
open Go Go.FW
set_option linter.unusedSimpArgs false
set_option linter.unusedVariables false
set_option maxRecDepth 100000
theorem Q8i{n m:Bool}{a d b c:List Nat}{k:Nat}(hp:Raw k n a d)(hq:Raw k m b c)(hk:k<2^36):Qd Tryz.prog 223 [PV.rr n a d,PV.rr m b c] (· =PV.rat (rv n a d*rv m b c)):=by
 refine Qf Qk Tryz.func223 rfl Qag5 (by simp[c223]) fun C hP=> ?_;simp only[c223,Zo,Zg,Zm,Zc,Zf,Zl,Zh,Zs,Zi,Zb,Zk,Zn,Zu,Zq,Zr,Zz]
 simp+decide (disch:=first|exact D0|fail) only[go_sem,↓reduceIte]
 refine Qcs hP (Qd8 hp.la hp.ld hp.k1 hp.sa hp.sd (by omega)) rfl rfl rfl ?_
 rintro _ ⟨n',a',d',rfl,g1,g2,g3,g4,g5,g6⟩
 simp+decide (disch:=first|exact D0|fail) only[go_sem,↓reduceIte]
 refine Qcs hP (Qd8 hq.la hq.ld hq.k1 hq.sa hq.sd (by omega)) rfl rfl rfl ?_
 rintro _ ⟨m',b',c',rfl,e1,e2,e3,e4,e5,e6⟩
 simp+decide (disch:=first|exact D0|fail) only[go_sem,↓reduceIte]
 have hza:nl (zv n' a').natAbs<=k:=by rw[Qbg];exact Nat.le_trans (Qar g1) g3
 have hzb:nl (zv m' b').natAbs<=k:=by rw[Qbg];exact Nat.le_trans (Qar e1) e3
 have hvd:nl (val d')<=k:=Nat.le_trans (Qar g2) g4
 have hvc:nl (val c')<=k:=Nat.le_trans (Qar e2) e4
 have h3:=Qa2 (zv n' a') (zv m' b')
 have h6:=Qb1 (val d') (val c')
 refine Qa hP (Qd7 (n:=n') (m:=m') g1 e1 (by omega) (by omega)) rfl rfl rfl ?_
 simp+decide (disch:=first|exact D0|fail) only[go_sem,↓reduceIte]
 refine Qa hP (Qoi g2 e2 (by omega) (by omega)) rfl rfl rfl ?_
 simp+decide (disch:=first|exact D0|fail) only[go_sem,↓reduceIte]
 refine Qa hP (Qkb (z:=zv n' a'*zv m' b') (Qj _) (by omega) (by show nl _<_;omega)) rfl rfl rfl ?_
 simp+decide (disch:=first|exact D0|fail) only[go_sem,↓reduceIte]
 refine Qbc ?_
 simp+decide (disch:=first|exact D0|fail) only[go_sem,↓reduceIte]
 refine Qc ?_ rfl
 rw[Q2,<-g6,<-e6]
 unfold rv
 rw[Rat.mkRat_mul_mkRat]
theorem Qou{n:Bool}{a d:List Nat}{k:Nat}(hp:Raw k n a d)(hk:k<2^36):Qd Tryz.prog 202 [PV.rr n a d] (· = .int .i64 (Qd6 (rv n a d))):=by
 refine Qf Qk Tryz.func202 rfl Qag1 (by simp[c202]) fun C hP=> ?_;simp only[c202,Zo,Zg,Zm,Zc,Zf,Zl,Zh,Zs,Zi,Zb,Zk,Zn,Zu,Zq,Zr,Zz]
 simp+decide (disch:=first|exact D0|fail) only[go_sem,↓reduceIte]
 refine Qcs hP (Qd8 hp.la hp.ld hp.k1 hp.sa hp.sd (by omega)) rfl rfl rfl ?_
 rintro _ ⟨n',a',d',rfl,g1,g2,g3,g4,g5,g6⟩
 simp+decide (disch:=first|exact D0|fail) only[go_sem,↓reduceIte]
 refine Qa hP (Qi9 g1 (by omega)) rfl rfl rfl ?_
 simp+decide (disch:=first|exact D0|fail) only[go_sem,↓reduceIte]
 exact Qc (by rw[<-g6];unfold rv;rw[Q7m g5]) rfl
theorem Q8j{n m:Bool}{a d b c:List Nat}{k:Nat}(hp:Raw k n a d)(hq:Raw k m b c)(hk:k<2^36):Qd Tryz.prog 212 [PV.rr n a d,PV.rr m b c] (· = .int .i64 (Qis (rv n a d) (rv m b c))):=by
 refine Qf Qk Tryz.func212 rfl Qag2 (by simp[c212]) fun C hP=> ?_;simp only[c212,Zo,Zg,Zm,Zc,Zf,Zl,Zh,Zs,Zi,Zb,Zk,Zn,Zu,Zq,Zr,Zz]
 simp+decide (disch:=first|exact D0|fail) only[go_sem,↓reduceIte]
 refine Qa hP (Qou hp hk) rfl rfl rfl ?_
 simp+decide (disch:=first|exact D0|fail) only[go_sem,↓reduceIte]
 refine Qa hP (Qou hq hk) rfl rfl rfl ?_
 simp+decide (disch:=first|exact D0|fail) only[go_sem,↓reduceIte]
 refine Qb (fun h1=> ?_) (fun h1=> ?_)
 ·simp+decide (disch:=first|exact D0|fail) only[go_sem,↓reduceIte]
  refine Qb (fun h2=> ?_) (fun h2=> ?_)
  ·simp+decide (disch:=first|exact D0|fail) only[go_sem,↓reduceIte]
   exact Qc (by rw[Qzi h2]) rfl
  ·simp+decide (disch:=first|exact D0|fail) only[go_sem,↓reduceIte]
   exact Qc (by rw[Qaay (by omega)]) rfl
 simp+decide (disch:=first|exact D0|fail) only[go_sem,↓reduceIte]
 refine Qcs hP (Qd8 hp.la hp.ld hp.k1 hp.sa hp.sd (by omega)) rfl rfl rfl ?_
 rintro _ ⟨n',a',d',rfl,g1,g2,g3,g4,g5,g6⟩
 simp+decide (disch:=first|exact D0|fail) only[go_sem,↓reduceIte]
 refine Qcs hP (Qd8 hq.la hq.ld hq.k1 hq.sa hq.sd (by omega)) rfl rfl rfl ?_
 rintro _ ⟨m',b',c',rfl,e1,e2,e3,e4,e5,e6⟩
 have hza:nl (zv n' a').natAbs<=k:=by rw[Qbg];exact Nat.le_trans (Qar g1) g3
 have hzb:nl (zv m' b').natAbs<=k:=by rw[Qbg];exact Nat.le_trans (Qar e1) e3
 have hvd:nl (val d')<=k:=Nat.le_trans (Qar g2) g4
 have hvc:nl (val c')<=k:=Nat.le_trans (Qar e2) e4
 have h3:=Qa2 (zv n' a') (val c')
 have h4:=Qa2 (zv m' b') (val d')
 rw[Int.natAbs_natCast]at h3 h4
 simp+decide (disch:=first|exact D0|fail) only[go_sem,↓reduceIte]
 refine Qa hP (Qe1 _) rfl rfl rfl ?_
 simp+decide (disch:=first|exact D0|fail) only[go_sem,↓reduceIte]
 refine Qa hP (Qd7 (n:=n') (m:=false) g1 e2 (by omega) (by omega)) rfl rfl rfl ?_
 simp+decide (disch:=first|exact D0|fail) only[go_sem,↓reduceIte]
 refine Qa hP (Qe1 _) rfl rfl rfl ?_
 simp+decide (disch:=first|exact D0|fail) only[go_sem,↓reduceIte]
 refine Qa hP (Qd7 (n:=m') (m:=false) e1 g2 (by omega) (by omega)) rfl rfl rfl ?_
 rw[Qgo,Qgo]
 simp+decide (disch:=first|exact D0|fail) only[go_sem,↓reduceIte]
 refine Qa hP (Qaca (x:=zv n' a'*(val c':Int)) (y:=zv m' b'*(val d':Int)) (by omega) (by omega)) rfl rfl rfl ?_
 simp+decide (disch:=first|exact D0|fail) only[go_sem,↓reduceIte]
 exact Qc (by rw[<-g6,<-e6];unfold rv;rw[Q2k g5 e5]) rfl
theorem Q8k{x:Int}(h1: -9223372036854775808<=x)(h2:x<=9223372036854775807):Qd Tryz.prog 154 [.int .i64 x] (· =PV.zz x):=by
 refine Qf Qk Tryz.func154 rfl Qagq (by simp[c154]) fun C hP=> ?_;simp only[c154,Zo,Zg,Zm,Zc,Zf,Zl,Zh,Zs,Zi,Zb,Zk,Zn,Zu,Zq,Zr,Zz]
 simp+decide (disch:=first|exact D0|fail) only[go_sem,↓reduceIte]
 refine Qb (fun hc=> ?_) (fun hc=> ?_)
 ·obtain⟨y,hy⟩:∃y:Nat,x= -((y:Int)+1):=⟨(-(x+1)).toNat,by omega⟩
  have e1:IntKind.i64.wrap (x+1)= -(y:Int):=by rw[Qhh (by omega) (by omega)];omega
  have e2:IntKind.i64.wrap (0- -(y:Int))=(y:Int):=by rw[Qhh (by omega) (by omega)];omega
  have e3:IntKind.u64.wrap (y:Int)=(y:Int):=Qfv (by omega) (by omega)
  have e4:IntKind.u64.wrap ((y+1:Nat):Int)=((y+1:Nat):Int):=Qfv (by omega) (by omega)
  simp+decide (disch:=first|exact D4 e1 e2 e3 e4|fail) only[go_sem,↓reduceIte,e1,e2,e3,e4]
  refine Qa hP (Qqw (by omega)) rfl rfl rfl ?_
  simp+decide (disch:=first|exact D0|fail) only[go_sem,↓reduceIte]
  refine Qa hP (Qf7 true (y+1)) rfl rfl rfl ?_
  simp+decide (disch:=first|exact D0|fail) only[go_sem,↓reduceIte]
  refine Qbc ?_
  simp+decide (disch:=first|exact D0|fail) only[go_sem,↓reduceIte]
  exact Qc (congrArg PV.zz (by simp;omega)) rfl
 ·obtain⟨y,rfl⟩:∃y:Nat,x=y:=⟨x.toNat,by omega⟩
  simp+decide (disch:=first|exact D0|fail) only[go_sem,↓reduceIte]
  refine Qa hP (Qqw (by omega)) rfl rfl rfl ?_
  simp+decide (disch:=first|exact D0|fail) only[go_sem,↓reduceIte]
  refine Qa hP (Qf7 false y) rfl rfl rfl ?_
  simp+decide (disch:=first|exact D0|fail) only[go_sem,↓reduceIte]
  refine Qbc ?_
  simp+decide (disch:=first|exact D0|fail) only[go_sem,↓reduceIte]
  exact Qc (congrArg PV.zz (by simp)) rfl
theorem Qp0{x:Int}(h1: -9223372036854775808<=x)(h2:x<=9223372036854775807):Qd Tryz.prog 78 [.int .i64 x] (· =PV.rat (x:Rat)):=by
 refine Qf Qk Tryz.func78 rfl Qale (by simp[c78]) fun C hP=> ?_;simp only[c78,Zo,Zg,Zm,Zc,Zf,Zl,Zh,Zs,Zi,Zb,Zk,Zn,Zu,Zq,Zr,Zz]
 simp+decide (disch:=first|exact D0|fail) only[go_sem,↓reduceIte]
 refine Qa hP (Q8k h1 h2) rfl rfl rfl ?_
 simp+decide (disch:=first|exact D0|fail) only[go_sem,↓reduceIte]
 refine Qa hP Ql4 rfl rfl rfl ?_
 simp+decide (disch:=first|exact D0|fail) only[go_sem,↓reduceIte]
 refine Qbc ?_
 simp+decide (disch:=first|exact D0|fail) only[go_sem,↓reduceIte]
 exact Qc (by rw[PV.rat,Rat.num_intCast,Rat.den_intCast,PV.num,PV.num,Qgx];rfl) rfl
end Go.Proofs.YtonfajmchebkeaaGreat
namespace Go.Proofs.YtonfajmchebkeaaGreat
open Go Go.FW
set_option linter.unusedSimpArgs false
set_option linter.unusedVariables false
set_option maxRecDepth 100000
end Go.Proofs.YtonfajmchebkeaaGreat
namespace Go.Proofs.YtonfajmchebkeaaGreat
open Go Go.FW
set_option linter.unusedSimpArgs false
set_option linter.unusedVariables false
set_option maxRecDepth 100000
theorem Qrs{a:List Int}(hl:a.length<2^42):Qd Tryz.prog 219 [PV.mono a] (· =PV.mono (Qi8 a)):=by
 refine Qf Qk Tryz.func219 rfl Qair (by simp[c219]) fun C hP=> ?_;simp only[c219,Zo,Zg,Zm,Zc,Zf,Zl,Zh,Zs,Zi,Zb,Zk,Zn,Zu,Zq,Zr,Zz]
 simp+decide (disch:=first|exact D0|fail) only[go_sem,↓reduceIte]
 refine Q6 (by repeat (first|exact Qx|exact Qp|exact Qq|exact Qr|exact Qt|apply Qo|apply Qw|apply Q4|apply Qac|apply Qad|apply Qm)) [(3,3),(6,17)] [] (fun n J hp=>n<=a.length/\Qit a n=Qi8 a/\J 3= .int .i64 n/\hp=hp0) a.length ?_ ?_
 ·refine⟨Nat.le_refl _,rfl,?_⟩
  simp+decide (disch:=first|exact D0|fail) only[go_sem,↓reduceIte]
 rintro n J _ ⟨hn,hc,h3,rfl⟩
 simp+decide (disch:=first|exact D1 h3|fail) only[go_sem,↓reduceIte,h3]
 refine Qan (fun hg=> ?_) (fun hg=> ?_)
 ·obtain _|n:=n
  ·omega
  have e:((n+1:Nat):Int)-1=n:=by omega
  simp only[Qit]at hc
  simp+decide (disch:=first|exact D2 h3 e|fail) only[go_sem,↓reduceIte,h3,e]
  refine Qb (fun hz=> ?_) (fun hz=> ?_)
  ·rw[if_pos (by simp[hz,show n<a.length by omega])]at hc
   simp+decide (disch:=first|exact D2 h3 e|fail) only[go_sem,↓reduceIte,h3,e]
   refine Qi n (by omega) ⟨by omega,hc,?_⟩
   simp+decide (disch:=first|exact D0|fail) only[go_sem,↓reduceIte]
  ·rw[if_neg (by simpa[show n<a.length by omega]using hz)]at hc
   simp+decide (disch:=first|exact D2 h3 e|fail) only[go_sem,↓reduceIte,h3,e]
   refine Qb (fun h=>by omega) (fun h=> ?_)
   simp+decide (disch:=first|exact D2 h3 e|fail) only[go_sem,↓reduceIte,h3,e]
   exact Qc (congrArg PV.mono hc) rfl
 ·obtain rfl:n=0:=by omega
  simp+decide (disch:=first|exact D1 h3|fail) only[go_sem,↓reduceIte,h3]
  exact Qev (Q7n (by rw[<-hc];rfl)) rfl
theorem Qj2{a:List Int}(hl:a.length<=1048576)(hb:∀x∈a,0<=x/\x<=1099511627776):Qd Tryz.prog 216 [PV.mono a] (· = .int .i64 (Qa3 a)):=by
 refine Qf Qk Tryz.func216 rfl Qais (by simp[c216]) fun C hP=> ?_;simp only[c216,Zo,Zg,Zm,Zc,Zf,Zl,Zh,Zs,Zi,Zb,Zk,Zn,Zu,Zq,Zr,Zz]
 simp+decide (disch:=first|exact D0|fail) only[go_sem,↓reduceIte]
 refine Q6 (by repeat (first|exact Qx|exact Qp|exact Qq|exact Qr|exact Qt|apply Qo|apply Qw|apply Q4|apply Qac|apply Qad|apply Qm)) [(3,3),(5,5),(8,15)] [] (fun k J hp=>∃(i:Nat)(s:Int),k=a.length-i/\i<=a.length/\0<=s/\s<=1099511627776*i/\s+(a.drop i).sum=Qa3 a/\J 8= .int .i64 (i:Nat)/\J 3= .int .i64 s/\hp=hp0) a.length ?_ ?_
 ·refine⟨0,0,rfl,by omega,by omega,by omega,by simp[Qa3],?_⟩
  simp+decide (disch:=first|exact D0|fail) only[go_sem,↓reduceIte]
  simp
 rintro _ J _ ⟨i,s,rfl,hi,hs0,hs1,hsum,h8,h3,rfl⟩
 simp+decide (disch:=first|exact D2 h8 h3|fail) only[go_sem,↓reduceIte,h8,h3]
 refine Qb (fun hg=> ?_) (fun hg=> ?_)
 ·have hi':i<a.length:=by omega
  have hx:=hb _ (List.getElem_mem hi')
  rw[List.drop_eq_getElem_cons hi',List.sum_cons]at hsum
  generalize hxx:a[i]=x at *
  simp+decide (disch:=first|exact D3 h8 h3 hxx|fail) only[go_sem,↓reduceIte,h8,h3,hxx]
  refine Qi (a.length-(i+1)) (by omega) ⟨i+1,s+x,rfl,by omega,by omega,by push_cast;omega,by omega,?_⟩
  simp+decide (disch:=first|exact D0|fail) only[go_sem,↓reduceIte]
 ·rw[List.drop_of_length_le (by omega),List.sum_nil,Int.add_zero]at hsum
  simp+decide (disch:=first|exact D1 h3|fail) only[go_sem,↓reduceIte,h3]
  exact Qc (by rw[hsum]) rfl
theorem Q42{a:List Int}{v:Int}(hl:a.length<2^42):Qd Tryz.prog 222 [PV.mono a,.int .i64 v] (· = .int .i64 (if v<0 then 0 else eN a v.toNat)):=by
 refine Qf Qk Tryz.func222 rfl Qait (by simp[c222]) fun C hP=> ?_;simp only[c222,Zo,Zg,Zm,Zc,Zf,Zl,Zh,Zs,Zi,Zb,Zk,Zn,Zu,Zq,Zr,Zz]
 simp+decide (disch:=first|exact D0|fail) only[go_sem,↓reduceIte]
 refine Qaa (fun h1=> ?_) (fun h1=> ?_)
 ·simp+decide (disch:=first|exact D0|fail) only[go_sem,↓reduceIte]
  exact Qc (by rw[if_pos h1]) rfl
 ·obtain⟨n,rfl⟩:∃n:Nat,v=n:=⟨v.toNat,by omega⟩
  rw[if_neg h1]
  simp+decide (disch:=first|exact D0|fail) only[go_sem,↓reduceIte]
  refine Qb (fun h2=> ?_) (fun h2=> ?_)
  ·simp+decide (disch:=first|exact D0|fail) only[go_sem,↓reduceIte]
   exact Qc (by rw[Qds (by omega)]) rfl
  ·have hn:n<a.length:=by omega
   simp+decide (disch:=first|exact D0|fail) only[go_sem,↓reduceIte]
   exact Qc (by rw[Qc0 hn]) rfl
theorem Qju{a:List Int}{i:Nat}(hl:a.length<2^42):Qd Tryz.prog 222 [PV.mono a,.int .i64 i] (· = .int .i64 (eN a i)):=by
 have:=Q42 (v:=i) hl
 rwa[if_neg (by omega),Int.toNat_natCast]at this
end Go.Proofs.YtonfajmchebkeaaGreat
namespace Go.Proofs.YtonfajmchebkeaaGreat
open Go Go.FW
set_option linter.unusedSimpArgs false
set_option linter.unusedVariables false
set_option maxRecDepth 100000
theorem Qm7{a b:List Int}{f:Nat}{g:Int->Int->Int}(hla:a.length<2^40)(hlb:b.length<2^40)(hf:∀i,Qd Tryz.prog f [.int .i64 (eN a i),.int .i64 (eN b i)] (· = .int .i64 (g (eN a i) (eN b i)))):
  Qd Tryz.prog 220 [PV.mono a,PV.mono b,.fn f [] []] (· =PV.mono (Qfb g a b)):=by
 refine Qf Qk Tryz.func220 rfl Qaiq (by simp[c220]) fun C hP=> ?_;simp only[c220,Zo,Zg,Zm,Zc,Zf,Zl,Zh,Zs,Zi,Zb,Zk,Zn,Zu,Zq,Zr,Zz]
 simp+decide (disch:=first|exact D0|fail) only[go_sem,↓reduceIte]
 refine Q6 (by repeat (first|exact Qx|exact Qp|exact Qq|exact Qr|exact Qt|apply Qo|apply Qw|apply Q4|apply Qac|apply Qad|apply Qm)) [(8,10),(19,45)] [] (fun k J hp=>∃i,k=max a.length b.length-i/\i<=max a.length b.length/\J 19= .int .i64 (i:Nat)/\hp=Qn hp0 16 ⟨1,3,Qeh ((Qfb g a b).take i++List.replicate (max a.length b.length-i) 0),false⟩) (max a.length b.length) ?_ ?_
 ·refine⟨0,rfl,by omega,?_⟩
  simp+decide (disch:=first|exact D0|fail) only[go_sem,↓reduceIte]
  simp
 rintro _ J _ ⟨i,rfl,hi,h19,rfl⟩
 simp+decide (disch:=first|exact D1 h19|fail) only[go_sem,↓reduceIte,h19]
 refine Qb (fun hg=> ?_) (fun hg=> ?_)
 ·have hi':i<max a.length b.length:=by omega
  have hfi:=hf i
  have htl:((Qfb g a b).take i).length=i:=by rw[List.length_take,Qbu];omega
  have hset:=fun v=>Q7o (v:=v) (z:=(0:Int)) htl (show 0<max a.length b.length-i by omega)
  have hlen:i<((Qfb g a b).take i++List.replicate (max a.length b.length-i) (0:Int)).length:=by rw[List.length_append,htl,List.length_replicate];omega
  have htk:=Qpr (g:=g) hi'
  have fin:∀x y,x=eN a i->y=eN b i->Qd Tryz.prog f [.int .i64 x,.int .i64 y] (· = .int .i64 (g (eN a i) (eN b i))):=by rintro _ _ rfl rfl;exact hfi
  simp+decide (disch:=first|exact D1 h19|fail) only[go_sem,↓reduceIte,h19]
  refine Qb (fun h1=> ?_) (fun h1=> ?_)
  ·have h1':i<a.length:=by omega
   simp+decide (disch:=first|exact D1 h19|fail) only[go_sem,↓reduceIte,h19]
   refine Qb (fun h2=> ?_) (fun h2=> ?_)
   ·have h2':i<b.length:=by omega
    simp+decide (disch:=first|exact D1 h19|fail) only[go_sem,↓reduceIte,h19]
    refine Qa hP (fin _ _ (Qc0 h1').symm (Qc0 h2').symm) rfl rfl rfl ?_
    simp+decide (disch:=first|omega|rfl|(simp+decide only[go_sem,↓reduceIte,h19,hset,<-htk]<;>rfl)|fail) only[go_sem,↓reduceIte,h19,hset,<-htk]
    refine Qi (max a.length b.length-(i+1)) (by omega) ⟨i+1,rfl,by omega,?_⟩
    simp+decide (disch:=first|omega|rfl|(simp+decide only[go_sem,↓reduceIte,Nat.sub_sub]<;>rfl)|fail) only[go_sem,↓reduceIte,Nat.sub_sub]
   ·simp+decide (disch:=first|exact D1 h19|fail) only[go_sem,↓reduceIte,h19]
    refine Qa hP (fin _ _ (Qc0 h1').symm (Qds (by omega)).symm) rfl rfl rfl ?_
    simp+decide (disch:=first|omega|rfl|(simp+decide only[go_sem,↓reduceIte,h19,hset,<-htk]<;>rfl)|fail) only[go_sem,↓reduceIte,h19,hset,<-htk]
    refine Qi (max a.length b.length-(i+1)) (by omega) ⟨i+1,rfl,by omega,?_⟩
    simp+decide (disch:=first|omega|rfl|(simp+decide only[go_sem,↓reduceIte,Nat.sub_sub]<;>rfl)|fail) only[go_sem,↓reduceIte,Nat.sub_sub]
  ·simp+decide (disch:=first|exact D1 h19|fail) only[go_sem,↓reduceIte,h19]
   refine Qb (fun h2=> ?_) (fun h2=>by omega)
   have h2':i<b.length:=by omega
   simp+decide (disch:=first|exact D1 h19|fail) only[go_sem,↓reduceIte,h19]
   refine Qa hP (fin _ _ (Qds (by omega)).symm (Qc0 h2').symm) rfl rfl rfl ?_
   simp+decide (disch:=first|omega|rfl|(simp+decide only[go_sem,↓reduceIte,h19,hset,<-htk]<;>rfl)|fail) only[go_sem,↓reduceIte,h19,hset,<-htk]
   refine Qi (max a.length b.length-(i+1)) (by omega) ⟨i+1,rfl,by omega,?_⟩
   simp+decide (disch:=first|omega|rfl|(simp+decide only[go_sem,↓reduceIte,Nat.sub_sub]<;>rfl)|fail) only[go_sem,↓reduceIte,Nat.sub_sub]
 ·obtain rfl:i=max a.length b.length:=by omega
  simp+decide (disch:=first|exact E0|fail) only[go_sem,↓reduceIte,Q7,List.contains_cons,List.contains_nil,List.flatMap_cons,List.flatMap_nil,List.append_nil]
  exact Qc (by simp[List.take_of_length_le,Qbu]) rfl
theorem Q1r{x y:Int}(h1: -9223372036854775808<=x+y)(h2:x+y<=9223372036854775807):Qd Tryz.prog 242 [.int .i64 x,.int .i64 y] (· = .int .i64 (x+y)):=by
 refine Qf Qk Tryz.func242 rfl Qaiv (by simp[c242]) fun C hP=> ?_;simp only[c242,Zo,Zg,Zm,Zc,Zf,Zl,Zh,Zs,Zi,Zb,Zk,Zn,Zu,Zq,Zr,Zz]
 simp+decide (disch:=first|exact D0|fail) only[go_sem,↓reduceIte]
 exact Qc rfl rfl
theorem Q43{k:Nat}{a b:List Int}(ha:MB k a)(hb:MB k b)(hk:k<=1099511627776):Qd Tryz.prog 224 [PV.mono a,PV.mono b] (· =PV.mono (Qak a b)):=by
 have h1:=ha.len
 have h2:=hb.len
 have hz:=Qbu (· + ·) a b
 refine Qf Qk Tryz.func224 rfl Qaiu (by simp[c224]) fun C hP=> ?_;simp only[c224,Zo,Zg,Zm,Zc,Zf,Zl,Zh,Zs,Zi,Zb,Zk,Zn,Zu,Zq,Zr,Zz]
 simp+decide (disch:=first|exact D0|fail) only[go_sem,↓reduceIte]
 refine Qa hP (Qm7 (f:=242) (g:=(· + ·)) (by omega) (by omega) (fun i=>Q1r (by have:=ha.eN i;have:=hb.eN i;omega) (by have:=ha.eN i;have:=hb.eN i;omega))) rfl rfl rfl ?_
 simp+decide (disch:=first|exact D0|fail) only[go_sem,↓reduceIte]
 refine Qa hP (Qrs (by omega)) rfl rfl rfl ?_
 simp+decide (disch:=first|exact D0|fail) only[go_sem,↓reduceIte]
 exact Qc rfl rfl
theorem Qov{k:Nat}{a b:List Int}{o:Int}(ha:MB k a)(hb:MB k b)(hk:k<=1099511627776):Qd Tryz.prog 168 [PV.mono a,PV.mono b,.int .i64 o] (· = .int .i64 (Qa9 o a b)):=by
 have h1:=ha.len
 have h2:=hb.len
 have hda:∀x∈a,0<=x/\x<=1099511627776:=fun x hx=>by have:=ha.lo x hx;have:=ha.hi x hx;omega
 have hdb:∀x∈b,0<=x/\x<=1099511627776:=fun x hx=>by have:=hb.lo x hx;have:=hb.hi x hx;omega
 refine Qf Qk Tryz.func168 rfl Qaiw (by simp[c168]) fun C hP=> ?_;simp only[c168,Zo,Zg,Zm,Zc,Zf,Zl,Zh,Zs,Zi,Zb,Zk,Zn,Zu,Zq,Zr,Zz]
 simp+decide (disch:=first|exact D0|fail) only[go_sem,↓reduceIte]
 refine Qb (fun ho=> ?_) (fun ho=> ?_)
 ·simp+decide (disch:=first|exact D0|fail) only[go_sem,↓reduceIte]
  refine Qa hP (Qj2 (by omega) hda) rfl rfl rfl ?_
  simp+decide (disch:=first|exact D0|fail) only[go_sem,↓reduceIte]
  refine Qa hP (Qj2 (by omega) hdb) rfl rfl rfl ?_
  simp+decide (disch:=first|exact D0|fail) only[go_sem,↓reduceIte]
  refine Qb (fun hd=> ?_) (fun hd=> ?_)
  ·have hord:Qa9 o a b=Qbz (Qa3 a) (Qa3 b):=by unfold Qa9;rw[if_pos ⟨ho,hd⟩]
   simp+decide (disch:=first|exact D0|fail) only[go_sem,↓reduceIte]
   refine Qb (fun h5=> ?_) (fun h5=> ?_)
   ·simp+decide (disch:=first|exact D0|fail) only[go_sem,↓reduceIte]
    exact Qc (by rw[hord,Qbz,if_pos h5]) rfl
   ·simp+decide (disch:=first|exact D0|fail) only[go_sem,↓reduceIte]
    exact Qc (by rw[hord,Qbz,if_neg h5,if_pos (by omega)]) rfl
  have hord:Qa9 o a b=Qah a b:=by unfold Qa9;rw[if_neg (fun h=>hd h.2)]
  simp+decide (disch:=first|exact D0|fail) only[go_sem,↓reduceIte]
  refine Q6 (by repeat (first|exact Qx|exact Qp|exact Qq|exact Qr|exact Qt|apply Qo|apply Qw|apply Q4|apply Qac|apply Qad|apply Qm)) [(6,6),(9,11),(30,45)] [] (fun n J hp=>n<=max a.length b.length/\Qch a b n=Qah a b/\J 9= .int .i64 ((n:Int)-1)/\hp=hp0) (max a.length b.length) ?_ ?_
  ·refine⟨by omega,rfl,?_⟩
   simp+decide (disch:=first|exact D0|fail) only[go_sem,↓reduceIte]
  rintro n J _ ⟨hn,hc,h9,rfl⟩
  simp+decide (disch:=first|exact D1 h9|fail) only[go_sem,↓reduceIte,h9]
  refine Qb (fun hg=> ?_) (fun hg=> ?_)
  ·obtain _|n:=n
   ·omega
   have e:((n+1:Nat):Int)-1=n:=by omega
   rw[Qch]at hc
   simp+decide (disch:=first|exact D2 h9 e|fail) only[go_sem,↓reduceIte,h9,e]
   refine Qa hP (Qju (by omega)) rfl rfl rfl ?_
   simp+decide (disch:=first|exact D2 h9 e|fail) only[go_sem,↓reduceIte,h9,e]
   refine Qa hP (Qju (by omega)) rfl rfl rfl ?_
   simp+decide (disch:=first|exact D2 h9 e|fail) only[go_sem,↓reduceIte,h9,e]
   refine Qb (fun h4=> ?_) (fun h4=> ?_)
   ·rw[if_neg h4]at hc
    simp+decide (disch:=first|exact D2 h9 e|fail) only[go_sem,↓reduceIte,h9,e]
    refine Qb (fun h5=> ?_) (fun h5=> ?_)
    ·simp+decide (disch:=first|exact D2 h9 e|fail) only[go_sem,↓reduceIte,h9,e]
     exact Qc (by rw[hord,<-hc,Qbz,if_pos h5]) rfl
    ·simp+decide (disch:=first|exact D2 h9 e|fail) only[go_sem,↓reduceIte,h9,e]
     exact Qc (by rw[hord,<-hc,Qbz,if_neg h5,if_pos (by omega)]) rfl
   ·rw[if_pos (by omega)]at hc
    simp+decide (disch:=first|exact D2 h9 e|fail) only[go_sem,↓reduceIte,h9,e]
    refine Qi n (by omega) ⟨by omega,hc,?_⟩
    simp+decide (disch:=first|exact D0|fail) only[go_sem,↓reduceIte]
  ·obtain rfl:n=0:=by omega
   simp+decide (disch:=first|exact D0|fail) only[go_sem,↓reduceIte]
   exact Qc (by rw[hord,<-hc];rfl) rfl
 ·have hord:Qa9 o a b=Qah a b:=by unfold Qa9;rw[if_neg (fun h=>ho h.1)]
  simp+decide (disch:=first|exact D0|fail) only[go_sem,↓reduceIte]
  refine Q6 (by repeat (first|exact Qx|exact Qp|exact Qq|exact Qr|exact Qt|apply Qo|apply Qw|apply Q4|apply Qac|apply Qad|apply Qm)) [(6,6),(9,11),(30,45)] [] (fun n J hp=>n<=max a.length b.length/\Qch a b n=Qah a b/\J 9= .int .i64 ((n:Int)-1)/\hp=hp0) (max a.length b.length) ?_ ?_
  ·refine⟨by omega,rfl,?_⟩
   simp+decide (disch:=first|exact D0|fail) only[go_sem,↓reduceIte]
  rintro n J _ ⟨hn,hc,h9,rfl⟩
  simp+decide (disch:=first|exact D1 h9|fail) only[go_sem,↓reduceIte,h9]
  refine Qb (fun hg=> ?_) (fun hg=> ?_)
  ·obtain _|n:=n
   ·omega
   have e:((n+1:Nat):Int)-1=n:=by omega
   rw[Qch]at hc
   simp+decide (disch:=first|exact D2 h9 e|fail) only[go_sem,↓reduceIte,h9,e]
   refine Qa hP (Qju (by omega)) rfl rfl rfl ?_
   simp+decide (disch:=first|exact D2 h9 e|fail) only[go_sem,↓reduceIte,h9,e]
   refine Qa hP (Qju (by omega)) rfl rfl rfl ?_
   simp+decide (disch:=first|exact D2 h9 e|fail) only[go_sem,↓reduceIte,h9,e]
   refine Qb (fun h4=> ?_) (fun h4=> ?_)
   ·rw[if_neg h4]at hc
    simp+decide (disch:=first|exact D2 h9 e|fail) only[go_sem,↓reduceIte,h9,e]
    refine Qb (fun h5=> ?_) (fun h5=> ?_)
    ·simp+decide (disch:=first|exact D2 h9 e|fail) only[go_sem,↓reduceIte,h9,e]
     exact Qc (by rw[hord,<-hc,Qbz,if_pos h5]) rfl
    ·simp+decide (disch:=first|exact D2 h9 e|fail) only[go_sem,↓reduceIte,h9,e]
     exact Qc (by rw[hord,<-hc,Qbz,if_neg h5,if_pos (by omega)]) rfl
   ·rw[if_pos (by omega)]at hc
    simp+decide (disch:=first|exact D2 h9 e|fail) only[go_sem,↓reduceIte,h9,e]
    refine Qi n (by omega) ⟨by omega,hc,?_⟩
    simp+decide (disch:=first|exact D0|fail) only[go_sem,↓reduceIte]
  ·obtain rfl:n=0:=by omega
   simp+decide (disch:=first|exact D0|fail) only[go_sem,↓reduceIte]
   exact Qc (by rw[hord,<-hc];rfl) rfl
end Go.Proofs.YtonfajmchebkeaaGreat
namespace Go.Proofs.YtonfajmchebkeaaGreat
open Go Go.FW
set_option linter.unusedSimpArgs false
set_option linter.unusedVariables false
set_option maxRecDepth 100000
theorem Qlg(x:Int):Qd Tryz.prog 170 [.int .i64 x] (· = .int .i64 (sgn x)):=by
 refine Qf Qk Tryz.func170 rfl Qah4 (by simp[c170]) fun C hP=> ?_;simp only[c170,Zo,Zg,Zm,Zc,Zf,Zl,Zh,Zs,Zi,Zb,Zk,Zn,Zu,Zq,Zr,Zz]
 simp+decide (disch:=first|exact D0|fail) only[go_sem,↓reduceIte]
 refine Qb (fun h=> ?_) (fun h=> ?_)
 ·simp+decide (disch:=first|exact D0|fail) only[go_sem,↓reduceIte]
  exact Qc (by rw[sgn,if_pos h]) rfl
 simp+decide (disch:=first|exact D0|fail) only[go_sem,↓reduceIte]
 refine Qb (fun h2=> ?_) (fun h2=> ?_)
 ·simp+decide (disch:=first|exact D0|fail) only[go_sem,↓reduceIte]
  exact Qc (by rw[sgn,if_neg h,if_pos h2]) rfl
 ·simp+decide (disch:=first|exact D0|fail) only[go_sem,↓reduceIte]
  exact Qc (by rw[sgn,if_neg h,if_neg h2]) rfl
theorem Q1s{a:List Int}{v:Int}(hl:a.length<2^42):Qd Tryz.prog 171 [PV.mono a,.int .i64 v] (· = .int .i64 (if v<0 then 0 else eN a v.toNat)):=by
 refine Qf Qk Tryz.func171 rfl Qah2 (by simp[c171]) fun C hP=> ?_;simp only[c171,Zo,Zg,Zm,Zc,Zf,Zl,Zh,Zs,Zi,Zb,Zk,Zn,Zu,Zq,Zr,Zz]
 simp+decide (disch:=first|exact D0|fail) only[go_sem,↓reduceIte]
 refine Qaa (fun h1=> ?_) (fun h1=> ?_)
 ·simp+decide (disch:=first|exact D0|fail) only[go_sem,↓reduceIte]
  exact Qc (by rw[if_pos h1]) rfl
 ·obtain⟨n,rfl⟩:∃n:Nat,v=n:=⟨v.toNat,by omega⟩
  rw[if_neg h1]
  simp+decide (disch:=first|exact D0|fail) only[go_sem,↓reduceIte]
  refine Qb (fun h2=> ?_) (fun h2=> ?_)
  ·simp+decide (disch:=first|exact D0|fail) only[go_sem,↓reduceIte]
   exact Qc (by rw[Qds (by omega)]) rfl
  ·have hn:n<a.length:=by omega
   simp+decide (disch:=first|exact D0|fail) only[go_sem,↓reduceIte]
   exact Qc (by rw[Qc0 hn]) rfl
theorem Qct{a:List Int}{i:Nat}(hl:a.length<2^42):Qd Tryz.prog 171 [PV.mono a,.int .i64 i] (· = .int .i64 (eN a i)):=by
 have:=Q1s (v:=i) hl
 rwa[if_neg (by omega),Int.toNat_natCast]at this
theorem Qg0{a:List Int}(hl:a.length<=1048576)(hb:∀x∈a,0<=x/\x<=1099511627776):Qd Tryz.prog 169 [PV.mono a] (· = .int .i64 (Qa3 a)):=by
 refine Qf Qk Tryz.func169 rfl Qah1 (by simp[c169]) fun C hP=> ?_;simp only[c169,Zo,Zg,Zm,Zc,Zf,Zl,Zh,Zs,Zi,Zb,Zk,Zn,Zu,Zq,Zr,Zz]
 simp+decide (disch:=first|exact D0|fail) only[go_sem,↓reduceIte]
 refine Q6 (by repeat (first|exact Qx|exact Qp|exact Qq|exact Qr|exact Qt|apply Qo|apply Qw|apply Q4|apply Qac|apply Qad|apply Qm|apply Q5)) [(3,16)] [] (fun k J hp=>∃(i:Nat)(s:Int),k=a.length-i/\i<=a.length/\0<=s/\s<=1099511627776*i/\s+(a.drop i).sum=Qa3 a/\J 4= .int .i64 (i:Nat)/\J 3= .int .i64 s/\hp=hp0) a.length ?_ ?_
 ·refine⟨0,0,rfl,by omega,by omega,by omega,by simp[Qa3],?_⟩
  simp+decide (disch:=first|exact D0|fail) only[go_sem,↓reduceIte]
  simp
 rintro _ J _ ⟨i,s,rfl,hi,hs0,hs1,hsum,h4,h3,rfl⟩
 simp+decide (disch:=first|exact D2 h4 h3|fail) only[go_sem,↓reduceIte,h4,h3]
 refine Qb (fun hg=> ?_) (fun hg=> ?_)
 ·have hi':i<a.length:=by omega
  have hx:=hb _ (List.getElem_mem hi')
  rw[List.drop_eq_getElem_cons hi',List.sum_cons]at hsum
  generalize hxx:a[i]=x at *
  simp+decide (disch:=first|exact D3 h4 h3 hxx|fail) only[go_sem,↓reduceIte,h4,h3,hxx]
  refine Qi (a.length-(i+1)) (by omega) ⟨i+1,s+x,rfl,by omega,by omega,by push_cast;omega,by omega,?_⟩
  simp+decide (disch:=first|exact D0|fail) only[go_sem,↓reduceIte]
 ·rw[List.drop_of_length_le (by omega),List.sum_nil,Int.add_zero]at hsum
  simp+decide (disch:=first|exact D1 h3|fail) only[go_sem,↓reduceIte,h3]
  exact Qc (by rw[hsum]) rfl
theorem Qxv{a:List Int}(hl:a.length<2^42):Qd Tryz.prog 90 [PV.mono a] (· = .bool (Qfk a)):=by
 refine Qf Qk Tryz.func90 rfl Qal5 (by simp[c90]) fun C hP=> ?_;simp only[c90,Zo,Zg,Zm,Zc,Zf,Zl,Zh,Zs,Zi,Zb,Zk,Zn,Zu,Zq,Zr,Zz]
 simp+decide (disch:=first|exact D0|fail) only[go_sem,↓reduceIte]
 have bad:(64<a.length∨a.getLast? =some 0∨∃x∈a,x<0∨1048576<x)->Qfk a=false:=fun h=>by
  cases hb:Qfk a with
  |false=>rfl
  |true=>
   have:=MB.ofOk hb
   simp only[Qfk,Bool.and_eq_true,decide_eq_true_eq]at hb
   rcases h with h|h|⟨x,hx,h⟩
   ·omega
   ·exact absurd h hb.2.1
   ·have h5:=this.lo x hx;have h6:=this.hi x hx;omega
 refine Qaa (fun h1=> ?_) (fun h1=> ?_)
 ·simp+decide (disch:=first|exact D0|fail) only[go_sem,↓reduceIte]
  exact Qc (by rw[bad (.inl (by omega))]) rfl
 simp+decide (disch:=first|exact D0|fail) only[go_sem,↓reduceIte]
 have fin:a.length<=64->a.getLast? ≠some 0->(∀x∈a,0<=x/\x<=1048576)->Qfk a=true:=fun h1 h2 h3=>by
  simp only[Qfk,Bool.and_eq_true,decide_eq_true_eq,List.all_eq_true];exact⟨h1,h2,h3⟩
 refine Qan (fun h2=> ?_) (fun h2=> ?_)
 ·obtain⟨k,hk⟩:∃k,a.length=k+1:=⟨a.length-1,by omega⟩
  have hlast:=Qzm hk
  have e:((k+1:Nat):Int)-1=k:=by omega
  generalize hy:a[k]'(by omega)=y at *
  simp+decide (disch:=first|exact D3 hk e hy|fail) only[go_sem,↓reduceIte,hk,e,hy]
  refine Qb (fun h3=> ?_) (fun h3=> ?_)
  ·simp+decide (disch:=first|exact D0|fail) only[go_sem,↓reduceIte]
   exact Qc (by rw[bad (.inr (.inl (by rw[hlast,h3])))]) rfl
  have hlast:a.getLast? ≠some 0:=by rw[hlast];simpa using h3
  rw[<-hk]at *
  simp+decide (disch:=first|exact D0|fail) only[go_sem,↓reduceIte]
  refine Q6 (by repeat (first|exact Qx|exact Qp|exact Qq|exact Qr|exact Qt|apply Qo|apply Qw|apply Q4|apply Qac|apply Qad|apply Qm|apply Q5)) [(2,3),(21,38)] [] (fun k J hp=>∃i,k=a.length-i/\i<=a.length/\(∀x∈a.take i,0<=x/\x<=1048576)/\J 3= .int .i64 i/\hp=hp0) a.length ?_ ?_
  ·refine⟨0,rfl,by omega,by simp,?_⟩
   simp+decide (disch:=first|exact D0|fail) only[go_sem,↓reduceIte]
   rfl
  rintro _ J _ ⟨i,rfl,hi,hall,hj,rfl⟩
  simp+decide (disch:=first|exact D1 hj|fail) only[go_sem,↓reduceIte,hj]
  refine Qb (fun hg=> ?_) (fun hg=> ?_)
  ·have hi':i<a.length:=by omega
   have hmem:=List.getElem_mem hi'
   have htk:∀x∈a.take (i+1),x∈a.take i∨x=a[i]:=fun x hx=>by
    rw[List.take_succ_eq_append_getElem hi']at hx
    rcases List.mem_append.1 hx with h|h
    ·exact .inl h
    ·exact .inr (List.mem_singleton.1 h)
   generalize hx:a[i]=x at *
   simp+decide (disch:=first|exact D2 hj hx|fail) only[go_sem,↓reduceIte,hj,hx]
   refine Qaa (fun h5=> ?_) (fun h5=> ?_)
   ·simp+decide (disch:=first|exact D0|fail) only[go_sem,↓reduceIte]
    exact Qc (by rw[bad (.inr (.inr ⟨x,hmem,.inl h5⟩))]) rfl
   ·simp+decide (disch:=first|exact D2 hj hx|fail) only[go_sem,↓reduceIte,hj,hx]
    refine Qb (fun h6=> ?_) (fun h6=> ?_)
    ·simp+decide (disch:=first|exact D0|fail) only[go_sem,↓reduceIte]
     exact Qc (by rw[bad (.inr (.inr ⟨x,hmem,.inr h6⟩))]) rfl
    ·simp+decide (disch:=first|exact D1 hj|fail) only[go_sem,↓reduceIte,hj]
     refine Qi (a.length-(i+1)) (by omega) ⟨i+1,rfl,by omega,fun y hy=> ?_,?_⟩
     ·rcases htk y hy with h|rfl
      ·exact hall y h
      ·omega
     ·simp+decide (disch:=first|exact D0|fail) only[go_sem,↓reduceIte]
  ·rw[List.take_of_length_le (by omega)]at hall
   simp+decide (disch:=first|exact D0|fail) only[go_sem,↓reduceIte]
   exact Qc (by rw[fin (by omega) hlast hall]) rfl
 ·have hnil:a=[]:=List.length_eq_zero_iff.1 (by omega)
  have hlast:a.getLast? ≠some 0:=by rw[hnil];simp
  simp+decide (disch:=first|exact D0|fail) only[go_sem,↓reduceIte]
  refine Q6 (by repeat (first|exact Qx|exact Qp|exact Qq|exact Qr|exact Qt|apply Qo|apply Qw|apply Q4|apply Qac|apply Qad|apply Qm|apply Q5)) [(2,3),(21,38)] [] (fun k J hp=>∃i,k=a.length-i/\i<=a.length/\(∀x∈a.take i,0<=x/\x<=1048576)/\J 3= .int .i64 i/\hp=hp0) a.length ?_ ?_
  ·refine⟨0,rfl,by omega,by simp,?_⟩
   simp+decide (disch:=first|exact D0|fail) only[go_sem,↓reduceIte]
   rfl
  rintro _ J _ ⟨i,rfl,hi,hall,hj,rfl⟩
  simp+decide (disch:=first|exact D1 hj|fail) only[go_sem,↓reduceIte,hj]
  refine Qb (fun hg=> ?_) (fun hg=> ?_)
  ·have hi':i<a.length:=by omega
   have hmem:=List.getElem_mem hi'
   have htk:∀x∈a.take (i+1),x∈a.take i∨x=a[i]:=fun x hx=>by
    rw[List.take_succ_eq_append_getElem hi']at hx
    rcases List.mem_append.1 hx with h|h
    ·exact .inl h
    ·exact .inr (List.mem_singleton.1 h)
   generalize hx:a[i]=x at *
   simp+decide (disch:=first|exact D2 hj hx|fail) only[go_sem,↓reduceIte,hj,hx]
   refine Qaa (fun h5=> ?_) (fun h5=> ?_)
   ·simp+decide (disch:=first|exact D0|fail) only[go_sem,↓reduceIte]
    exact Qc (by rw[bad (.inr (.inr ⟨x,hmem,.inl h5⟩))]) rfl
   ·simp+decide (disch:=first|exact D2 hj hx|fail) only[go_sem,↓reduceIte,hj,hx]
    refine Qb (fun h6=> ?_) (fun h6=> ?_)
    ·simp+decide (disch:=first|exact D0|fail) only[go_sem,↓reduceIte]
     exact Qc (by rw[bad (.inr (.inr ⟨x,hmem,.inr h6⟩))]) rfl
    ·simp+decide (disch:=first|exact D1 hj|fail) only[go_sem,↓reduceIte,hj]
     refine Qi (a.length-(i+1)) (by omega) ⟨i+1,rfl,by omega,fun y hy=> ?_,?_⟩
     ·rcases htk y hy with h|rfl
      ·exact hall y h
      ·omega
     ·simp+decide (disch:=first|exact D0|fail) only[go_sem,↓reduceIte]
  ·rw[List.take_of_length_le (by omega)]at hall
   simp+decide (disch:=first|exact D0|fail) only[go_sem,↓reduceIte]
   exact Qc (by rw[fin (by omega) hlast hall]) rfl
end Go.Proofs.YtonfajmchebkeaaGreat
namespace Go.Proofs.YtonfajmchebkeaaGreat
open Go Go.FW
set_option linter.unusedSimpArgs false
set_option linter.unusedVariables false
set_option maxRecDepth 100000
end Go.Proofs.YtonfajmchebkeaaGreat
namespace Go.Proofs.YtonfajmchebkeaaGreat
open Go Go.FW
set_option linter.unusedSimpArgs false
set_option linter.unusedVariables false
set_option maxRecDepth 100000
theorem Q1t{k:Nat}{a b:List Int}(ha:MB k a)(hb:MB k b)(hk:k<=1099511627776):Qd Tryz.prog 163 [PV.mono a,PV.mono b] (· =PV.mono (Qfb (· + ·) a b)):=by
 have h1:=ha.len
 have h2:=hb.len
 have hz:=Qbu (· + ·) a b
 refine Qf Qk Tryz.func163 rfl Qah3 (by simp[c163]) fun C hP=> ?_;simp only[c163,Zo,Zg,Zm,Zc,Zf,Zl,Zh,Zs,Zi,Zb,Zk,Zn,Zu,Zq,Zr,Zz]
 simp+decide (disch:=first|exact D0|fail) only[go_sem,↓reduceIte]
 refine Qiq 5 900 1 3 (by omega) T0 ?_
 refine Q6 (by repeat (first|exact Qx|exact Qp|exact Qq|exact Qr|exact Qt|apply Qo|apply Qw|apply Q4|apply Qac|apply Qad|apply Qm|apply Q5)) [(5,28)] [27,28,900] (fun m J hp=>∃(i:Nat)(out:List Int),m=max a.length b.length-i/\i<=max a.length b.length/\out=(Qfb (· + ·) a b).take i/\J 5= .ms 900 out.length/\J 6= .int .i64 i/\hp 900=some ⟨1,3,Qeh out,false⟩) (max a.length b.length) ?_ ?_
 ·refine⟨0,[],rfl,by omega,by simp,?_⟩
  simp+decide (disch:=first|exact D0|fail) only[go_sem,↓reduceIte]
  simp
 rintro _ J h ⟨i,out,rfl,hi,hout,h5,h6,hh⟩
 have hol:out.length=i:=by rw[hout,List.length_take,hz];omega
 simp+decide (disch:=first|exact D2 h5 h6|fail) only[go_sem,↓reduceIte,h5,h6]
 refine Qaa (fun hg=> ?_) (fun hg=> ?_)
 ·have hlt:i<max a.length b.length:=by omega
  have htk:=Qpr (g:=(· + ·)) hlt
  have ea:=ha.eN i
  have eb:=hb.eN i
  simp+decide (disch:=first|exact D2 h5 h6|fail) only[go_sem,↓reduceIte,h5,h6]
  refine Qa hP (Qct (a:=a) (i:=i) (by omega)) rfl rfl rfl ?_
  simp+decide (disch:=first|exact D2 h5 h6|fail) only[go_sem,↓reduceIte,h5,h6]
  refine Qa hP (Qct (a:=b) (i:=i) (by omega)) rfl rfl rfl ?_
  simp+decide (disch:=first|exact D2 h5 h6|fail) only[go_sem,↓reduceIte,h5,h6]
  rw[Qao (f:=fun(x:Int)=> .int .i64 x) (y:=eN a i+eN b i) (xs:=out) (ty':=3) (fz:=false) (T1 hh) Tr0 (by omega) rfl (by omega) (by omega)]
  simp+decide (disch:=first|exact D2 h5 h6|fail) only[go_sem,↓reduceIte,h5,h6]
  refine Qi (max a.length b.length-(i+1)) (by omega) ⟨i+1,out++[eN a i+eN b i],rfl,by omega,by rw[htk,hout],?_⟩
  simp+decide (disch:=first|exact D0|fail) only[go_sem,↓reduceIte]
  simp
 simp+decide (disch:=first|exact D2 h5 h6|fail) only[go_sem,↓reduceIte,h5,h6]
 refine Qb (fun hg2=> ?_) (fun hg2=> ?_)
 ·have hlt:i<max a.length b.length:=by omega
  have htk:=Qpr (g:=(· + ·)) hlt
  have ea:=ha.eN i
  have eb:=hb.eN i
  simp+decide (disch:=first|exact D2 h5 h6|fail) only[go_sem,↓reduceIte,h5,h6]
  refine Qa hP (Qct (a:=a) (i:=i) (by omega)) rfl rfl rfl ?_
  simp+decide (disch:=first|exact D2 h5 h6|fail) only[go_sem,↓reduceIte,h5,h6]
  refine Qa hP (Qct (a:=b) (i:=i) (by omega)) rfl rfl rfl ?_
  simp+decide (disch:=first|exact D2 h5 h6|fail) only[go_sem,↓reduceIte,h5,h6]
  rw[Qao (f:=fun(x:Int)=> .int .i64 x) (y:=eN a i+eN b i) (xs:=out) (ty':=3) (fz:=false) (T1 hh) Tr0 (by omega) rfl (by omega) (by omega)]
  simp+decide (disch:=first|exact D2 h5 h6|fail) only[go_sem,↓reduceIte,h5,h6]
  refine Qi (max a.length b.length-(i+1)) (by omega) ⟨i+1,out++[eN a i+eN b i],rfl,by omega,by rw[htk,hout],?_⟩
  simp+decide (disch:=first|exact D0|fail) only[go_sem,↓reduceIte]
  simp
 obtain rfl:i=max a.length b.length:=by omega
 rw[List.take_of_length_le (by omega)]at hout
 subst hout
 simp+decide (disch:=first|exact E2 h5 hh|fail) only[go_sem,↓reduceIte,h5,hh,Q7,List.contains_cons,List.contains_nil,List.flatMap_cons,List.flatMap_nil,List.append_nil]
 exact Qc (by rw[List.take_of_length_le (by simp)]) rfl
end Go.Proofs.YtonfajmchebkeaaGreat
namespace Go.Proofs.YtonfajmchebkeaaGreat
open Go Go.FW
set_option linter.unusedSimpArgs false
set_option linter.unusedVariables false
set_option maxRecDepth 100000
theorem Qsm(x y:Int):sgn (x-y)=Qbz x y:=by unfold sgn Qbz;(repeat' split)<;>omega
theorem Q1u{k:Nat}{a b:List Int}{o:Int}(ha:MB k a)(hb:MB k b)(hk:k<=1099511627776):Qd Tryz.prog 91 [PV.mono a,PV.mono b,.int .i64 o] (· = .int .i64 (Qa9 o a b)):=by
 have h1:=ha.len
 have h2:=hb.len
 have hda:∀x∈a,0<=x/\x<=1099511627776:=fun x hx=>by have:=ha.lo x hx;have:=ha.hi x hx;omega
 have hdb:∀x∈b,0<=x/\x<=1099511627776:=fun x hx=>by have:=hb.lo x hx;have:=hb.hi x hx;omega
 have da:=Qkr ha
 have db:=Qkr hb
 refine Qf Qk Tryz.func91 rfl Qal6 (by simp[c91]) fun C hP=> ?_;simp only[c91,Zo,Zg,Zm,Zc,Zf,Zl,Zh,Zs,Zi,Zb,Zk,Zn,Zu,Zq,Zr,Zz]
 simp+decide (disch:=first|exact D0|fail) only[go_sem,↓reduceIte]
 refine Qan (fun ho=> ?_) (fun ho=> ?_)
 ·simp+decide (disch:=first|exact D0|fail) only[go_sem,↓reduceIte]
  refine Qa hP (Qg0 (by omega) hda) rfl rfl rfl ?_
  simp+decide (disch:=first|exact D0|fail) only[go_sem,↓reduceIte]
  refine Qa hP (Qg0 (by omega) hdb) rfl rfl rfl ?_
  simp+decide (disch:=first|exact D0|fail) only[go_sem,↓reduceIte]
  refine Qb (fun hd=> ?_) (fun hd=> ?_)
  ·have hord:Qa9 o a b=Qbz (Qa3 a) (Qa3 b):=by unfold Qa9;rw[if_pos ⟨ho,hd⟩]
   simp+decide (disch:=first|exact D0|fail) only[go_sem,↓reduceIte]
   refine Qa hP (Qg0 (by omega) hda) rfl rfl rfl ?_
   simp+decide (disch:=first|exact D0|fail) only[go_sem,↓reduceIte]
   refine Qa hP (Qg0 (by omega) hdb) rfl rfl rfl ?_
   simp+decide (disch:=first|exact D0|fail) only[go_sem,↓reduceIte]
   refine Qa hP (Qlg _) rfl rfl rfl ?_
   simp+decide (disch:=first|exact D0|fail) only[go_sem,↓reduceIte]
   exact Qc (by rw[hord,Qsm]) rfl
  have hord:Qa9 o a b=Qah a b:=by unfold Qa9;rw[if_neg (fun h=>hd h.2)]
  simp+decide (disch:=first|exact D0|fail) only[go_sem,↓reduceIte]
  refine Q6 (by repeat (first|exact Qx|exact Qp|exact Qq|exact Qr|exact Qt|apply Qo|apply Qw|apply Q4|apply Qac|apply Qad|apply Qm|apply Q5)) [(6,7),(29,47)] [] (fun n J hp=>n<=max a.length b.length/\Qch a b n=Qah a b/\J 7= .int .i64 ((n:Int)-1)/\hp=hp0) (max a.length b.length) ?_ ?_
  ·refine⟨by omega,rfl,?_⟩
   simp+decide (disch:=first|exact D0|fail) only[go_sem,↓reduceIte]
  rintro n J _ ⟨hn,hc,h7,rfl⟩
  simp+decide (disch:=first|exact D1 h7|fail) only[go_sem,↓reduceIte,h7]
  refine Qb (fun hg=> ?_) (fun hg=> ?_)
  ·obtain _|n:=n
   ·omega
   have e:((n+1:Nat):Int)-1=n:=by omega
   have ea:=ha.eN n
   have eb:=hb.eN n
   rw[Qch]at hc
   simp+decide (disch:=first|exact D2 h7 e|fail) only[go_sem,↓reduceIte,h7,e]
   refine Qa hP (Qct (by omega)) rfl rfl rfl ?_
   simp+decide (disch:=first|exact D2 h7 e|fail) only[go_sem,↓reduceIte,h7,e]
   refine Qa hP (Qct (by omega)) rfl rfl rfl ?_
   simp+decide (disch:=first|exact D2 h7 e|fail) only[go_sem,↓reduceIte,h7,e]
   refine Qb (fun h4=> ?_) (fun h4=> ?_)
   ·rw[if_neg h4]at hc
    simp+decide (disch:=first|exact D2 h7 e|fail) only[go_sem,↓reduceIte,h7,e]
    refine Qa hP (Qct (by omega)) rfl rfl rfl ?_
    simp+decide (disch:=first|exact D2 h7 e|fail) only[go_sem,↓reduceIte,h7,e]
    refine Qa hP (Qct (by omega)) rfl rfl rfl ?_
    simp+decide (disch:=first|exact D2 h7 e|fail) only[go_sem,↓reduceIte,h7,e]
    refine Qa hP (Qlg _) rfl rfl rfl ?_
    simp+decide (disch:=first|exact D2 h7 e|fail) only[go_sem,↓reduceIte,h7,e]
    exact Qc (by rw[hord,<-hc,Qsm]) rfl
   ·rw[if_pos (by omega)]at hc
    simp+decide (disch:=first|exact D2 h7 e|fail) only[go_sem,↓reduceIte,h7,e]
    refine Qi n (by omega) ⟨by omega,hc,?_⟩
    simp+decide (disch:=first|exact D0|fail) only[go_sem,↓reduceIte]
  ·obtain rfl:n=0:=by omega
   simp+decide (disch:=first|exact D0|fail) only[go_sem,↓reduceIte]
   exact Qc (by rw[hord,<-hc];rfl) rfl
 ·have hord:Qa9 o a b=Qah a b:=by unfold Qa9;rw[if_neg (fun h=>ho h.1)]
  simp+decide (disch:=first|exact D0|fail) only[go_sem,↓reduceIte]
  refine Q6 (by repeat (first|exact Qx|exact Qp|exact Qq|exact Qr|exact Qt|apply Qo|apply Qw|apply Q4|apply Qac|apply Qad|apply Qm|apply Q5)) [(6,7),(29,47)] [] (fun n J hp=>n<=max a.length b.length/\Qch a b n=Qah a b/\J 7= .int .i64 ((n:Int)-1)/\hp=hp0) (max a.length b.length) ?_ ?_
  ·refine⟨by omega,rfl,?_⟩
   simp+decide (disch:=first|exact D0|fail) only[go_sem,↓reduceIte]
  rintro n J _ ⟨hn,hc,h7,rfl⟩
  simp+decide (disch:=first|exact D1 h7|fail) only[go_sem,↓reduceIte,h7]
  refine Qb (fun hg=> ?_) (fun hg=> ?_)
  ·obtain _|n:=n
   ·omega
   have e:((n+1:Nat):Int)-1=n:=by omega
   have ea:=ha.eN n
   have eb:=hb.eN n
   rw[Qch]at hc
   simp+decide (disch:=first|exact D2 h7 e|fail) only[go_sem,↓reduceIte,h7,e]
   refine Qa hP (Qct (by omega)) rfl rfl rfl ?_
   simp+decide (disch:=first|exact D2 h7 e|fail) only[go_sem,↓reduceIte,h7,e]
   refine Qa hP (Qct (by omega)) rfl rfl rfl ?_
   simp+decide (disch:=first|exact D2 h7 e|fail) only[go_sem,↓reduceIte,h7,e]
   refine Qb (fun h4=> ?_) (fun h4=> ?_)
   ·rw[if_neg h4]at hc
    simp+decide (disch:=first|exact D2 h7 e|fail) only[go_sem,↓reduceIte,h7,e]
    refine Qa hP (Qct (by omega)) rfl rfl rfl ?_
    simp+decide (disch:=first|exact D2 h7 e|fail) only[go_sem,↓reduceIte,h7,e]
    refine Qa hP (Qct (by omega)) rfl rfl rfl ?_
    simp+decide (disch:=first|exact D2 h7 e|fail) only[go_sem,↓reduceIte,h7,e]
    refine Qa hP (Qlg _) rfl rfl rfl ?_
    simp+decide (disch:=first|exact D2 h7 e|fail) only[go_sem,↓reduceIte,h7,e]
    exact Qc (by rw[hord,<-hc,Qsm]) rfl
   ·rw[if_pos (by omega)]at hc
    simp+decide (disch:=first|exact D2 h7 e|fail) only[go_sem,↓reduceIte,h7,e]
    refine Qi n (by omega) ⟨by omega,hc,?_⟩
    simp+decide (disch:=first|exact D0|fail) only[go_sem,↓reduceIte]
  ·obtain rfl:n=0:=by omega
   simp+decide (disch:=first|exact D0|fail) only[go_sem,↓reduceIte]
   exact Qc (by rw[hord,<-hc];rfl) rfl
end Go.Proofs.YtonfajmchebkeaaGreat
namespace Go.Proofs.YtonfajmchebkeaaGreat
open Go Go.FW
set_option linter.unusedSimpArgs false
set_option linter.unusedVariables false
set_option maxRecDepth 100000
theorem Qady{a b:Rat}{k:Nat}(ha:rs a<=k)(hb:rs b<=k)(hk:k<2^34):Qd Tryz.prog 71 [PV.rat a,PV.rat b] (· =PV.rat (a+b)):=by
 have:=Qrr (Qcq ha) (Qcq hb) hk
 rwa[Qdi,Qdi]at this
theorem Qadz{a b:Rat}{k:Nat}(ha:rs a<=k)(hb:rs b<=k)(hk:k<2^34):Qd Tryz.prog 69 [PV.rat a,PV.rat b] (· =PV.rat (a*b)):=by
 have:=Q1p (Qcq ha) (Qcq hb) hk
 rwa[Qdi,Qdi]at this
theorem Qad0{a b:Rat}{k:Nat}(ha:rs a<=k)(hb:rs b<=k)(hk:k<2^34):Qd Tryz.prog 72 [PV.rat a,PV.rat b] (· = .int .i64 (Qis a b)):=by
 have:=Q1q (Qcq ha) (Qcq hb) hk
 rwa[Qdi,Qdi]at this
theorem Qw4{a:Rat}(ha:rs a<2^36):Qd Tryz.prog 85 [PV.rat a] (· = .int .i64 (Qd6 a)):=by
 have:=Qif (Qcq (Nat.le_refl (rs a))) ha
 rwa[Qdi]at this
theorem Qp1{k:Nat}{a b:List Int}(ha:MB k a)(hb:MB k b)(hk:k<=1099511627776):Qd Tryz.prog 91 [PV.mono a,PV.mono b,.int .i64 0] (· = .int .i64 (Qah a b)):=by
 have:=Q1u (o:=0) ha hb hk
 rwa[Qps]at this
theorem Q1v{p q:List Tm}{K E:Nat}(hp:PB K E p)(hq:PB K E q)(hK:K<=2^33)(hE:E<=2^38)(hlp:p.length<=2^36)(hlq:q.length<=2^36):
  Qd Tryz.prog 63 [PV.poly p,PV.poly q] (· = .int .i64 (Qfc p q)):=by
 refine Qf Qk Tryz.func63 rfl Qal0 (by simp[c63]) fun C hP=> ?_;simp only[c63,Zo,Zg,Zm,Zc,Zf,Zl,Zh,Zs,Zi,Zb,Zk,Zn,Zu,Zq,Zr,Zz]
 simp+decide (disch:=first|exact D0|fail) only[go_sem,↓reduceIte]
 refine Q6 (by repeat (first|exact Qx|exact Qp|exact Qq|exact Qr|exact Qt|apply Qo|apply Qw|apply Q4|apply Qac|apply Qad|apply Qm|apply Q5)) [(4,47)] [] (fun n J hp=>∃i,n=p.length-i/\i<=p.length/\i<=q.length/\Qfc (p.drop i) (q.drop i)=Qfc p q/\J 5= .int .i64 (i:Nat)) p.length ?_ ?_
 ·refine⟨0,rfl,by omega,by omega,rfl,?_⟩
  simp+decide (disch:=first|exact D0|fail) only[go_sem,↓reduceIte]
  rfl
 rintro _ J h ⟨i,rfl,hi,hi2,hpc,h5⟩
 simp+decide (disch:=first|exact D1 h5|fail) only[go_sem,↓reduceIte,h5]
 refine Qan (fun hg=> ?_) (fun hg=> ?_)
 ·have hi':i<p.length:=by omega
  simp+decide (disch:=first|exact D1 h5|fail) only[go_sem,↓reduceIte,h5]
  refine Qb (fun hk=> ?_) (fun hk=> ?_)
  ·have hk':i<q.length:=by omega
   have htp:=hp.get hi'
   have htq:=hq.get hk'
   have c1:=htp.c
   have c2:=htq.c
   rw[Qwl hi' hk']at hpc
   generalize hx:p[i]=x at *
   generalize hy:q[i]=y at *
   simp+decide (disch:=first|exact D3 h5 hx hy|fail) only[go_sem,↓reduceIte,h5,hx,hy]
   refine Qa hP (Qp1 htp.m htq.m (by omega)) rfl rfl rfl ?_
   simp+decide (disch:=first|exact D3 h5 hx hy|fail) only[go_sem,↓reduceIte,h5,hx,hy]
   refine Qb (fun hc=> ?_) (fun hc=> ?_)
   ·simp+decide (disch:=first|exact D0|fail) only[go_sem,↓reduceIte]
    exact Qc (by rw[<-hpc,if_pos (by rw[Qh8,if_pos hc];exact hc),Qh8,if_pos hc]) rfl
   ·simp+decide (disch:=first|exact D3 h5 hx hy|fail) only[go_sem,↓reduceIte,h5,hx,hy]
    refine Qa hP (Qad0 (a:=x.1) (b:=y.1) (k:=2^33) (by omega) (by omega) (by omega)) rfl rfl rfl ?_
    simp+decide (disch:=first|exact D3 h5 hx hy|fail) only[go_sem,↓reduceIte,h5,hx,hy]
    refine Qb (fun hc2=> ?_) (fun hc2=> ?_)
    ·simp+decide (disch:=first|exact D0|fail) only[go_sem,↓reduceIte]
     exact Qc (by rw[<-hpc,if_pos (by rw[Qh8,if_neg hc];exact hc2),Qh8,if_neg hc]) rfl
    ·rw[if_neg (by rw[Qh8,if_neg hc];exact hc2)]at hpc
     simp+decide (disch:=first|exact D1 h5|fail) only[go_sem,↓reduceIte,h5]
     refine Qi (p.length-(i+1)) (by omega) ⟨i+1,rfl,by omega,by omega,hpc,?_⟩
     simp+decide (disch:=first|exact D0|fail) only[go_sem,↓reduceIte]
  simp+decide (disch:=first|exact D0|fail) only[go_sem,↓reduceIte]
  refine Qb (fun hk=> ?_) (fun hk=> ?_)
  ·simp+decide (disch:=first|exact D0|fail) only[go_sem,↓reduceIte]
   exact Qc (by rw[<-hpc,List.drop_of_length_le (show p.length<=i by omega),Qlc,if_neg (by rw[List.length_drop];omega)]) rfl
  ·simp+decide (disch:=first|exact D0|fail) only[go_sem,↓reduceIte]
   refine Qb (fun hk2=> ?_) (fun hk2=> ?_)
   ·simp+decide (disch:=first|exact D0|fail) only[go_sem,↓reduceIte]
    refine Qc ?_ rfl
    rw[<-hpc,List.drop_eq_getElem_cons (show i<p.length by omega),List.drop_of_length_le (show q.length<=i by omega),Qfc]
   ·simp+decide (disch:=first|exact D0|fail) only[go_sem,↓reduceIte]
    exact Qc (by rw[<-hpc,List.drop_of_length_le (show p.length<=i by omega),Qlc,if_pos (by rw[List.length_drop];omega)]) rfl
 ·have hi':i=p.length:=by omega
  simp+decide (disch:=first|exact D0|fail) only[go_sem,↓reduceIte]
  refine Qb (fun hk=> ?_) (fun hk=> ?_)
  ·simp+decide (disch:=first|exact D0|fail) only[go_sem,↓reduceIte]
   exact Qc (by rw[<-hpc,List.drop_of_length_le (show p.length<=i by omega),Qlc,if_neg (by rw[List.length_drop];omega)]) rfl
  ·simp+decide (disch:=first|exact D0|fail) only[go_sem,↓reduceIte]
   refine Qb (fun hk2=> ?_) (fun hk2=> ?_)
   ·simp+decide (disch:=first|exact D0|fail) only[go_sem,↓reduceIte]
    refine Qc ?_ rfl
    rw[<-hpc,List.drop_eq_getElem_cons (show i<p.length by omega),List.drop_of_length_le (show q.length<=i by omega),Qfc]
   ·simp+decide (disch:=first|exact D0|fail) only[go_sem,↓reduceIte]
    exact Qc (by rw[<-hpc,List.drop_of_length_le (show p.length<=i by omega),Qlc,if_pos (by rw[List.length_drop];omega)]) rfl
theorem Qj3{p q:List Tm}{K E:Nat}(hp:PB K E p)(hq:PB K E q)(hK:K<=2^33)(hE:E<=2^38)(hlp:p.length<=2^36)(hlq:q.length<=2^36):Qd Tryz.prog 20 [PV.poly p,PV.poly q] (· = .bool (decide (p=q))):=by
 refine Qf Qk Tryz.func20 rfl Qal1 (by simp[c20]) fun C hP=> ?_;simp only[c20,Zo,Zg,Zm,Zc,Zf,Zl,Zh,Zs,Zi,Zb,Zk,Zn,Zu,Zq,Zr,Zz]
 simp+decide (disch:=first|exact D0|fail) only[go_sem,↓reduceIte]
 refine Qa hP (Q1v hp hq hK hE hlp hlq) rfl rfl rfl ?_
 simp+decide (disch:=first|exact D0|fail) only[go_sem,↓reduceIte]
 exact Qc (congrArg PV.bool (decide_eq_decide.2 (Qvg hp.last hq.last))) rfl
theorem Qrt{p q:List Tm}{K E:Nat}(hp:PB K E p)(hq:PB K E q)(hK:K<=2^32)(hE:E<=2^38)(hlp:p.length<=2^36)(hlq:q.length<=2^36):
  Qd Tryz.prog 75 [PV.poly p,PV.poly q] (· =PV.poly (Qy p q)):=by
 refine Qf Qk Tryz.func75 rfl Qalz (by simp[c75]) fun C hP=> ?_;simp only[c75,Zo,Zg,Zm,Zc,Zf,Zl,Zh,Zs,Zi,Zb,Zk,Zn,Zu,Zq,Zr,Zz]
 simp+decide (disch:=first|exact D0|fail) only[go_sem,↓reduceIte]
 refine Qiq 5 900 4 127 (by omega) T0 ?_
 refine Q6 (by repeat (first|exact Qx|exact Qp|exact Qq|exact Qr|exact Qt|apply Qo|apply Qw|apply Q4|apply Qac|apply Qad|apply Qm|apply Q5)) [(5,90)] [9,61,62,75,76,87,88,900] (fun n J hp=>∃i k out,n=(p.length-i)+(q.length-k)/\i<=p.length/\k<=q.length/\out.length<=i+k/\out++Qy (p.drop i) (q.drop k)=Qy p q/\
  J 5= .ms 900 out.length/\J 6= .int .i64 (i:Nat)/\J 7= .int .i64 (k:Nat)/\hp 900=some ⟨4,127,out.map PV.term,false⟩) (p.length+q.length) ?_ ?_
 ·refine⟨0,0,[],by omega,by omega,by omega,by simp,rfl,?_⟩
  simp+decide (disch:=first|exact D0|fail) only[go_sem,↓reduceIte]
  simp
 rintro _ J h ⟨i,k,out,rfl,hi,hk,hol,hpad,h5,h6,h7,hh⟩
 simp+decide (disch:=first|exact D3 h5 h6 h7|fail) only[go_sem,↓reduceIte,h5,h6,h7]
 refine Qaa (fun hg=> ?_) (fun hg=> ?_)
 ·have hi':i<p.length:=by omega
  simp+decide (disch:=first|exact D3 h5 h6 h7|fail) only[go_sem,↓reduceIte,h5,h6,h7]
  refine Qb (fun h=>by omega) (fun _=> ?_)
  simp+decide (disch:=first|exact D3 h5 h6 h7|fail) only[go_sem,↓reduceIte,h5,h6,h7]
  refine Qb (fun hg2=> ?_) (fun hg2=> ?_)
  ·have hk':k<q.length:=by omega
   have htp:=hp.get hi'
   have htq:=hq.get hk'
   rw[Qwk hi' hk']at hpad
   have c1:=htp.c
   have c2:=htq.c
   generalize hx:p[i]=x at *
   generalize hy:q[k]=y at *
   simp+decide (disch:=first|exact D5 h5 h6 h7 hx hy|fail) only[go_sem,↓reduceIte,h5,h6,h7,hx,hy]
   refine Qa hP (Qp1 htp.m htq.m (by omega)) rfl rfl rfl ?_
   simp+decide (disch:=first|exact D5 h5 h6 h7 hx hy|fail) only[go_sem,↓reduceIte,h5,h6,h7,hx,hy]
   refine Qb (fun hc=> ?_) (fun hc=> ?_)
   ·rw[if_pos hc]at hpad
    simp+decide (disch:=first|exact D4 h5 h6 h7 hx|fail) only[go_sem,↓reduceIte,h5,h6,h7,hx]
    rw[Qao (f:=PV.term) (y:=x) (xs:=out) (ty':=127) (fz:=false) (T1 hh) Tr0 (by omega) rfl (by omega) (by omega)]
    simp+decide (disch:=first|exact D4 h5 h6 h7 hx|fail) only[go_sem,↓reduceIte,h5,h6,h7,hx]
    refine Qi ((p.length-(i+1))+(q.length-k)) (by omega) ⟨i+1,k,out++[x],rfl,by omega,hk,by simp;omega,by simpa using hpad,?_⟩
    simp+decide (disch:=first|exact D3 h5 h6 h7|fail) only[go_sem,↓reduceIte,h5,h6,h7]
    simp
   rw[if_neg hc]at hpad
   simp+decide (disch:=first|exact D5 h5 h6 h7 hx hy|fail) only[go_sem,↓reduceIte,h5,h6,h7,hx,hy]
   refine Qb (fun hc2=> ?_) (fun hc2=> ?_)
   ·rw[if_pos hc2]at hpad
    simp+decide (disch:=first|exact D4 h5 h6 h7 hy|fail) only[go_sem,↓reduceIte,h5,h6,h7,hy]
    rw[Qao (f:=PV.term) (y:=y) (xs:=out) (ty':=127) (fz:=false) (T1 hh) Tr0 (by omega) rfl (by omega) (by omega)]
    simp+decide (disch:=first|exact D4 h5 h6 h7 hy|fail) only[go_sem,↓reduceIte,h5,h6,h7,hy]
    refine Qi ((p.length-i)+(q.length-(k+1))) (by omega) ⟨i,k+1,out++[y],rfl,by omega,by omega,by simp;omega,by simpa using hpad,?_⟩
    simp+decide (disch:=first|exact D3 h5 h6 h7|fail) only[go_sem,↓reduceIte,h5,h6,h7]
    simp
   rw[if_neg hc2]at hpad
   have hra:=Qtp x.1 y.1
   simp+decide (disch:=first|exact D5 h5 h6 h7 hx hy|fail) only[go_sem,↓reduceIte,h5,h6,h7,hx,hy]
   refine Qfx ?_ ?_
   all_goals
    simp+decide (disch:=first|exact D5 h5 h6 h7 hx hy|fail) only[go_sem,↓reduceIte,h5,h6,h7,hx,hy]
    refine Qa hP (Qady (a:=x.1) (b:=y.1) (k:=2^32) (by omega) (by omega) (by omega)) rfl rfl rfl ?_
    simp+decide (disch:=first|exact D5 h5 h6 h7 hx hy|fail) only[go_sem,↓reduceIte,h5,h6,h7,hx,hy]
    refine Qa hP (Qw4 (a:=x.1+y.1) (by omega)) rfl rfl rfl ?_
    simp+decide (disch:=first|exact D5 h5 h6 h7 hx hy|fail) only[go_sem,↓reduceIte,h5,h6,h7,hx,hy]
    refine Qb (fun hz=> ?_) (fun hz=> ?_)
    ·rw[if_neg (fun h=>hz (Qbq.2 h))]at hpad
     simp+decide (disch:=first|exact D5 h5 h6 h7 hx hy|fail) only[go_sem,↓reduceIte,h5,h6,h7,hx,hy]
     rw[Qao (f:=PV.term) (y:=(x.1+y.1,x.2)) (xs:=out) (ty':=127) (fz:=false) (T1 hh) Tr0 (by omega) rfl (by omega) (by omega)]
     simp+decide (disch:=first|exact D5 h5 h6 h7 hx hy|fail) only[go_sem,↓reduceIte,h5,h6,h7,hx,hy]
     refine Qi ((p.length-(i+1))+(q.length-(k+1))) (by omega) ⟨i+1,k+1,out++[(x.1+y.1,x.2)],rfl,by omega,by omega,by simp;omega,by simpa using hpad,?_⟩
     simp+decide (disch:=first|exact D3 h5 h6 h7|fail) only[go_sem,↓reduceIte,h5,h6,h7]
     simp
    ·rw[if_pos (Qbq.1 (Decidable.not_not.1 hz))]at hpad
     simp+decide (disch:=first|exact D5 h5 h6 h7 hx hy|fail) only[go_sem,↓reduceIte,h5,h6,h7,hx,hy]
     refine Qi ((p.length-(i+1))+(q.length-(k+1))) (by omega) ⟨i+1,k+1,out,rfl,by omega,by omega,by omega,hpad,?_⟩
     simp+decide (disch:=first|exact D4 h5 h6 h7 hh|fail) only[go_sem,↓reduceIte,h5,h6,h7,hh]
  ·rw[List.drop_of_length_le (show q.length<=k by omega),Qca,List.drop_eq_getElem_cons hi']at hpad
   have hpad:out++p[i]::Qy (p.drop (i+1)) (q.drop k)=Qy p q:=by rw[List.drop_of_length_le (show q.length<=k by omega),Qca];exact hpad
   generalize hx:p[i]=x at *
   simp+decide (disch:=first|exact D4 h5 h6 h7 hx|fail) only[go_sem,↓reduceIte,h5,h6,h7,hx]
   rw[Qao (f:=PV.term) (y:=x) (xs:=out) (ty':=127) (fz:=false) (T1 hh) Tr0 (by omega) rfl (by omega) (by omega)]
   simp+decide (disch:=first|exact D4 h5 h6 h7 hx|fail) only[go_sem,↓reduceIte,h5,h6,h7,hx]
   refine Qi ((p.length-(i+1))+(q.length-k)) (by omega) ⟨i+1,k,out++[x],rfl,by omega,hk,by simp;omega,by simpa using hpad,?_⟩
   simp+decide (disch:=first|exact D3 h5 h6 h7|fail) only[go_sem,↓reduceIte,h5,h6,h7]
   simp
 ·have hi':i=p.length:=by omega
  simp+decide (disch:=first|exact D3 h5 h6 h7|fail) only[go_sem,↓reduceIte,h5,h6,h7]
  refine Qb (fun hg2=> ?_) (fun hg2=> ?_)
  ·have hk':k<q.length:=by omega
   rw[List.drop_of_length_le (show p.length<=i by omega),Qei,List.drop_eq_getElem_cons hk']at hpad
   have hpad:out++q[k]::Qy (p.drop i) (q.drop (k+1))=Qy p q:=by rw[List.drop_of_length_le (show p.length<=i by omega),Qei];exact hpad
   generalize hy:q[k]=y at *
   simp+decide (disch:=first|exact D4 h5 h6 h7 hy|fail) only[go_sem,↓reduceIte,h5,h6,h7,hy]
   refine Qb (fun _=> ?_) (fun h=>by omega)
   simp+decide (disch:=first|exact D4 h5 h6 h7 hy|fail) only[go_sem,↓reduceIte,h5,h6,h7,hy]
   rw[Qao (f:=PV.term) (y:=y) (xs:=out) (ty':=127) (fz:=false) (T1 hh) Tr0 (by omega) rfl (by omega) (by omega)]
   simp+decide (disch:=first|exact D4 h5 h6 h7 hy|fail) only[go_sem,↓reduceIte,h5,h6,h7,hy]
   refine Qi ((p.length-i)+(q.length-(k+1))) (by omega) ⟨i,k+1,out++[y],rfl,by omega,by omega,by simp;omega,by simpa using hpad,?_⟩
   simp+decide (disch:=first|exact D3 h5 h6 h7|fail) only[go_sem,↓reduceIte,h5,h6,h7]
   simp
  ·rw[List.drop_of_length_le (show p.length<=i by omega),Qei,List.drop_of_length_le (show q.length<=k by omega),List.append_nil]at hpad
   simp+decide (disch:=first|exact E4 h5 h6 h7 hh|fail) only[go_sem,↓reduceIte,h5,h6,h7,hh,Q7,List.contains_cons,List.contains_nil,List.flatMap_cons,List.flatMap_nil,List.append_nil]
   exact Qc (by rw[List.take_of_length_le (by simp),hpad]) rfl
end Go.Proofs.YtonfajmchebkeaaGreat
namespace Go.Proofs.YtonfajmchebkeaaGreat
open Go Go.FW
set_option maxRecDepth 100000
def c172:SFn:=⟨97,[.t 8],Zr (Zo (.mv 8 (.c .nilS)) .nil)<|Zr (Zm 15 0<|
 Zn 16 15<|
 Zm 17 1<|
 Zn 18 17<|
 Zb 19 .add 16 18<|
 Zo (.mk 20 4 80 127 (.agg [.bool false,.nilS,.nilS,.nilS]) (.c (Zz 0)) (.t 19))<|
 Zm 9 20 .nil)<|Zr (Zc 10 0<|
 Zc 11 0 .nil)<| .seq (.block 0<| .loop<| .seq (Zr (Zm 21 10<|
 Zm 22 0<|
 Zn 23 22<|
 Zb 24 .lss 21 23<|
 Zm 25 24<|
 Zg 25 true (.mv 26 (.t 11))<|
 Zg 25 true (.mv 27 (.t 1))<|
 Zg 25 true (.len 28 (.t 27))<|
 Zg 25 true (.bin 29 .lss false (.t 26) (.t 28))<|
 Zo (.pick 30 (.t 25) (.t 29) (.c (.bool false))) .nil)<| .cond (.t 30) .skip (.exit 0))<| .block 1<|Zr (Zm 31 2<|
 Zm 32 0<|
 Zm 33 10<|
 Zi 34 4 32 33<|
 Zh 35 4 34<|
 Zm 36 1<|
 Zm 37 11<|
 Zi 38 4 36 37<|
 Zh 39 4 38<|
 Zo (.call (some 40) false (.t 31) [.t 35,.t 39])<|
 Zm 12 40 .nil)<| .block 2<|Zr (Zm 64 12<|
 Zk 65 .gtr 64 0<|
 Zm 63 65 .nil)<| .cond (.t 63) (Zr (Zm 66 9<|
 Zm 67 0<|
 Zm 68 10<|
 Zi 69 4 67 68<|
 Zh 70 4 69<|
 Zo (.bs 71 4 127 [.t 70])<|
 Zo (.app 72 4 80 127 (.t 66) (.t 71))<|
 Zm 9 72 .nil)<| .rg (Zm 73 10<|
 Zk 74 .add 73 1<|
 Zm 10 74 .nil)) (Zr (Zm 76 12<|
 Zk 77 .lss 76 0<|
 Zm 75 77 .nil)<| .cond (.t 75) (Zr (Zm 78 9<|
 Zm 79 1<|
 Zm 80 11<|
 Zi 81 4 79 80<|
 Zh 82 4 81<|
 Zo (.bs 83 4 127 [.t 82])<|
 Zo (.app 84 4 80 127 (.t 78) (.t 83))<|
 Zm 9 84 .nil)<| .rg (Zm 85 11<|
 Zk 86 .add 85 1<|
 Zm 11 86 .nil)) (.seq (Zr (Zm 42 3<|
 Zm 43 0<|
 Zm 44 10<|
 Zi 45 4 43 44<|
 Zh 46 4 45<|
 Zm 47 1<|
 Zm 48 11<|
 Zi 49 4 47 48<|
 Zh 50 4 49<|
 .br (Zo (.call (some 51) true (.t 42) [.t 46,.t 50])<|
 Zm 41 51<|
 Zo (.ext 52 (.t 41) 0)<|
 Zo (.ext 53 (.t 41) 1)<|
 Zo (.alloc 13 4 127 (.agg [.bool false,.nilS,.nilS,.nilS]))<|
 Zs 4 13 52<|
 Zm 14 53 .nil) (Zo (.alloc 13 4 127 (.agg [.bool false,.nilS,.nilS,.nilS]))<|
 Zo (.call (some 51) true (.t 42) [.t 46,.t 50])<|
 Zm 41 51<|
 Zo (.ext 52 (.t 41) 0)<|
 Zo (.ext 53 (.t 41) 1)<|
 Zs 4 13 52<|
 Zm 14 53 .nil))<|Zr (Zm 54 14 .nil)<| .cond (.t 54) (.rg (Zm 55 9<|
 Zh 56 4 13<|
 Zo (.bs 57 4 127 [.t 56])<|
 Zo (.app 58 4 80 127 (.t 55) (.t 57))<|
 Zm 9 58 .nil)) .skip)<|Zr (Zm 59 10<|
 Zk 60 .add 59 1<|
 Zm 10 60 .nil)<| .rg (Zm 61 11<|
 Zk 62 .add 61 1<|
 Zm 11 62 .nil))))<|Zr (Zm 87 9<|
 Zm 88 0<|
 Zm 89 10<|
 Zo (.sl 90 4 (.t 88) (some (.t 89)) none none)<|
 Zo (.app 91 4 80 127 (.t 87) (.t 90))<|
 Zm 9 91 .nil)<|Zr (Zm 92 9<|
 Zm 93 1<|
 Zm 94 11<|
 Zo (.sl 95 4 (.t 93) (some (.t 94)) none none)<|
 Zo (.app 96 4 80 127 (.t 92) (.t 95))<|
 Zm 8 96 .nil) .ret⟩
theorem Qai0:Qe Tryz.prog Tryz.f172=some c172:=by kernel_rfl
def c173:SFn:=⟨10,[.t 4],Zr (Zo (.box 2 4 127 (.t 0))<|
 Zo (.box 3 4 127 (.t 1))<|
 Zc 4 0 .nil)<|Zr (Zf 5 3 2<|
 Zl 6 1 5<|
 Zf 7 3 3<|
 Zl 8 1 7<|
 Zq 9 false 168 [.t 6,.t 8,.c (Zz 0)]<|
 Zm 4 9 .nil) .ret⟩
theorem Qai1:Qe Tryz.prog Tryz.f173=some c173:=by kernel_rfl
def c174:SFn:=⟨19,[.cell 4 4 true,.t 5],Zr (Zo (.box 2 4 127 (.t 0))<|
 Zo (.box 3 4 127 (.t 1))<|
 Zo (.alloc 4 4 127 (.agg [.bool false,.nilS,.nilS,.nilS]))<|
 Zo (.mv 5 (.c (.bool false))) .nil)<|Zr (Zf 7 0 2<|
 Zh 8 3 7<|
 Zf 9 0 3<|
 Zh 10 3 9<|
 Zq 11 false 153 [.t 8,.t 10]<|
 Zo (.alloc 6 3 32 (.agg [.bool false,.nilS,.nilS]))<|
 Zs 3 6 11 .nil)<|Zr (Zh 12 3 6<|
 Zf 13 3 2<|
 Zl 14 1 13<|
 Zo (.bld 15 [.bool false,.nilS,.nilS,.nilS] [(0,3,.t 12),(3,1,.t 14)])<|
 Zh 16 3 6<|
 Zq 17 true 202 [.t 16]<|
 Zk 18 .neq 17 0<|
 Zs 4 4 15<|
 Zm 5 18 .nil) .ret⟩
theorem Qai2:Qe Tryz.prog Tryz.f174=some c174:=by kernel_rfl
def Q0a:SFn:=⟨25,[.t 2],Zr (Zo (.mv 2 (.c .nilS)) .nil)<| .seq (Zr (Zm 4 0<|
 Zn 5 4 .nil)<| .block 0<|Zr (Zk 7 .eql 5 0<|
 Zm 6 7 .nil)<| .cond (.t 6) (Zr (Zo (.mv 2 (.c .nilS)) .nil) .ret) (Zr (Zk 9 .eql 5 1<|
 Zm 8 9 .nil)<| .cond (.t 8) (Zr (Zm 10 0<|
 Zo (.idx 11 1 (.t 10) (.c (Zz 0)))<|
 Zl 12 1 11<|
 Zm 2 12 .nil) .ret) .skip))<|Zr (Zm 13 0<|
 Zn 14 13<|
 Zk 15 .quo 14 2<|
 Zm 3 15 .nil)<|Zr (Zm 16 0<|
 Zm 17 3<|
 Zo (.sl 18 1 (.t 16) none (some (.t 17)) none)<|
 Zm 20 0<|
 Zm 21 3<|
 Zo (.sl 22 1 (.t 20) (some (.t 21)) none none)<|
 Zq 19 false 176 [.t 18]<|
 Zq 23 false 176 [.t 22]<|
 Zq 24 false 92 [.t 19,.t 23]<|
 Zm 2 24 .nil) .ret⟩
theorem Q2v:Qe Tryz.prog Tryz.f176=some Q0a:=by kernel_rfl
def c152:SFn:=⟨12,[.t 4],Zr (Zo (.box 2 3 32 (.t 0))<|
 Zo (.mv 4 (.c .nilS)) .nil)<| .seq (Zr (Zh 5 3 2<|
 Zq 6 false 202 [.t 5]<|
 Zk 7 .eql 6 0 .nil)<| .cond (.t 7) (Zr (Zo (.mv 4 (.c .nilS)) .nil) .ret) .skip)<|Zr (Zh 8 3 2<|
 Zm 9 1<|
 Zo (.bld 10 [.bool false,.nilS,.nilS,.nilS] [(0,3,.t 8),(3,1,.t 9)])<|
 Zo (.bs 11 4 127 [.t 10])<|
 Zm 4 11 .nil) .ret⟩
theorem Qai3:Qe Tryz.prog Tryz.f152=some c152:=by kernel_rfl
def c77:SFn:=⟨7,[.t 2],Zr (Zo (.box 1 3 32 (.t 0))<|
 Zo (.mv 2 (.c .nilS)) .nil)<|Zr (Zh 3 3 1<|
 Zq 4 true 78 [.c (Zz 0)]<|
 Zq 5 true 153 [.t 3,.t 4]<|
 Zq 6 true 152 [.t 5,.c .nilS]<|
 Zm 2 6 .nil) .ret⟩
theorem Qamh:Qe Tryz.prog Tryz.f77=some c77:=by kernel_rfl
def c81:SFn:=⟨9,[.t 4],Zr (Zo (.mv 4 (.c (.bool false))) .nil)<|Zr (Zm 5 0<|
 Zm 6 1<|
 Zq 7 false 156 [.t 5,.t 6]<|
 Zk 8 .eql 7 0<|
 Zm 4 8 .nil) .ret⟩
theorem Qami:Qe Tryz.prog Tryz.f81=some c81:=by kernel_rfl
def c156:SFn:=⟨10,[.t 4],Zr (Zc 4 0 .nil)<|Zr (Zo (.mv 5 (.c (.fn 211 [] []))) .nil)<|Zr (Zm 6 0<|
 Zm 7 1<|
 Zm 8 5<|
 Zq 9 false 213 [.t 6,.t 7,.t 8]<|
 Zm 4 9 .nil) .ret⟩
theorem Qai4:Qe Tryz.prog Tryz.f156=some c156:=by kernel_rfl
def c211:SFn:=⟨17,[.t 4],Zr (Zo (.box 2 4 127 (.t 0))<|
 Zo (.box 3 4 127 (.t 1))<|
 Zc 4 0 .nil)<| .seq (Zr (Zh 6 4 2<|
 Zh 7 4 3<|
 Zq 8 false 173 [.t 6,.t 7]<|
 Zm 5 8 .nil)<|Zr (Zm 9 5<|
 Zk 10 .neq 9 0 .nil)<| .cond (.t 10) (Zr (Zm 11 5<|
 Zm 4 11 .nil) .ret) .skip)<|Zr (Zf 12 0 2<|
 Zh 13 3 12<|
 Zf 14 0 3<|
 Zh 15 3 14<|
 Zq 16 false 212 [.t 13,.t 15]<|
 Zm 4 16 .nil) .ret⟩
theorem Qai5:Qe Tryz.prog Tryz.f211=some c211:=by kernel_rfl
def c188:SFn:=⟨6,[.t 2],Zr (Zo (.mv 2 (.c .nilS)) .nil)<|Zr (Zm 3 0<|
 Zq 4 false 78 [.c (Zz (-1))]<|
 Zq 5 false 166 [.t 3,.t 4]<|
 Zm 2 5 .nil) .ret⟩
theorem Qai6:Qe Tryz.prog Tryz.f188=some c188:=by kernel_rfl
def c92:SFn:=⟨8,[.t 4],Zr (Zo (.mv 4 (.c .nilS)) .nil)<|Zr (Zm 5 0<|
 Zm 6 1<|
 Zq 7 false 172 [.t 5,.t 6,.c (.fn 173 [] []),.c (.fn 174 [] [])]<|
 Zm 4 7 .nil) .ret⟩
theorem Qamj:Qe Tryz.prog Tryz.f92=some c92:=by kernel_rfl
def c119:SFn:=⟨9,[.t 4],Zr (Zo (.mv 4 (.c .nilS)) .nil)<|Zr (Zm 5 0<|
 Zm 6 1<|
 Zq 7 false 188 [.t 6]<|
 Zq 8 false 92 [.t 5,.t 7]<|
 Zm 4 8 .nil) .ret⟩
theorem Qai7:Qe Tryz.prog Tryz.f119=some c119:=by kernel_rfl
def c175:SFn:=⟨38,[.t 4],Zr (Zo (.box 3 4 127 (.t 1))<|
 Zo (.mv 4 (.c .nilS)) .nil)<|Zr (Zm 9 0<|
 Zn 10 9<|
 Zo (.mk 11 4 80 127 (.agg [.bool false,.nilS,.nilS,.nilS]) (.c (Zz 0)) (.t 10))<|
 Zm 5 11 .nil)<| .seq (Zr (Zm 12 0<|
 Zn 13 12<|
 Zc 14 0 .nil)<| .block 0<| .loop<|Zr (Zb 15 .lss 14 13 .nil)<| .seq (.cond (.t 15) .skip (.exit 0))<| .seq (.block 1<|Zr (Zi 16 4 12 14<|
 Zh 17 4 16<|
 Zo (.alloc 7 4 127 (.agg [.bool false,.nilS,.nilS,.nilS]))<|
 Zs 4 7 17 .nil)<|Zr (Zf 18 0 7<|
 Zh 19 3 18<|
 Zf 20 0 3<|
 Zh 21 3 20<|
 Zq 22 false 223 [.t 19,.t 21]<|
 Zo (.alloc 8 3 32 (.agg [.bool false,.nilS,.nilS]))<|
 Zs 3 8 22 .nil)<|Zr (Zh 23 3 8<|
 Zq 24 false 202 [.t 23]<|
 Zk 25 .neq 24 0 .nil)<| .cond (.t 25) (.rg (Zm 26 5<|
 Zh 27 3 8<|
 Zf 28 3 7<|
 Zl 29 1 28<|
 Zf 30 3 3<|
 Zl 31 1 30<|
 Zq 32 true 224 [.t 29,.t 31]<|
 Zo (.bld 33 [.bool false,.nilS,.nilS,.nilS] [(0,3,.t 27),(3,1,.t 32)])<|
 Zo (.bs 34 4 127 [.t 33])<|
 Zo (.app 35 4 80 127 (.t 26) (.t 34))<|
 Zm 5 35 .nil)) .skip)<| .rg (Zk 36 .add 14 1<|
 Zm 14 36 .nil))<|Zr (Zm 37 5<|
 Zm 4 37 .nil) .ret⟩
theorem Qai8:Qe Tryz.prog Tryz.f175=some c175:=by kernel_rfl
def c93:SFn:=⟨33,[.t 4],Zr (Zo (.mv 4 (.c .nilS)) .nil)<| .seq (Zr (Zm 8 0<|
 Zn 9 8<|
 Zm 10 1<|
 Zn 11 10<|
 Zb 12 .gtr 9 11 .nil)<| .cond (.t 12) (.rg (Zm 13 1<|
 Zm 14 0<|
 Zm 0 13<|
 Zm 1 14 .nil)) .skip)<|Zr (Zm 15 0<|
 Zn 16 15<|
 Zo (.mk 17 1 24 51 .nilS (.c (Zz 0)) (.t 16))<|
 Zm 5 17 .nil)<| .seq (Zr (Zm 18 0<|
 Zn 19 18<|
 Zc 20 0 .nil)<| .block 0<| .loop<|Zr (Zb 21 .lss 20 19 .nil)<| .seq (.cond (.t 21) .skip (.exit 0))<| .seq (.block 1<|Zr (Zi 22 4 18 20<|
 Zh 23 4 22<|
 Zo (.alloc 7 4 127 (.agg [.bool false,.nilS,.nilS,.nilS]))<|
 Zs 4 7 23 .nil)<| .rg (Zm 24 5<|
 Zm 25 1<|
 Zh 26 4 7<|
 Zq 27 false 175 [.t 25,.t 26]<|
 Zo (.bs 28 1 51 [.t 27])<|
 Zo (.app 29 1 24 51 (.t 24) (.t 28))<|
 Zm 5 29 .nil))<| .rg (Zk 30 .add 20 1<|
 Zm 20 30 .nil))<|Zr (Zm 31 5<|
 Zq 32 false 176 [.t 31]<|
 Zm 4 32 .nil) .ret⟩
theorem Qamk:Qe Tryz.prog Tryz.f93=some c93:=by kernel_rfl
def c166:SFn:=⟨12,[.t 4],Zr (Zo (.box 3 3 32 (.t 1))<|
 Zo (.mv 4 (.c .nilS)) .nil)<| .seq (Zr (Zh 5 3 3<|
 Zq 6 false 202 [.t 5]<|
 Zk 7 .eql 6 0 .nil)<| .cond (.t 7) (Zr (Zo (.mv 4 (.c .nilS)) .nil) .ret) .skip)<|Zr (Zm 8 0<|
 Zh 9 3 3<|
 Zo (.bld 10 [.bool false,.nilS,.nilS,.nilS] [(0,3,.t 9)])<|
 Zq 11 false 175 [.t 8,.t 10]<|
 Zm 4 11 .nil) .ret⟩
theorem Qai9:Qe Tryz.prog Tryz.f166=some c166:=by kernel_rfl
def c164:SFn:=⟨19,[.t 2],Zr (Zc 2 0 .nil)<|Zr (Zc 3 (-1) .nil)<| .seq (Zr (Zm 6 0<|
 Zn 7 6<|
 Zc 8 0 .nil)<| .block 0<| .loop<|Zr (Zb 9 .lss 8 7 .nil)<| .seq (.cond (.t 9) .skip (.exit 0))<| .seq (.block 1<|Zr (Zi 10 4 6 8<|
 Zh 11 4 10<|
 Zo (.alloc 5 4 127 (.agg [.bool false,.nilS,.nilS,.nilS]))<|
 Zs 4 5 11 .nil)<| .rg (Zm 12 3<|
 Zf 13 3 5<|
 Zl 14 1 13<|
 Zq 15 false 216 [.t 14]<|
 Zo (.mx 16 (.t 12) (.t 15))<|
 Zm 3 16 .nil))<| .rg (Zk 17 .add 8 1<|
 Zm 8 17 .nil))<|Zr (Zm 18 3<|
 Zm 2 18 .nil) .ret⟩
theorem Qaja:Qe Tryz.prog Tryz.f164=some c164:=by kernel_rfl
def c213:SFn:=⟨39,[.t 6],Zr (Zc 6 0 .nil)<| .seq (Zr (Zm 11 0<|
 Zn 12 11<|
 Zc 13 0 .nil)<| .block 0<| .loop<|Zr (Zb 14 .lss 13 12 .nil)<| .seq (.cond (.t 14) .skip (.exit 0))<| .seq (.block 1<|Zr (Zm 15 13<|
 Zi 16 4 11 13<|
 Zh 17 4 16<|
 Zo (.alloc 8 4 127 (.agg [.bool false,.nilS,.nilS,.nilS]))<|
 Zm 7 15<|
 Zs 4 8 17 .nil)<| .seq (Zr (Zm 18 7<|
 Zm 19 1<|
 Zn 20 19<|
 Zb 21 .geq 18 20 .nil)<| .cond (.t 21) (Zr (Zc 6 1 .nil) .ret) .skip)<|Zr (Zm 22 1<|
 Zm 23 7<|
 Zi 24 4 22 23<|
 Zh 25 4 24<|
 Zo (.alloc 9 4 127 (.agg [.bool false,.nilS,.nilS,.nilS]))<|
 Zs 4 9 25 .nil)<|Zr (Zm 26 2<|
 Zh 27 4 8<|
 Zh 28 4 9<|
 Zo (.call (some 29) false (.t 26) [.t 27,.t 28])<|
 Zm 10 29 .nil)<|Zr (Zm 30 10<|
 Zk 31 .neq 30 0 .nil)<| .cond (.t 31) (Zr (Zm 32 10<|
 Zm 6 32 .nil) .ret) .skip)<| .rg (Zk 33 .add 13 1<|
 Zm 13 33 .nil))<| .seq (Zr (Zm 34 0<|
 Zn 35 34<|
 Zm 36 1<|
 Zn 37 36<|
 Zb 38 .lss 35 37 .nil)<| .cond (.t 38) (Zr (Zc 6 (-1) .nil) .ret) .skip)<|Zr (Zc 6 0 .nil) .ret⟩
theorem Qajb:Qe Tryz.prog Tryz.f213=some c213:=by kernel_rfl
end Go.Proofs.YtonfajmchebkeaaGreat
namespace Go.Proofs.YtonfajmchebkeaaGreat
open Go Go.FW
set_option linter.unusedSimpArgs false
set_option linter.unusedVariables false
set_option maxRecDepth 100000
theorem Qaof{a b:Rat}{k:Nat}(ha:rs a<=k)(hb:rs b<=k)(hk:k<2^36):Qd Tryz.prog 153 [PV.rat a,PV.rat b] (· =PV.rat (a+b)):=by
 have:=Qws (Qcq ha) (Qcq hb) hk
 rwa[Qdi,Qdi]at this
theorem Qaog{a b:Rat}{k:Nat}(ha:rs a<=k)(hb:rs b<=k)(hk:k<2^36):Qd Tryz.prog 223 [PV.rat a,PV.rat b] (· =PV.rat (a*b)):=by
 have:=Q8i (Qcq ha) (Qcq hb) hk
 rwa[Qdi,Qdi]at this
theorem Qaoh{a b:Rat}{k:Nat}(ha:rs a<=k)(hb:rs b<=k)(hk:k<2^36):Qd Tryz.prog 212 [PV.rat a,PV.rat b] (· = .int .i64 (Qis a b)):=by
 have:=Q8j (Qcq ha) (Qcq hb) hk
 rwa[Qdi,Qdi]at this
theorem Qua{a:Rat}(ha:rs a<2^36):Qd Tryz.prog 202 [PV.rat a] (· = .int .i64 (Qd6 a)):=by
 have:=Qou (Qcq (Nat.le_refl (rs a))) ha
 rwa[Qdi]at this
theorem Qub{s t:Tm}{E:Nat}(hs:MB E s.2)(ht:MB E t.2)(hE:E<=2^38):Qd Tryz.prog 173 [PV.term s,PV.term t] (· = .int .i64 (Qah s.2 t.2)):=by
 refine Qf Qk Tryz.func173 rfl Qai1 (by simp[c173]) fun C hP=> ?_;simp only[c173,Zo,Zg,Zm,Zc,Zf,Zl,Zh,Zs,Zi,Zb,Zk,Zn,Zu,Zq,Zr,Zz]
 simp+decide (disch:=first|exact D0|fail) only[go_sem,↓reduceIte]
 refine Qa hP (Qov (o:=0) hs ht (by omega)) rfl rfl rfl ?_
 simp+decide (disch:=first|exact D0|fail) only[go_sem,↓reduceIte]
 exact Qc (by rw[Qps]) rfl
theorem Q0b{s t:Tm}{k:Nat}(hs:rs s.1<=k)(ht:rs t.1<=k)(hk:k<2^34):Qd Tryz.prog 174 [PV.term s,PV.term t] (· = .tup [PV.term (s.1+t.1,s.2),.bool (decide (¬s.1+t.1=0))]):=by
 have hr:=Qtp s.1 t.1
 refine Qf Qk Tryz.func174 rfl Qai2 (by simp[c174]) fun C hP=> ?_;simp only[c174,Zo,Zg,Zm,Zc,Zf,Zl,Zh,Zs,Zi,Zb,Zk,Zn,Zu,Zq,Zr,Zz]
 simp+decide (disch:=first|exact D0|fail) only[go_sem,↓reduceIte]
 refine Qa hP (Qaof (a:=s.1) (b:=t.1) hs ht (by omega)) rfl rfl rfl ?_
 simp+decide (disch:=first|exact D0|fail) only[go_sem,↓reduceIte]
 refine Qa hP (Qua (a:=s.1+t.1) (by omega)) rfl rfl rfl ?_
 simp+decide (disch:=first|exact D0|fail) only[go_sem,↓reduceIte]
 refine Qh7 ?_
 simp+decide (disch:=first|exact D0|fail) only[go_sem,↓reduceIte]
 exact Qc5 rfl rfl rfl (Qz _) (Qgm (congrArg PV.bool (decide_eq_decide.2 (not_congr Qbq))))
theorem Qxw{c:Rat}{m:List Int}(hc:rs c<2^36):Qd Tryz.prog 152 [PV.rat c,PV.mono m] (· =PV.poly (if c=0 then []else [(c,m)])):=by
 refine Qf Qk Tryz.func152 rfl Qai3 (by simp[c152]) fun C hP=> ?_;simp only[c152,Zo,Zg,Zm,Zc,Zf,Zl,Zh,Zs,Zi,Zb,Zk,Zn,Zu,Zq,Zr,Zz]
 simp+decide (disch:=first|exact D0|fail) only[go_sem,↓reduceIte]
 refine Qa hP (Qua (a:=c) hc) rfl rfl rfl ?_
 simp+decide (disch:=first|exact D0|fail) only[go_sem,↓reduceIte]
 refine Qb (fun h0=> ?_) (fun h0=> ?_)
 ·rw[if_pos (Qbq.1 h0)]
  simp+decide (disch:=first|exact D0|fail) only[go_sem,↓reduceIte]
  exact Qev Qfz rfl
 ·rw[if_neg (fun h=>h0 (Qbq.2 h))]
  simp+decide (disch:=first|exact E0|fail) only[go_sem,↓reduceIte,Q7,List.contains_cons,List.contains_nil,List.flatMap_cons,List.flatMap_nil,List.append_nil]
  exact Qc rfl rfl
theorem Q0c{p q:List Tm}{K E:Nat}(hp:PB K E p)(hq:PB K E q)(hK:K<=2^33)(hE:E<=2^38)(hlp:p.length<=2^36)(hlq:q.length<=2^36):
  Qd Tryz.prog 172 [PV.poly p,PV.poly q,.fn 173 [] [],.fn 174 [] []] (· =PV.poly (Qy p q)):=by
 refine Qf Qk Tryz.func172 rfl Qai0 (by simp[c172]) fun C hP=> ?_;simp only[c172,Zo,Zg,Zm,Zc,Zf,Zl,Zh,Zs,Zi,Zb,Zk,Zn,Zu,Zq,Zr,Zz]
 simp+decide (disch:=first|exact D0|fail) only[go_sem,↓reduceIte]
 refine Q6 (by repeat (first|exact Qx|exact Qp|exact Qq|exact Qr|exact Qt|apply Qo|apply Qw|apply Q4|apply Qac|apply Qad|apply Qm)) [(9,14),(21,86)] [13,20,57,58,71,72,83,84] (fun n J hp=>∃i k out,n=(p.length-i)+(q.length-k)/\i<=p.length/\k<=q.length/\out.length<=i+k/\out++Qy (p.drop i) (q.drop k)=Qy p q/\
  J 9= .ms 20 out.length/\J 10= .int .i64 (i:Nat)/\J 11= .int .i64 (k:Nat)/\hp 20=some ⟨4,127,out.map PV.term,false⟩) (p.length+q.length) ?_ ?_
 ·refine⟨0,0,[],by omega,by omega,by omega,by simp,rfl,?_⟩
  simp+decide (disch:=first|exact D0|fail) only[go_sem,↓reduceIte]
  simp
 rintro _ J h ⟨i,k,out,rfl,hi,hk,hol,hpad,h9,h10,h11,hh⟩
 simp+decide (disch:=first|exact D3 h9 h10 h11|fail) only[go_sem,↓reduceIte,h9,h10,h11]
 refine Qan (fun hg=> ?_) (fun hg=> ?_)
 ·have hi':i<p.length:=by omega
  simp+decide (disch:=first|exact D3 h9 h10 h11|fail) only[go_sem,↓reduceIte,h9,h10,h11]
  refine Qb (fun hg2=> ?_) (fun hg2=> ?_)
  ·have hk':k<q.length:=by omega
   have htp:=hp.get hi'
   have htq:=hq.get hk'
   rw[Qwk hi' hk']at hpad
   have c1:=htp.c
   have c2:=htq.c
   generalize hx:p[i]=x at *
   generalize hy:q[k]=y at *
   simp+decide (disch:=first|exact D5 h9 h10 h11 hx hy|fail) only[go_sem,↓reduceIte,h9,h10,h11,hx,hy]
   refine Qa hP (Qub (s:=x) (t:=y) htp.m htq.m hE) rfl rfl rfl ?_
   simp+decide (disch:=first|exact D5 h9 h10 h11 hx hy|fail) only[go_sem,↓reduceIte,h9,h10,h11,hx,hy]
   refine Qb (fun hc=> ?_) (fun hc=> ?_)
   ·rw[if_pos hc]at hpad
    simp+decide (disch:=first|exact D5 h9 h10 h11 hx hy|fail) only[go_sem,↓reduceIte,h9,h10,h11,hx,hy]
    rw[Qao (f:=PV.term) (y:=x) (xs:=out) (ty':=127) (fz:=false) (T1 hh) Tr0 (by omega) rfl (by omega) (by omega)]
    simp+decide (disch:=first|exact D5 h9 h10 h11 hx hy|fail) only[go_sem,↓reduceIte,h9,h10,h11,hx,hy]
    refine Qi ((p.length-(i+1))+(q.length-k)) (by omega) ⟨i+1,k,out++[x],rfl,by omega,hk,by simp;omega,by simpa using hpad,?_⟩
    simp+decide (disch:=first|exact D3 h9 h10 h11|fail) only[go_sem,↓reduceIte,h9,h10,h11]
    simp
   rw[if_neg hc]at hpad
   simp+decide (disch:=first|exact D5 h9 h10 h11 hx hy|fail) only[go_sem,↓reduceIte,h9,h10,h11,hx,hy]
   refine Qb (fun hc2=> ?_) (fun hc2=> ?_)
   ·rw[if_pos hc2]at hpad
    simp+decide (disch:=first|exact D5 h9 h10 h11 hx hy|fail) only[go_sem,↓reduceIte,h9,h10,h11,hx,hy]
    rw[Qao (f:=PV.term) (y:=y) (xs:=out) (ty':=127) (fz:=false) (T1 hh) Tr0 (by omega) rfl (by omega) (by omega)]
    simp+decide (disch:=first|exact D5 h9 h10 h11 hx hy|fail) only[go_sem,↓reduceIte,h9,h10,h11,hx,hy]
    refine Qi ((p.length-i)+(q.length-(k+1))) (by omega) ⟨i,k+1,out++[y],rfl,hi,by omega,by simp;omega,by simpa using hpad,?_⟩
    simp+decide (disch:=first|exact D3 h9 h10 h11|fail) only[go_sem,↓reduceIte,h9,h10,h11]
    simp
   rw[if_neg hc2]at hpad
   simp+decide (disch:=first|exact D5 h9 h10 h11 hx hy|fail) only[go_sem,↓reduceIte,h9,h10,h11,hx,hy]
   refine Qfx ?_ ?_
   all_goals
    simp+decide (disch:=first|exact D5 h9 h10 h11 hx hy|fail) only[go_sem,↓reduceIte,h9,h10,h11,hx,hy]
    refine Qa hP (Q0b (s:=x) (t:=y) (k:=2^33) (by omega) (by omega) (by omega)) rfl rfl rfl ?_
    simp+decide (disch:=first|exact D5 h9 h10 h11 hx hy|fail) only[go_sem,↓reduceIte,h9,h10,h11,hx,hy]
    refine Qb (fun hz=> ?_) (fun hz=> ?_)
    ·rw[if_neg hz]at hpad
     simp+decide (disch:=first|exact D5 h9 h10 h11 hx hy|fail) only[go_sem,↓reduceIte,h9,h10,h11,hx,hy]
     rw[Qao (f:=PV.term) (y:=(x.1+y.1,x.2)) (xs:=out) (ty':=127) (fz:=false) (T1 hh) Tr0 (by omega) rfl (by omega) (by omega)]
     simp+decide (disch:=first|exact D5 h9 h10 h11 hx hy|fail) only[go_sem,↓reduceIte,h9,h10,h11,hx,hy]
     refine Qi ((p.length-(i+1))+(q.length-(k+1))) (by omega) ⟨i+1,k+1,out++[(x.1+y.1,x.2)],rfl,by omega,by omega,by simp;omega,by simpa using hpad,?_⟩
     simp+decide (disch:=first|exact D3 h9 h10 h11|fail) only[go_sem,↓reduceIte,h9,h10,h11]
     simp
    ·rw[if_pos (Decidable.not_not.1 hz)]at hpad
     simp+decide (disch:=first|exact D5 h9 h10 h11 hx hy|fail) only[go_sem,↓reduceIte,h9,h10,h11,hx,hy]
     refine Qi ((p.length-(i+1))+(q.length-(k+1))) (by omega) ⟨i+1,k+1,out,rfl,by omega,by omega,by omega,hpad,?_⟩
     simp+decide (disch:=first|exact D4 h9 h10 h11 hh|fail) only[go_sem,↓reduceIte,h9,h10,h11,hh]
  ·have hfin:(out++p.drop i++q.drop k).take (out.length+(p.drop i).length+(q.drop k).length)=Qy p q:=by
    rw[List.take_of_length_le (by simp;omega),<-hpad,List.drop_of_length_le (by omega:q.length<=k),Qca,List.append_nil]
   simp+decide (disch:=first|exact D3 h9 h10 h11|fail) only[go_sem,↓reduceIte,h9,h10,h11]
   rw[Qde (f:=PV.term) (xs:=out) (ys:=p.drop i) (T1 hh) rfl (by omega) (by simp;omega) (by simp;omega)]
   simp+decide (disch:=first|exact D3 h9 h10 h11|fail) only[go_sem,↓reduceIte,h9,h10,h11]
   rw[Qde (f:=PV.term) (xs:=out++p.drop i) (ys:=q.drop k) T0 (by simp) (by omega) (by simp;omega) (by simp;omega)]
   simp+decide (disch:=first|exact E3 h9 h10 h11|fail) only[go_sem,↓reduceIte,h9,h10,h11,Q7,List.contains_cons,List.contains_nil,List.flatMap_cons,List.flatMap_nil,List.append_nil]
   exact Qc (by rw[<-List.map_take,hfin]) rfl
 ·have hfin:(out++p.drop i++q.drop k).take (out.length+(p.drop i).length+(q.drop k).length)=Qy p q:=by
   rw[List.take_of_length_le (by simp;omega),<-hpad,List.drop_of_length_le (by omega:p.length<=i),Qei,List.append_nil]
  simp+decide (disch:=first|exact D3 h9 h10 h11|fail) only[go_sem,↓reduceIte,h9,h10,h11]
  rw[Qde (f:=PV.term) (xs:=out) (ys:=p.drop i) (T1 hh) rfl (by omega) (by simp;omega) (by simp;omega)]
  simp+decide (disch:=first|exact D3 h9 h10 h11|fail) only[go_sem,↓reduceIte,h9,h10,h11]
  rw[Qde (f:=PV.term) (xs:=out++p.drop i) (ys:=q.drop k) T0 (by simp) (by omega) (by simp;omega) (by simp;omega)]
  simp+decide (disch:=first|exact E3 h9 h10 h11|fail) only[go_sem,↓reduceIte,h9,h10,h11,Q7,List.contains_cons,List.contains_nil,List.flatMap_cons,List.flatMap_nil,List.append_nil]
  exact Qc (by rw[<-List.map_take,hfin]) rfl
theorem Qow{p q:List Tm}{K E:Nat}(hp:PB K E p)(hq:PB K E q)(hK:K<=2^33)(hE:E<=2^38)(hlp:p.length<=2^36)(hlq:q.length<=2^36):
  Qd Tryz.prog 92 [PV.poly p,PV.poly q] (· =PV.poly (Qy p q)):=by
 refine Qf Qk Tryz.func92 rfl Qamj (by simp[c92]) fun C hP=> ?_;simp only[c92,Zo,Zg,Zm,Zc,Zf,Zl,Zh,Zs,Zi,Zb,Zk,Zn,Zu,Zq,Zr,Zz]
 simp+decide (disch:=first|exact D0|fail) only[go_sem,↓reduceIte]
 refine Qa hP (Q0c hp hq hK hE hlp hlq) rfl rfl rfl ?_
 simp+decide (disch:=first|exact D0|fail) only[go_sem,↓reduceIte]
 exact Qc rfl rfl
end Go.Proofs.YtonfajmchebkeaaGreat
namespace Go.Proofs.YtonfajmchebkeaaGreat
open Go Go.FW
set_option linter.unusedSimpArgs false
set_option linter.unusedVariables false
set_option maxRecDepth 100000
theorem Quc{K E:Nat}(hE:E<=2^38):∀(n:Nat)(l:List (List Tm)),l.length<=n->(∀p∈l,PB K E p)->l.length*K<=2^33->l.length<=2^36->Qn7 l<=2^36->Qd Tryz.prog 176 [PV.polys l] (· =PV.poly (Qba l)):=by
 intro n
 induction n with
 |zero=>
  intro l hl _ _ _ _
  have:l=[]:=List.length_eq_zero_iff.1 (by omega)
  subst this
  refine Qf Qk Tryz.func176 rfl Q2v (by simp[Q0a]) fun C hP=> ?_;simp only[Q0a,Zo,Zg,Zm,Zc,Zf,Zl,Zh,Zs,Zi,Zb,Zk,Zn,Zu,Zq,Zr,Zz]
  simp+decide (disch:=first|omega|rfl|(simp+decide only[go_sem,↓reduceIte,List.map_nil,List.length_nil]<;>rfl)|fail) only[go_sem,↓reduceIte,List.map_nil,List.length_nil]
  exact Qev (Qpt (by rw[Qba])) rfl
 | succ n ih=>
  intro l hl hb hK hll hpl
  refine Qf Qk Tryz.func176 rfl Q2v (by simp[Q0a]) fun C hP=> ?_;simp only[Q0a,Zo,Zg,Zm,Zc,Zf,Zl,Zh,Zs,Zi,Zb,Zk,Zn,Zu,Zq,Zr,Zz]
  simp+decide (disch:=first|exact D0|fail) only[go_sem,↓reduceIte]
  refine Qb (fun h0=> ?_) (fun h0=> ?_)
  ·have:l=[]:=List.length_eq_zero_iff.1 (by omega)
   subst this
   simp+decide (disch:=first|exact D0|fail) only[go_sem,↓reduceIte]
   exact Qev (Qpt (by rw[Qba])) rfl
  simp+decide (disch:=first|exact D0|fail) only[go_sem,↓reduceIte]
  refine Qb (fun h1=> ?_) (fun h1=> ?_)
  ·obtain⟨p,rfl⟩:∃p,l=[p]:=List.length_eq_one_iff.1 (by omega)
   simp+decide (disch:=first|omega|rfl|(simp+decide only[go_sem,↓reduceIte,List.map_cons,List.map_nil]<;>rfl)|fail) only[go_sem,↓reduceIte,List.map_cons,List.map_nil]
   exact Qc (by rw[Qba];rfl) rfl
  have h2:2<=l.length:=by omega
  have hs:=Qtt l (l.length/2)
  have e:(2:Int)=((2:Nat):Int):=rfl
  have hq:∀d fr hp K,Qa4 .quo false (.int .i64 (l.length:Int)) (.int .i64 2) d fr hp K=K (upd fr d (.int .i64 ((l.length/2:Nat):Int))) hp:=fun d fr hp K=>by
   rw[e,Qu8 (by omega) (by omega)]
  have b1:=Qn8 (K:=K) (E:=E) _ (l.take (l.length/2)) (Nat.le_refl _) (fun p hp=>hb p (List.mem_of_mem_take hp))
  have b2:=Qn8 (K:=K) (E:=E) _ (l.drop (l.length/2)) (Nat.le_refl _) (fun p hp=>hb p (List.mem_of_mem_drop hp))
  have l1:(l.take (l.length/2)).length*K<=l.length*K:=Nat.mul_le_mul_right _ (by rw[List.length_take];omega)
  have l2:(l.drop (l.length/2)).length*K<=l.length*K:=Nat.mul_le_mul_right _ (by rw[List.length_drop];omega)
  simp+decide (disch:=first|exact D1 hq|fail) only[go_sem,↓reduceIte,hq]
  refine Qa hP (ih (l.take (l.length/2)) (by rw[List.length_take];omega) (fun p hp=>hb p (List.mem_of_mem_take hp)) (by omega) (by rw[List.length_take];omega) (by omega)) rfl rfl rfl ?_
  simp+decide (disch:=first|exact D1 hq|fail) only[go_sem,↓reduceIte,hq]
  refine Qa hP (ih (l.drop (l.length/2)) (by rw[List.length_drop];omega) (fun p hp=>hb p (List.mem_of_mem_drop hp)) (by omega) (by rw[List.length_drop];omega) (by omega)) rfl rfl rfl ?_
  simp+decide (disch:=first|exact D1 hq|fail) only[go_sem,↓reduceIte,hq]
  refine Qa hP (Qow (b1.1.mono (K':=l.length*K) l1 (Nat.le_refl _)) (b2.1.mono l2 (Nat.le_refl _)) hK hE (by omega) (by omega)) rfl rfl rfl ?_
  simp+decide (disch:=first|exact D0|fail) only[go_sem,↓reduceIte]
  exact Qc (by rw[Qjq h2]) rfl
theorem Qru{p:List Tm}{t:Tm}{i:Nat}(h:i<p.length):Q3 (p.take (i+1)) t=Q3 (p.take i) t++(if p[i].1*t.1=0 then []else [(p[i].1*t.1,Qak p[i].2 t.2)]):=by
 rw[List.take_succ_eq_append_getElem h,Q3,List.filterMap_append,Q3]
 congr 1
 simp only[List.filterMap_cons,List.filterMap_nil]
 split<;>split<;>simp_all
theorem Qlh{p:List Tm}{t:Tm}{K E:Nat}(hp:PB K E p)(ht:TB K E t)(hK:K<=2^33)(hE:E<=2^38)(hlp:p.length<=2^36):
  Qd Tryz.prog 175 [PV.poly p,PV.term t] (· =PV.poly (Q3 p t)):=by
 refine Qf Qk Tryz.func175 rfl Qai8 (by simp[c175]) fun C hP=> ?_;simp only[c175,Zo,Zg,Zm,Zc,Zf,Zl,Zh,Zs,Zi,Zb,Zk,Zn,Zu,Zq,Zr,Zz]
 simp+decide (disch:=first|exact D0|fail) only[go_sem,↓reduceIte]
 refine Q6 (by repeat (first|exact Qx|exact Qp|exact Qq|exact Qr|exact Qt|apply Qo|apply Qw|apply Q4|apply Qac|apply Qad|apply Qm)) [(5,5),(7,8),(14,36)] [7,8,11,34,35] (fun n J hp=>∃i,n=p.length-i/\i<=p.length/\J 5= .ms 11 (Q3 (p.take i) t).length/\J 14= .int .i64 (i:Nat)/\hp 3=some ⟨4,127,[PV.term t],false⟩/\hp 11=some ⟨4,127,(Q3 (p.take i) t).map PV.term,false⟩) p.length ?_ ?_
 ·refine⟨0,rfl,by omega,?_⟩
  simp+decide (disch:=first|exact D0|fail) only[go_sem,↓reduceIte]
  simp[Q3]
 rintro _ J h ⟨i,rfl,hi,h5,h14,hh3,hh11⟩
 simp+decide (disch:=first|exact D2 h5 h14|fail) only[go_sem,↓reduceIte,h5,h14]
 refine Qb (fun hg=> ?_) (fun hg=> ?_)
 ·have hi':i<p.length:=by omega
  have htp:=hp.get hi'
  have htk:=Qru (t:=t) hi'
  have hlen:=Qew (p.take i) t
  rw[List.length_take]at hlen
  have c1:=htp.c
  have c2:=ht.c
  have hrm:=Qtq p[i].1 t.1
  generalize hx:p[i]=x at *
  simp+decide (disch:=first|exact D4 h5 h14 hh3 hx|fail) only[go_sem,↓reduceIte,h5,h14,hh3,hx]
  refine Qa hP (Qaog (a:=x.1) (b:=t.1) (k:=2^33) (by omega) (by omega) (by omega)) rfl rfl rfl ?_
  simp+decide (disch:=first|exact D4 h5 h14 hh3 hx|fail) only[go_sem,↓reduceIte,h5,h14,hh3,hx]
  refine Qa hP (Qua (a:=x.1*t.1) (by omega)) rfl rfl rfl ?_
  simp+decide (disch:=first|exact D4 h5 h14 hh3 hx|fail) only[go_sem,↓reduceIte,h5,h14,hh3,hx]
  refine Qb (fun hz=> ?_) (fun hz=> ?_)
  ·rw[if_neg (fun h=>hz (Qbq.2 h))]at htk
   simp+decide (disch:=first|exact D4 h5 h14 hh3 hx|fail) only[go_sem,↓reduceIte,h5,h14,hh3,hx]
   refine Qa hP (Q43 htp.m ht.m (by omega)) rfl rfl rfl ?_
   simp+decide (disch:=first|exact D4 h5 h14 hh3 hx|fail) only[go_sem,↓reduceIte,h5,h14,hh3,hx]
   rw[Qao (f:=PV.term) (y:=(x.1*t.1,Qak x.2 t.2)) (xs:=Q3 (p.take i) t) (ty':=127) (fz:=false) (T1 hh11) Tr0 (by omega) rfl (by omega) (by omega)]
   rw[<-htk]
   simp+decide (disch:=first|exact D4 h5 h14 hh3 hx|fail) only[go_sem,↓reduceIte,h5,h14,hh3,hx]
   refine Qi (p.length-(i+1)) (by omega) ⟨i+1,rfl,by omega,?_⟩
   rw[htk]
   simp+decide (disch:=first|omega|rfl|(simp+decide only[go_sem,↓reduceIte,h5,h14,hh3,List.length_append]<;>rfl)|fail) only[go_sem,↓reduceIte,h5,h14,hh3,List.length_append]
  ·rw[if_pos (Qbq.1 (Decidable.not_not.1 hz)),List.append_nil]at htk
   simp+decide (disch:=first|exact D4 h5 h14 hh3 hx|fail) only[go_sem,↓reduceIte,h5,h14,hh3,hx]
   refine Qi (p.length-(i+1)) (by omega) ⟨i+1,rfl,by omega,?_⟩
   rw[htk]
   simp+decide (disch:=first|exact D4 h5 h14 hh3 hh11|fail) only[go_sem,↓reduceIte,h5,h14,hh3,hh11]
 ·obtain rfl:i=p.length:=by omega
  rw[List.take_length]at h5 hh11
  simp+decide (disch:=first|exact E2 h5 hh11|fail) only[go_sem,↓reduceIte,h5,hh11,Q7,List.contains_cons,List.contains_nil,List.flatMap_cons,List.flatMap_nil,List.append_nil]
  exact Qc (by simp[List.take_of_length_le]) rfl
theorem Qkg{p q:List Tm}{K E:Nat}(hp:PB K E p)(hq:PB K E q)(hE:E<=2^37)(hlp:p.length<=2^30)(hlq:q.length<=2^30)(hlm:p.length*q.length<=2^36)(hK:min p.length q.length*(K+K)<=2^33)(hK2:K<=2^33):
  Qd Tryz.prog 93 [PV.poly p,PV.poly q] (· =PV.poly (Qu p q)):=by
 have main:∀(p q:List Tm),PB K E p->PB K E q->p.length<=2^30->q.length<=2^30->p.length*q.length<=2^36->p.length*(K+K)<=2^33->p.length<=q.length->True:=fun _ _ _ _ _ _ _ _ _=>trivial
 refine Qf Qk Tryz.func93 rfl Qamk (by simp[c93]) fun C hP=> ?_;simp only[c93,Zo,Zg,Zm,Zc,Zf,Zl,Zh,Zs,Zi,Zb,Zk,Zn,Zu,Zq,Zr,Zz]
 simp+decide (disch:=first|exact D0|fail) only[go_sem,↓reduceIte]
 refine Qb (fun hg=> ?_) (fun hg=> ?_)
 ·have hfin:Qgh q p=Qu p q:=by rw[Qu,if_pos (by omega)]
  have hK3:q.length*(K+K)<=2^33:=by rw[Nat.min_eq_right (by omega)]at hK;exact hK
  have hlm2:q.length*p.length<=2^36:=by rw[Nat.mul_comm];exact hlm
  simp+decide (disch:=first|exact D0|fail) only[go_sem,↓reduceIte]
  refine Q6 (by repeat (first|exact Qx|exact Qp|exact Qq|exact Qr|exact Qt|apply Qo|apply Qw|apply Q4|apply Qac|apply Qad|apply Qm)) [(5,5),(7,7),(20,30)] [7,17,28,29] (fun n J hp=>∃i,n=q.length-i/\i<=q.length/\J 5= .ms 17 i/\J 20= .int .i64 (i:Nat)/\hp 17=some ⟨1,51,((q.take i).map (Q3 p)).map PV.poly,false⟩) q.length ?_ ?_
  ·refine⟨0,rfl,by omega,?_⟩
   simp+decide (disch:=first|exact D0|fail) only[go_sem,↓reduceIte]
   simp
  rintro _ J h ⟨i,rfl,hi,h5,h20,hh⟩
  simp+decide (disch:=first|exact D2 h5 h20|fail) only[go_sem,↓reduceIte,h5,h20]
  refine Qb (fun hg2=> ?_) (fun hg2=> ?_)
  ·have hi':i<q.length:=by omega
   have htp:=hq.get hi'
   have htk:(q.take (i+1)).map (Q3 p)=(q.take i).map (Q3 p)++[Q3 p q[i]]:=by
    rw[List.take_succ_eq_append_getElem hi',List.map_append];rfl
   generalize hx:q[i]=x at *
   simp+decide (disch:=first|exact D3 h5 h20 hx|fail) only[go_sem,↓reduceIte,h5,h20,hx]
   refine Qa hP (Qlh (t:=x) hp htp hK2 (by omega) (by omega)) rfl rfl rfl ?_
   simp+decide (disch:=first|exact D3 h5 h20 hx|fail) only[go_sem,↓reduceIte,h5,h20,hx]
   rw[Qao (f:=PV.poly) (y:=Q3 p x) (xs:=(q.take i).map (Q3 p)) (ty':=51) (fz:=false) (T1 hh) Tr0 (by omega) (by simp;omega) (by omega) (by omega)]
   rw[<-htk]
   simp+decide (disch:=first|exact D3 h5 h20 hx|fail) only[go_sem,↓reduceIte,h5,h20,hx]
   refine Qi (q.length-(i+1)) (by omega) ⟨i+1,rfl,by omega,?_⟩
   simp+decide (disch:=first|exact D2 h5 h20|fail) only[go_sem,↓reduceIte,h5,h20]
  ·obtain rfl:i=q.length:=by omega
   rw[List.take_length]at hh
   have hpl:=Qiv q p
   simp+decide (disch:=first|exact D2 h5 hh|fail) only[go_sem,↓reduceIte,h5,hh]
   refine Qcj hP (Quc (K:=K+K) (E:=E+E) (by omega) _ (q.map (Q3 p)) (Nat.le_refl _) (fun x hx=>by
    obtain⟨t,ht,rfl⟩:=List.mem_map.1 hx
    exact Qft hp (hq t ht)) (by rw[List.length_map];omega) (by rw[List.length_map];omega) (by omega)) (by simp+decide (disch:=first|exact E1 hh|fail) only[go_sem,↓reduceIte,hh,Q7,List.contains_cons,List.contains_nil,List.flatMap_cons,List.flatMap_nil,List.append_nil];simp[List.take_of_length_le]) rfl ?_
   simp+decide (disch:=first|exact D0|fail) only[go_sem,↓reduceIte]
   exact Qc (congrArg PV.poly hfin) rfl
 ·have hfin:Qgh p q=Qu p q:=by rw[Qu,if_neg (by omega)]
  have hK3:p.length*(K+K)<=2^33:=by rw[Nat.min_eq_left (by omega)]at hK;exact hK
  simp+decide (disch:=first|exact D0|fail) only[go_sem,↓reduceIte]
  refine Q6 (by repeat (first|exact Qx|exact Qp|exact Qq|exact Qr|exact Qt|apply Qo|apply Qw|apply Q4|apply Qac|apply Qad|apply Qm)) [(5,5),(7,7),(20,30)] [7,17,28,29] (fun n J hp=>∃i,n=p.length-i/\i<=p.length/\J 5= .ms 17 i/\J 20= .int .i64 (i:Nat)/\hp 17=some ⟨1,51,((p.take i).map (Q3 q)).map PV.poly,false⟩) p.length ?_ ?_
  ·refine⟨0,rfl,by omega,?_⟩
   simp+decide (disch:=first|exact D0|fail) only[go_sem,↓reduceIte]
   simp
  rintro _ J h ⟨i,rfl,hi,h5,h20,hh⟩
  simp+decide (disch:=first|exact D2 h5 h20|fail) only[go_sem,↓reduceIte,h5,h20]
  refine Qb (fun hg2=> ?_) (fun hg2=> ?_)
  ·have hi':i<p.length:=by omega
   have htp:=hp.get hi'
   have htk:(p.take (i+1)).map (Q3 q)=(p.take i).map (Q3 q)++[Q3 q p[i]]:=by
    rw[List.take_succ_eq_append_getElem hi',List.map_append];rfl
   generalize hx:p[i]=x at *
   simp+decide (disch:=first|exact D3 h5 h20 hx|fail) only[go_sem,↓reduceIte,h5,h20,hx]
   refine Qa hP (Qlh (t:=x) hq htp hK2 (by omega) (by omega)) rfl rfl rfl ?_
   simp+decide (disch:=first|exact D3 h5 h20 hx|fail) only[go_sem,↓reduceIte,h5,h20,hx]
   rw[Qao (f:=PV.poly) (y:=Q3 q x) (xs:=(p.take i).map (Q3 q)) (ty':=51) (fz:=false) (T1 hh) Tr0 (by omega) (by simp;omega) (by omega) (by omega)]
   rw[<-htk]
   simp+decide (disch:=first|exact D3 h5 h20 hx|fail) only[go_sem,↓reduceIte,h5,h20,hx]
   refine Qi (p.length-(i+1)) (by omega) ⟨i+1,rfl,by omega,?_⟩
   simp+decide (disch:=first|exact D2 h5 h20|fail) only[go_sem,↓reduceIte,h5,h20]
  ·obtain rfl:i=p.length:=by omega
   rw[List.take_length]at hh
   have hpl:=Qiv p q
   simp+decide (disch:=first|exact D2 h5 hh|fail) only[go_sem,↓reduceIte,h5,hh]
   refine Qcj hP (Quc (K:=K+K) (E:=E+E) (by omega) _ (p.map (Q3 q)) (Nat.le_refl _) (fun x hx=>by
    obtain⟨t,ht,rfl⟩:=List.mem_map.1 hx
    exact Qft hq (hp t ht)) (by rw[List.length_map];omega) (by rw[List.length_map];omega) (by omega)) (by simp+decide (disch:=first|exact E1 hh|fail) only[go_sem,↓reduceIte,hh,Q7,List.contains_cons,List.contains_nil,List.flatMap_cons,List.flatMap_nil,List.append_nil];simp[List.take_of_length_le]) rfl ?_
   simp+decide (disch:=first|exact D0|fail) only[go_sem,↓reduceIte]
   exact Qc (congrArg PV.poly hfin) rfl
end Go.Proofs.YtonfajmchebkeaaGreat
namespace Go.Proofs.YtonfajmchebkeaaGreat
open Go Go.FW
set_option linter.unusedSimpArgs false
set_option linter.unusedVariables false
set_option maxRecDepth 100000
theorem Q8l{k l:Nat}{a b:List Int}(ha:MB k a)(hb:MB l b)(h1:a.getLast? ≠some 0)(h2:b.getLast? ≠some 0):Qfb (· + ·) a b=Qak a b:=by
 rw[Qak,Qaa0]
 rw[List.getLast?_eq_getElem?,Qbu]
 intro h
 obtain⟨hl,hv⟩:=List.getElem?_eq_some_iff.1 h
 rw[<-Qc0 hl,Qvd (by simp)]at hv
 rw[Qbu]at hl
 have p1:=(ha.eN (max a.length b.length-1)).1
 have p2:=(hb.eN (max a.length b.length-1)).1
 by_cases hc:b.length<=a.length
 ·apply h1
  have e:max a.length b.length-1=a.length-1:=by omega
  rw[e]at hv p1 p2
  rw[List.getLast?_eq_getElem?,List.getElem?_eq_getElem (by omega),<-Qc0 (by omega)]
  congr 1;omega
 ·apply h2
  have e:max a.length b.length-1=b.length-1:=by omega
  rw[e]at hv p1 p2
  rw[List.getLast?_eq_getElem?,List.getElem?_eq_getElem (by omega),<-Qc0 (by omega)]
  congr 1;omega
theorem Qxx{p:List Tm}{t:Tm}{K E:Nat}(hp:PB K E p)(ht:TB K E t)(hnz:NZ p)(ht0:t.1≠0)(hK:K<=2^33)(hE:E<=2^38)(hlp:p.length<=2^36):
  Qd Tryz.prog 86 [PV.poly p,PV.term t] (· =PV.poly (Q3 p t)):=by
 refine Qf Qk Tryz.func86 rfl Qal4 (by simp[c86]) fun C hP=> ?_;simp only[c86,Zo,Zg,Zm,Zc,Zf,Zl,Zh,Zs,Zi,Zb,Zk,Zn,Zu,Zq,Zr,Zz]
 simp+decide (disch:=first|exact D0|fail) only[go_sem,↓reduceIte]
 refine Qiq 5 900 4 127 (by omega) T0 ?_
 refine Q6 (by repeat (first|exact Qx|exact Qp|exact Qq|exact Qr|exact Qt|apply Qo|apply Qw|apply Q4|apply Qac|apply Qad|apply Qm|apply Q5)) [(5,32)] [31,32,900] (fun n J hp=>∃i,n=p.length-i/\i<=p.length/\J 5= .ms 900 (Q3 (p.take i) t).length/\J 6= .int .i64 (i:Nat)/\hp 3=some ⟨4,127,[PV.term t],false⟩/\hp 900=some ⟨4,127,(Q3 (p.take i) t).map PV.term,false⟩) p.length ?_ ?_
 ·refine⟨0,rfl,by omega,?_⟩
  simp+decide (disch:=first|exact D0|fail) only[go_sem,↓reduceIte]
  simp[Q3]
 rintro _ J h ⟨i,rfl,hi,h5,h6,hh3,hh⟩
 simp+decide (disch:=first|exact D2 h5 h6|fail) only[go_sem,↓reduceIte,h5,h6]
 refine Qb (fun hg=> ?_) (fun hg=> ?_)
 ·have hi':i<p.length:=by omega
  have htp:=hp.get hi'
  have htk:=Qru (t:=t) hi'
  have hlen:=Qew (p.take i) t
  rw[List.length_take]at hlen
  have c1:=htp.c
  have c2:=ht.c
  have hn0:=hnz _ (List.getElem_mem hi')
  generalize hx:p[i]=x at *
  have hzz:=Q8l htp.m ht.m htp.l ht.l
  rw[if_neg (fun h=>by rcases Rat.mul_eq_zero.1 h with h|h<;>contradiction)]at htk
  simp+decide (disch:=first|exact D4 h5 h6 hh3 hx|fail) only[go_sem,↓reduceIte,h5,h6,hh3,hx]
  refine Qa hP (Qadz (a:=x.1) (b:=t.1) (k:=2^33) (by omega) (by omega) (by omega)) rfl rfl rfl ?_
  simp+decide (disch:=first|exact D4 h5 h6 hh3 hx|fail) only[go_sem,↓reduceIte,h5,h6,hh3,hx]
  refine Qa hP (Q1t htp.m ht.m (by omega)) rfl rfl rfl ?_
  rw[hzz]
  simp+decide (disch:=first|exact D4 h5 h6 hh3 hx|fail) only[go_sem,↓reduceIte,h5,h6,hh3,hx]
  rw[Qao (f:=PV.term) (y:=(x.1*t.1,Qak x.2 t.2)) (xs:=Q3 (p.take i) t) (ty':=127) (fz:=false) (T1 hh) Tr0 (by omega) rfl (by omega) (by omega)]
  rw[<-htk]
  simp+decide (disch:=first|exact D4 h5 h6 hh3 hx|fail) only[go_sem,↓reduceIte,h5,h6,hh3,hx]
  refine Qi (p.length-(i+1)) (by omega) ⟨i+1,rfl,by omega,?_⟩
  rw[htk]
  simp+decide (disch:=first|omega|rfl|(simp+decide only[go_sem,↓reduceIte,h5,h6,hh3,List.length_append]<;>rfl)|fail) only[go_sem,↓reduceIte,h5,h6,hh3,List.length_append]
 ·obtain rfl:i=p.length:=by omega
  rw[List.take_length]at h5 hh
  simp+decide (disch:=first|exact E2 h5 hh|fail) only[go_sem,↓reduceIte,h5,hh,Q7,List.contains_cons,List.contains_nil,List.flatMap_cons,List.flatMap_nil,List.append_nil]
  exact Qc (by simp[List.take_of_length_le]) rfl
theorem Q44{p q:List Tm}{i:Nat}(h:i<q.length):Qg9 p (q.take (i+1))=Qy (Qg9 p (q.take i)) (Q3 p q[i]):=by
 rw[List.take_succ_eq_append_getElem h,Qg9,List.foldl_append,Qg9];rfl
theorem Qrv{K E:Nat}{p:List Tm}(hp:PB K E p):∀(q out:List Tm)(L:Nat),PB K E q->PB L (E+E) out->PB (q.length*(K+K)+L) (E+E) (q.foldl (fun out t=>Qy out (Q3 p t)) out)/\(q.foldl (fun out t=>Qy out (Q3 p t)) out).length<=q.length*p.length+out.length
 | [],out,L,_,ho=>⟨by simpa using ho,by simp⟩
 |t::q,out,L,hq,ho=>by
  obtain⟨h1,h2⟩:=Qrv hp q (Qy out (Q3 p t)) (L+(K+K)) (PB.cons.1 hq).2 (Qvf _ _ ho (Qft hp (PB.cons.1 hq).1))
  have h3:=Qrg out (Q3 p t)
  have h4:=Qew p t
  refine⟨h1.mono (by rw[List.length_cons,Nat.add_mul];omega) (Nat.le_refl _),Nat.le_trans h2 ?_⟩
  rw[List.length_cons,Nat.add_mul];omega
theorem Qaed{K E:Nat}{p q:List Tm}(hp:PB K E p)(hq:PB K E q):PB (q.length*(K+K)) (E+E) (Qg9 p q)/\(Qg9 p q).length<=q.length*p.length:=by
 have:=Qrv hp q [] 0 hq (PB.nil _ _)
 simpa[Qg9]using this
theorem Q1w{p q:List Tm}{K E:Nat}(hp:PB K E p)(hq:PB K E q)(hnp:NZ p)(hnq:NZ q)(hE:E<=2^37)(hlp:p.length<=2^30)(hlq:q.length<=2^30)(hlm:q.length*p.length<=2^36)(hK:q.length*(K+K)+(K+K)<=2^32):
  Qd Tryz.prog 41 [PV.poly p,PV.poly q] (· =PV.poly (Qg9 p q)):=by
 refine Qf Qk Tryz.func41 rfl Qal2 (by simp[c41]) fun C hP=> ?_;simp only[c41,Zo,Zg,Zm,Zc,Zf,Zl,Zh,Zs,Zi,Zb,Zk,Zn,Zu,Zq,Zr,Zz]
 simp+decide (disch:=first|exact D0|fail) only[go_sem,↓reduceIte]
 refine Qks 5 4 T0 ?_
 refine Q6 (by repeat (first|exact Qx|exact Qp|exact Qq|exact Qr|exact Qt|apply Qo|apply Qw|apply Q4|apply Qac|apply Qad|apply Qm|apply Q5)) [(5,20)] [] (fun n J hp=>∃i,n=q.length-i/\i<=q.length/\J 5=PV.poly (Qg9 p (q.take i))/\J 6= .int .i64 (i:Nat)) q.length ?_ ?_
 ·refine⟨0,rfl,by omega,?_⟩
  simp+decide (disch:=first|exact D0|fail) only[go_sem,↓reduceIte]
  simp[Qg9]
 rintro _ J h ⟨i,rfl,hi,h5,h6⟩
 simp+decide (disch:=first|exact D2 h5 h6|fail) only[go_sem,↓reduceIte,h5,h6]
 refine Qb (fun hg=> ?_) (fun hg=> ?_)
 ·have hi':i<q.length:=by omega
  have htq:=hq.get hi'
  have htk:=Q44 (p:=p) hi'
  have hn0:=hnq _ (List.getElem_mem hi')
  obtain⟨hb1,hb2⟩:=Qaed hp (hq.take i)
  have hbt:=Qft hp htq
  have hlt:=Qew p q[i]
  generalize hx:q[i]=x at *
  have e1:(q.take i).length=i:=by rw[List.length_take];omega
  rw[e1]at hb1 hb2
  have e2:i*(K+K)<=q.length*(K+K):=Nat.mul_le_mul_right _ hi
  have e3:i*p.length<=q.length*p.length:=Nat.mul_le_mul_right _ hi
  simp+decide (disch:=first|exact D3 h5 h6 hx|fail) only[go_sem,↓reduceIte,h5,h6,hx]
  refine Qa hP (Qxx (t:=x) hp htq hnp hn0 (by omega) (by omega) (by omega)) rfl rfl rfl ?_
  simp+decide (disch:=first|exact D3 h5 h6 hx|fail) only[go_sem,↓reduceIte,h5,h6,hx]
  refine Qa hP (Qrt (K:=q.length*(K+K)+(K+K)) (E:=E+E) (hb1.mono (by omega) (by omega)) (hbt.mono (by omega) (by omega)) hK (by omega) (by omega) (by omega)) rfl rfl rfl ?_
  simp+decide (disch:=first|exact D3 h5 h6 hx|fail) only[go_sem,↓reduceIte,h5,h6,hx]
  refine Qi (q.length-(i+1)) (by omega) ⟨i+1,rfl,by omega,?_⟩
  rw[htk]
  simp+decide (disch:=first|exact D0|fail) only[go_sem,↓reduceIte]
 ·obtain rfl:i=q.length:=by omega
  rw[List.take_length]at h5
  simp+decide (disch:=first|exact D1 h5|fail) only[go_sem,↓reduceIte,h5]
  exact Qc rfl rfl
end Go.Proofs.YtonfajmchebkeaaGreat
namespace Go.Proofs.YtonfajmchebkeaaGreat
open Go Go.FW
set_option linter.unusedSimpArgs false
set_option linter.unusedVariables false
set_option maxRecDepth 100000
theorem Qp2{p:List Tm}{a:Rat}{K E:Nat}(hp:PB K E p)(ha:rs a+1<=K)(hK:K<=2^33)(hE:E<=2^38)(hlp:p.length<=2^36):Qd Tryz.prog 166 [PV.poly p,PV.rat a] (· =PV.poly (Qal p a)):=by
 refine Qf Qk Tryz.func166 rfl Qai9 (by simp[c166]) fun C hP=> ?_;simp only[c166,Zo,Zg,Zm,Zc,Zf,Zl,Zh,Zs,Zi,Zb,Zk,Zn,Zu,Zq,Zr,Zz]
 simp+decide (disch:=first|exact D0|fail) only[go_sem,↓reduceIte]
 refine Qa hP (Qua (a:=a) (by omega)) rfl rfl rfl ?_
 simp+decide (disch:=first|exact D0|fail) only[go_sem,↓reduceIte]
 refine Qb (fun h0=> ?_) (fun h0=> ?_)
 ·simp+decide (disch:=first|exact D0|fail) only[go_sem,↓reduceIte]
  exact Qev (Qpt (by rw[Qal,if_pos (Qbq.1 h0)])) rfl
 ·simp+decide (disch:=first|exact D0|fail) only[go_sem,↓reduceIte]
  refine Qa hP ((Qlh (t:=(a,[])) hp (TB.num ha) hK hE hlp).le (args':=[PV.poly p,.agg [.bool (decide (a.num<0)),PV.num a.num.natAbs,PV.num a.den,.nilS]]) ⟨Qz _,⟨rfl,Qk6 _,Qk6 _,trivial,trivial⟩,trivial⟩) rfl rfl rfl ?_
  simp+decide (disch:=first|exact D0|fail) only[go_sem,↓reduceIte]
  exact Qc (by rw[Qal,if_neg (fun h=>h0 (Qbq.2 h))]) rfl
theorem Q45{p:List Tm}{K E:Nat}(hp:PB K E p)(hK2:2<=K)(hK:K<=2^33)(hE:E<=2^38)(hlp:p.length<=2^36):Qd Tryz.prog 188 [PV.poly p] (· =PV.poly (Qob p)):=by
 have h1:=Q4i
 refine Qf Qk Tryz.func188 rfl Qai6 (by simp[c188]) fun C hP=> ?_;simp only[c188,Zo,Zg,Zm,Zc,Zf,Zl,Zh,Zs,Zi,Zb,Zk,Zn,Zu,Zq,Zr,Zz]
 simp+decide (disch:=first|exact D0|fail) only[go_sem,↓reduceIte]
 refine Qa hP (Qp0 (x:= -1) (by omega) (by omega)) rfl rfl rfl ?_
 simp+decide (disch:=first|exact D0|fail) only[go_sem,↓reduceIte]
 refine Qa hP (Qp2 (a:=((-1:Int):Rat)) hp (by have:((-1:Int):Rat)= -1:=rfl;rw[this];omega) hK hE hlp) rfl rfl rfl ?_
 simp+decide (disch:=first|exact D0|fail) only[go_sem,↓reduceIte]
 exact Qc rfl rfl
theorem Qud{p q:List Tm}{K E:Nat}(hp:PB K E p)(hq:PB K E q)(hK2:2<=K)(hK:K<=2^32)(hE:E<=2^38)(hlp:p.length<=2^36)(hlq:q.length<=2^36):Qd Tryz.prog 119 [PV.poly p,PV.poly q] (· =PV.poly (Qlb p q)):=by
 have hl:=Qxp q (-1)
 refine Qf Qk Tryz.func119 rfl Qai7 (by simp[c119]) fun C hP=> ?_;simp only[c119,Zo,Zg,Zm,Zc,Zf,Zl,Zh,Zs,Zi,Zb,Zk,Zn,Zu,Zq,Zr,Zz]
 simp+decide (disch:=first|exact D0|fail) only[go_sem,↓reduceIte]
 refine Qa hP (Q45 hq hK2 (by omega) hE hlq) rfl rfl rfl ?_
 simp+decide (disch:=first|exact D0|fail) only[go_sem,↓reduceIte]
 refine Qa hP (Qow (hp.mono (K':=K+2) (by omega) (Nat.le_refl _)) (Qaf1 hq) (by omega) hE hlp (by show(Qal q (-1)).length<=_;omega)) rfl rfl rfl ?_
 simp+decide (disch:=first|exact D0|fail) only[go_sem,↓reduceIte]
 exact Qc rfl rfl
theorem Q46{n:Bool}{a d:List Nat}{k:Nat}(hp:Raw k n a d)(hk:k<2^36):Qd Tryz.prog 153 [PV.rr n a d,PV.rat ((0:Int):Rat)] (· =PV.rat (rv n a d)):=by
 have h0:rs ((0:Int):Rat)<=k:=by have:=rs_0;have:=hp.k1;have e:((0:Int):Rat)=0:=rfl;rw[e];omega
 have:=Qws hp (Qcq h0) hk
 rw[Qdi]at this
 have e:rv n a d+((0:Int):Rat)=rv n a d:=Rat.add_zero _
 rwa[e]at this
theorem Q0d{n:Bool}{a d:List Nat}{k:Nat}(hp:Raw k n a d)(hk:k<2^36):Qd Tryz.prog 77 [PV.rr n a d] (· =PV.poly (Qbj (rv n a d))):=by
 have hr:=hp.rs
 refine Qf Qk Tryz.func77 rfl Qamh (by simp[c77]) fun C hP=> ?_;simp only[c77,Zo,Zg,Zm,Zc,Zf,Zl,Zh,Zs,Zi,Zb,Zk,Zn,Zu,Zq,Zr,Zz]
 simp+decide (disch:=first|exact D0|fail) only[go_sem,↓reduceIte]
 refine Qa hP (Qp0 (x:=0) (by omega) (by omega)) rfl rfl rfl ?_
 simp+decide (disch:=first|exact D0|fail) only[go_sem,↓reduceIte]
 refine Qa hP (Q46 hp hk) rfl rfl rfl ?_
 simp+decide (disch:=first|exact D0|fail) only[go_sem,↓reduceIte]
 refine Qa hP ((Qxw (c:=rv n a d) (m:=[]) (by omega)).le (args':=[PV.rat (rv n a d),.nilS]) ⟨Qz _,trivial,trivial⟩) rfl rfl rfl ?_
 simp+decide (disch:=first|exact D0|fail) only[go_sem,↓reduceIte]
 exact Qc rfl rfl
theorem Q1x{s t:Tm}{K E:Nat}(hs:TB K E s)(ht:TB K E t)(hK:K<=2^33)(hE:E<=2^38):Qd Tryz.prog 211 [PV.term s,PV.term t] (· = .int .i64 (Qh8 s t)):=by
 have c1:=hs.c
 have c2:=ht.c
 refine Qf Qk Tryz.func211 rfl Qai5 (by simp[c211]) fun C hP=> ?_;simp only[c211,Zo,Zg,Zm,Zc,Zf,Zl,Zh,Zs,Zi,Zb,Zk,Zn,Zu,Zq,Zr,Zz]
 simp+decide (disch:=first|exact D0|fail) only[go_sem,↓reduceIte]
 refine Qa hP (Qub (s:=s) (t:=t) hs.m ht.m hE) rfl rfl rfl ?_
 simp+decide (disch:=first|exact D0|fail) only[go_sem,↓reduceIte]
 refine Qb (fun h=> ?_) (fun h=> ?_)
 ·simp+decide (disch:=first|exact D0|fail) only[go_sem,↓reduceIte]
  exact Qc (by rw[Qh8,if_pos h]) rfl
 ·simp+decide (disch:=first|exact D0|fail) only[go_sem,↓reduceIte]
  refine Qa hP (Qaoh (a:=s.1) (b:=t.1) (k:=2^33) (by omega) (by omega) (by omega)) rfl rfl rfl ?_
  simp+decide (disch:=first|exact D0|fail) only[go_sem,↓reduceIte]
  exact Qc (by rw[Qh8,if_neg h]) rfl
theorem Qp3{p q:List Tm}{K E:Nat}(hp:PB K E p)(hq:PB K E q)(hK:K<=2^33)(hE:E<=2^38)(hlp:p.length<=2^36)(hlq:q.length<=2^36):
  Qd Tryz.prog 213 [PV.poly p,PV.poly q,.fn 211 [] []] (· = .int .i64 (Qfc p q)):=by
 refine Qf Qk Tryz.func213 rfl Qajb (by simp[c213]) fun C hP=> ?_;simp only[c213,Zo,Zg,Zm,Zc,Zf,Zl,Zh,Zs,Zi,Zb,Zk,Zn,Zu,Zq,Zr,Zz]
 simp+decide (disch:=first|exact D0|fail) only[go_sem,↓reduceIte]
 refine Q6 (by repeat (first|exact Qx|exact Qp|exact Qq|exact Qr|exact Qt|apply Qo|apply Qw|apply Q4|apply Qac|apply Qad|apply Qm)) [(6,10),(13,33)] [8,9] (fun n J hp=>∃i,n=p.length-i/\i<=p.length/\(i<=q.length)/\Qfc (p.drop i) (q.drop i)=Qfc p q/\J 13= .int .i64 (i:Nat)) p.length ?_ ?_
 ·refine⟨0,rfl,by omega,by omega,rfl,?_⟩
  simp+decide (disch:=first|exact D0|fail) only[go_sem,↓reduceIte]
  rfl
 rintro _ J h ⟨i,rfl,hi,hi2,hpc,h13⟩
 simp+decide (disch:=first|exact D1 h13|fail) only[go_sem,↓reduceIte,h13]
 refine Qb (fun hg=> ?_) (fun hg=> ?_)
 ·have hi':i<p.length:=by omega
  have htp:=hp.get hi'
  have hdp:p.drop i=p[i]::p.drop (i+1):=List.drop_eq_getElem_cons hi'
  have hpcd:=fun hk=>Qwl (q:=q) hi' hk
  generalize hx:p[i]=x at *
  simp+decide (disch:=first|exact D2 h13 hx|fail) only[go_sem,↓reduceIte,h13,hx]
  refine Qb (fun hk=> ?_) (fun hk=> ?_)
  ·rw[hdp,List.drop_of_length_le (show q.length<=i by omega),Qfc]at hpc
   simp+decide (disch:=first|exact D0|fail) only[go_sem,↓reduceIte]
   exact Qc (by rw[hpc]) rfl
  ·have hk':i<q.length:=by omega
   have htq:=hq.get hk'
   have hpcd:=hpcd hk'
   generalize hy:q[i]=y at *
   rw[hpcd]at hpc
   simp+decide (disch:=first|exact D3 h13 hx hy|fail) only[go_sem,↓reduceIte,h13,hx,hy]
   refine Qa hP (Q1x (s:=x) (t:=y) htp htq hK hE) rfl rfl rfl ?_
   simp+decide (disch:=first|exact D3 h13 hx hy|fail) only[go_sem,↓reduceIte,h13,hx,hy]
   refine Qb (fun hc=> ?_) (fun hc=> ?_)
   ·rw[if_pos hc]at hpc
    simp+decide (disch:=first|exact D0|fail) only[go_sem,↓reduceIte]
    exact Qc (by rw[hpc]) rfl
   ·rw[if_neg hc]at hpc
    simp+decide (disch:=first|exact D1 h13|fail) only[go_sem,↓reduceIte,h13]
    refine Qi (p.length-(i+1)) (by omega) ⟨i+1,rfl,by omega,by omega,hpc,?_⟩
    simp+decide (disch:=first|exact D0|fail) only[go_sem,↓reduceIte]
 ·obtain rfl:i=p.length:=by omega
  rw[List.drop_of_length_le (Nat.le_refl _),Qlc]at hpc
  simp+decide (disch:=first|exact D0|fail) only[go_sem,↓reduceIte]
  refine Qb (fun hk=> ?_) (fun hk=> ?_)
  ·rw[if_neg (by rw[List.length_drop];omega)]at hpc
   simp+decide (disch:=first|exact D0|fail) only[go_sem,↓reduceIte]
   exact Qc (by rw[hpc]) rfl
  ·rw[if_pos (by rw[List.length_drop];omega)]at hpc
   simp+decide (disch:=first|exact D0|fail) only[go_sem,↓reduceIte]
   exact Qc (by rw[hpc]) rfl
theorem Q47{p q:List Tm}{K E:Nat}(hp:PB K E p)(hq:PB K E q)(hK:K<=2^33)(hE:E<=2^38)(hlp:p.length<=2^36)(hlq:q.length<=2^36):Qd Tryz.prog 156 [PV.poly p,PV.poly q] (· = .int .i64 (Qfc p q)):=by
 refine Qf Qk Tryz.func156 rfl Qai4 (by simp[c156]) fun C hP=> ?_;simp only[c156,Zo,Zg,Zm,Zc,Zf,Zl,Zh,Zs,Zi,Zb,Zk,Zn,Zu,Zq,Zr,Zz]
 simp+decide (disch:=first|exact D0|fail) only[go_sem,↓reduceIte]
 refine Qa hP (Qp3 hp hq hK hE hlp hlq) rfl rfl rfl ?_
 simp+decide (disch:=first|exact D0|fail) only[go_sem,↓reduceIte]
 exact Qc rfl rfl
theorem Q0e{p q:List Tm}{K E:Nat}(hp:PB K E p)(hq:PB K E q)(hK:K<=2^33)(hE:E<=2^38)(hlp:p.length<=2^36)(hlq:q.length<=2^36):Qd Tryz.prog 81 [PV.poly p,PV.poly q] (· = .bool (decide (p=q))):=by
 refine Qf Qk Tryz.func81 rfl Qami (by simp[c81]) fun C hP=> ?_;simp only[c81,Zo,Zg,Zm,Zc,Zf,Zl,Zh,Zs,Zi,Zb,Zk,Zn,Zu,Zq,Zr,Zz]
 simp+decide (disch:=first|exact D0|fail) only[go_sem,↓reduceIte]
 refine Qa hP (Q47 hp hq hK hE hlp hlq) rfl rfl rfl ?_
 simp+decide (disch:=first|exact D0|fail) only[go_sem,↓reduceIte]
 exact Qc (congrArg PV.bool (decide_eq_decide.2 (Qvg hp.last hq.last))) rfl
end Go.Proofs.YtonfajmchebkeaaGreat
namespace Go.Proofs.YtonfajmchebkeaaGreat
open Go Go.FW
set_option linter.unusedSimpArgs false
set_option linter.unusedVariables false
set_option maxRecDepth 100000
theorem RB.raw{k:Nat}{t:RTm}(h:RB k t)(hk:1<=k):Raw k t.n t.a t.d:=⟨h.r.1,h.r.2.1,h.r.2.2.1,h.r.2.2.2,hk⟩
end Go.Proofs.YtonfajmchebkeaaGreat
namespace Go.Proofs.YtonfajmchebkeaaGreat
open Go Go.FW
set_option linter.unusedSimpArgs false
set_option linter.unusedVariables false
set_option maxRecDepth 100000
theorem Q0f{l:List RTm}{k:Nat}(hb:∀t∈l,RB k t)(hk1:1<=k)(hk:k<2^36)(hll:l.length<2^40):Qd Tryz.prog 44 [PV.rpoly l] (· = .bool (Qf0 l)):=by
 have hiff:=Qzo l
 have bad:∀ {b:Bool},(b=true->False)->b=false:=fun {b} h=>by cases b<;>simp_all
 refine Qf Qk Tryz.func44 rfl Qal3 (by simp[c44]) fun C hP=> ?_;simp only[c44,Zo,Zg,Zm,Zc,Zf,Zl,Zh,Zs,Zi,Zb,Zk,Zn,Zu,Zq,Zr,Zz]
 simp+decide (disch:=first|exact D0|fail) only[go_sem,↓reduceIte]
 refine Q6 (by repeat (first|exact Qx|exact Qp|exact Qq|exact Qr|exact Qt|apply Qo|apply Qw|apply Q4|apply Qac|apply Qad|apply Qm|apply Q5)) [(2,51)] [] (fun n J hp=>∃i,n=l.length-i/\i<=l.length/\(∀j (h:j<l.length),j<i->rOk l[j]=true)/\(∀j (h:j+1<l.length),j+1<i->0<Qah l[j].m l[j+1].m)/\J 3= .int .i64 (i:Nat)) l.length ?_ ?_
 ·refine⟨0,rfl,by omega,by omega,by omega,?_⟩
  simp+decide (disch:=first|exact D0|fail) only[go_sem,↓reduceIte]
  rfl
 rintro _ J h ⟨i,rfl,hi,h1,h2,h7⟩
 simp+decide (disch:=first|exact D1 h7|fail) only[go_sem,↓reduceIte,h7]
 refine Qb (fun hg=> ?_) (fun hg=> ?_)
 ·have hi':i<l.length:=by omega
  have hbt:=hb _ (List.getElem_mem hi')
  have hr:=(RB.raw hbt hk1).rs
  have hml:=hbt.l
  have hbadt:Qf0 l=true->rOk l[i]=true:=fun h=>(hiff.1 h).1 i hi'
  have hbadc:∀(j:Nat)(hj:j+1=i),Qf0 l=true->0<Qah (l[j]'(by omega)).m l[i].m:=fun j hj h=>by subst hj;exact(hiff.1 h).2 j hi'
  have hadd1:rOk l[i]=true->∀j (h:j<l.length),j<i+1->rOk l[j]=true:=fun h j hj hji=>by
   by_cases e:j=i
   ·subst e;exact h
   ·exact h1 j hj (by omega)
  have hprev:∀(j:Nat)(hj:j+1=i),MB 1048576 (l[j]'(by omega)).m:=fun j hj=>by
   have:=h1 j (by omega) (by omega)
   simp only[rOk,Bool.and_eq_true]at this
   exact MB.ofOk this.2.2
  have hadd2:(∀(j:Nat)(hj:j+1=i),0<Qah (l[j]'(by omega)).m l[i].m)->∀j (h:j+1<l.length),j+1<i+1->0<Qah l[j].m l[j+1].m:=fun h j hj hji=>by
   by_cases e:j+1=i
   ·subst e;exact h j rfl
   ·exact h2 j hj (by omega)
  generalize hx:l[i]=x at *
  have hr':rs (rv x.n x.a x.d)<2^36:=by omega
  simp+decide (disch:=first|exact D2 h7 hx|fail) only[go_sem,↓reduceIte,h7,hx]
  refine Qa hP (Qxu (RB.raw hbt hk1) hk) rfl rfl rfl ?_
  simp+decide (disch:=first|exact D1 h7|fail) only[go_sem,↓reduceIte,h7]
  cases hok:Qqu x.n x.a x.d
  ·have hf:Qf0 l=false:=bad fun h=>by have:=hbadt h;simp[rOk,hok]at this
   simp+decide (disch:=first|omega|rfl|(simp+decide only[go_sem,↓reduceIte,h7,Bool.not_false]<;>rfl)|fail) only[go_sem,↓reduceIte,h7,Bool.not_false]
   exact Qc (by rw[hf]) rfl
  simp+decide (disch:=first|omega|rfl|(simp+decide only[go_sem,↓reduceIte,h7,Bool.not_true,hx]<;>rfl)|fail) only[go_sem,↓reduceIte,h7,Bool.not_true,hx]
  refine Qa hP (Qif (RB.raw hbt hk1) hk) rfl rfl rfl ?_
  simp+decide (disch:=first|exact D1 h7|fail) only[go_sem,↓reduceIte,h7]
  refine Qaa (fun hz=> ?_) (fun hz=> ?_)
  ·have hf:Qf0 l=false:=bad fun h=>by have:=hbadt h;simp[rOk,RTm.q,Qbq.1 hz]at this
   simp+decide (disch:=first|exact D1 h7|fail) only[go_sem,↓reduceIte,h7]
   exact Qc (by rw[hf]) rfl
  simp+decide (disch:=first|exact D2 h7 hx|fail) only[go_sem,↓reduceIte,h7,hx]
  refine Qa hP (Qxv (by omega)) rfl rfl rfl ?_
  simp+decide (disch:=first|exact D1 h7|fail) only[go_sem,↓reduceIte,h7]
  cases hmo:Qfk x.m
  ·have hf:Qf0 l=false:=bad fun h=>by have:=hbadt h;simp[rOk,hmo]at this
   simp+decide (disch:=first|omega|rfl|(simp+decide only[go_sem,↓reduceIte,h7,Bool.not_false]<;>rfl)|fail) only[go_sem,↓reduceIte,h7,Bool.not_false]
   exact Qc (by rw[hf]) rfl
  have hrok:rOk x=true:=by
   simp only[rOk,hok,hmo,Bool.true_and,Bool.and_true,decide_eq_true_eq]
   exact fun h=>hz (Qbq.2 h)
  simp+decide (disch:=first|omega|rfl|(simp+decide only[go_sem,↓reduceIte,h7,Bool.not_true]<;>rfl)|fail) only[go_sem,↓reduceIte,h7,Bool.not_true]
  refine Qan (fun hi0=> ?_) (fun hi0=> ?_)
  ·obtain⟨j,rfl⟩:∃j,i=j+1:=⟨i-1,by omega⟩
   have e:((j+1:Nat):Int)-1=j:=by omega
   have hjl:j<l.length:=by omega
   have hpj:=hprev j rfl
   have hbadj:=hbadc j rfl
   have hadd2':0<Qah (l[j]'(by omega)).m x.m->∀j2 (h:j2+1<l.length),j2+1<j+1+1->0<Qah l[j2].m l[j2+1].m:=fun h=>hadd2 (fun j' hj'=>by
    obtain rfl:j'=j:=by omega
    exact h)
   generalize hy:l[j]'(by omega)=y at *
   simp+decide (disch:=first|exact D4 h7 e hx hy|fail) only[go_sem,↓reduceIte,h7,e,hx,hy]
   refine Qa hP (Qp1 hpj (MB.ofOk hmo) (by omega)) rfl rfl rfl ?_
   simp+decide (disch:=first|exact D2 h7 e|fail) only[go_sem,↓reduceIte,h7,e]
   refine Qb (fun hc=> ?_) (fun hc=> ?_)
   ·have hf:Qf0 l=false:=bad fun h=>by have:=hbadj h;omega
    simp+decide (disch:=first|exact D1 h7|fail) only[go_sem,↓reduceIte,h7]
    exact Qc (by rw[hf]) rfl
   ·simp+decide (disch:=first|exact D1 h7|fail) only[go_sem,↓reduceIte,h7]
    refine Qi (l.length-(j+1+1)) (by omega) ⟨j+1+1,rfl,by omega,hadd1 hrok,hadd2' (by omega),?_⟩
    simp+decide (disch:=first|exact D0|fail) only[go_sem,↓reduceIte]
  ·obtain rfl:i=0:=by omega
   simp+decide (disch:=first|exact D1 h7|fail) only[go_sem,↓reduceIte,h7]
   refine Qi (l.length-1) (by omega) ⟨1,rfl,by omega,hadd1 hrok,hadd2 (fun j hj=>by omega),?_⟩
   simp+decide (disch:=first|exact D0|fail) only[go_sem,↓reduceIte]
 ·obtain rfl:i=l.length:=by omega
  have hf:Qf0 l=true:=hiff.2 ⟨fun j hj=>h1 j hj hj,fun j hj=>h2 j hj hj⟩
  simp+decide (disch:=first|exact D0|fail) only[go_sem,↓reduceIte]
  exact Qc (by rw[hf]) rfl
end Go.Proofs.YtonfajmchebkeaaGreat
namespace Go.Proofs.YtonfajmchebkeaaGreat
open Go Go.FW
set_option maxRecDepth 100000
end Go.Proofs.YtonfajmchebkeaaGreat
namespace Go.Proofs.YtonfajmchebkeaaGreat
open Go Go.FW
set_option linter.unusedSimpArgs false
set_option linter.unusedVariables false
set_option maxRecDepth 100000
end Go.Proofs.YtonfajmchebkeaaGreat
namespace Go.Proofs.YtonfajmchebkeaaGreat
open Go Go.FW
set_option linter.unusedSimpArgs false
set_option linter.unusedVariables false
set_option maxRecDepth 100000
end Go.Proofs.YtonfajmchebkeaaGreat
namespace Go.Proofs.YtonfajmchebkeaaGreat
open Go Go.FW
set_option maxRecDepth 100000
def c89:SFn:=⟨78,[.t 4,.t 5],Zr (Zo (.mv 4 (.c .nilS))<|
 Zo (.mv 5 (.c (.bool false))) .nil)<| .seq (Zr (Zm 13 1<|
 Zn 14 13<|
 Zk 15 .eql 14 0 .nil)<| .cond (.t 15) (Zr (Zo (.mv 4 (.c .nilS))<|
 Zo (.mv 5 (.c (.bool false))) .nil) .ret) .skip)<|Zr (Zo (.mv 6 (.c .nilS)) .nil)<| .seq (.block 0<| .loop<| .seq (Zr (Zm 16 0<|
 Zn 17 16<|
 Zk 18 .gtr 17 0 .nil)<| .cond (.t 18) .skip (.exit 0))<| .block 1<|Zr (Zm 20 0<|
 Zo (.idx 21 4 (.t 20) (.c (Zz 0)))<|
 Zf 22 3 21<|
 Zl 23 1 22<|
 Zm 24 1<|
 Zo (.idx 25 4 (.t 24) (.c (Zz 0)))<|
 Zf 26 3 25<|
 Zl 27 1 26<|
 Zq 28 false 167 [.t 23,.t 27]<|
 Zm 19 28<|
 Zo (.ext 29 (.t 19) 0)<|
 Zo (.ext 30 (.t 19) 1)<|
 Zm 7 29<|
 Zm 8 30 .nil)<|Zr (Zm 32 0<|
 Zo (.idx 33 4 (.t 32) (.c (Zz 0)))<|
 Zf 34 0 33<|
 Zh 35 3 34<|
 Zm 36 1<|
 Zo (.idx 37 4 (.t 36) (.c (Zz 0)))<|
 Zf 38 0 37<|
 Zh 39 3 38<|
 .br (Zq 40 true 165 [.t 35,.t 39]<|
 Zm 31 40<|
 Zo (.ext 41 (.t 31) 0)<|
 Zo (.ext 42 (.t 31) 1)<|
 Zo (.alloc 9 3 32 (.agg [.bool false,.nilS,.nilS]))<|
 Zs 3 9 41<|
 Zm 10 42 .nil) (Zo (.alloc 9 3 32 (.agg [.bool false,.nilS,.nilS]))<|
 Zq 40 true 165 [.t 35,.t 39]<|
 Zm 31 40<|
 Zo (.ext 41 (.t 31) 0)<|
 Zo (.ext 42 (.t 31) 1)<|
 Zs 3 9 41<|
 Zm 10 42 .nil))<| .seq (Zr (Zm 43 8<|
 Zu 44 43<|
 Zm 45 44<|
 Zg 45 false (.mv 46 (.t 10))<|
 Zg 45 false (.bin 47 .neq false (.t 46) (.c (Zz 0)))<|
 Zo (.pick 48 (.t 45) (.c (.bool true)) (.t 47)) .nil)<| .cond (.t 48) (Zr (Zo (.mv 4 (.c .nilS))<|
 Zo (.mv 5 (.c (.bool false))) .nil) .ret) .skip)<|Zr (Zh 49 3 9<|
 Zm 50 7<|
 Zo (.bld 51 [.bool false,.nilS,.nilS,.nilS] [(0,3,.t 49),(3,1,.t 50)])<|
 Zo (.bs 52 4 127 [.t 51])<|
 Zm 11 52 .nil)<|Zr (Zm 53 6<|
 Zm 54 11<|
 Zo (.app 55 4 80 127 (.t 53) (.t 54))<|
 Zm 6 55 .nil)<|Zr (Zm 56 0<|
 Zo (.idx 57 4 (.t 56) (.c (Zz 0)))<|
 Zf 58 3 57<|
 Zl 59 1 58<|
 Zm 12 59 .nil)<|Zr (Zm 60 0<|
 Zm 61 11<|
 Zm 62 1<|
 Zq 63 false 93 [.t 61,.t 62]<|
 Zq 64 false 119 [.t 60,.t 63]<|
 Zm 0 64 .nil)<|Zr (Zm 65 0<|
 Zn 66 65<|
 Zk 67 .gtr 66 0<|
 Zm 68 67<|
 Zg 68 true (.mv 69 (.t 0))<|
 Zg 68 true (.idx 70 4 (.t 69) (.c (Zz 0)))<|
 Zg 68 true (.fld 71 3 (.t 70))<|
 Zg 68 true (.ld 72 1 false (.t 71))<|
 Zg 68 true (.mv 73 (.t 12))<|
 Zg 68 true (.call (some 74) false (.c (.fn 168 [] [])) [.t 72,.t 73,.c (Zz 0)])<|
 Zg 68 true (.bin 75 .geq false (.t 74) (.c (Zz 0)))<|
 Zo (.pick 76 (.t 68) (.t 75) (.c (.bool false))) .nil)<| .cond (.t 76) (Zr (Zo (.mv 4 (.c .nilS))<|
 Zo (.mv 5 (.c (.bool false))) .nil) .ret) .skip)<|Zr (Zm 77 6<|
 Zm 4 77<|
 Zo (.mv 5 (.c (.bool true))) .nil) .ret⟩
theorem Qaml:Qe Tryz.prog Tryz.f89=some c89:=by kernel_rfl
def c58:SFn:=⟨19,[.t 2],Zr (Zo (.mv 2 (.c .nilS)) .nil)<| .seq (Zr (Zm 4 0<|
 Zk 5 .lss 4 0<|
 Zm 6 5<|
 Zg 6 false (.mv 7 (.t 0))<|
 Zg 6 false (.bin 8 .geq false (.t 7) (.c (Zz 64)))<|
 Zo (.pick 9 (.t 6) (.c (.bool true)) (.t 8)) .nil)<| .cond (.t 9) (Zr (Zo (.mv 2 (.c .nilS)) .nil) .ret) .skip)<|Zr (Zm 10 0<|
 Zk 11 .add 10 1<|
 Zo (.mk 12 1 8 3 (Zz 0) (.t 11) (.t 11))<|
 Zm 3 12 .nil)<|Zr (Zm 13 3<|
 Zm 14 0<|
 Zi 15 1 13 14<|
 Zo (.st 1 (.t 15) (.c (Zz 1))) .nil)<|Zr (Zq 16 false 37 [.c (Zz 1)]<|
 Zm 17 3<|
 Zq 18 false 104 [.c .nilS,.t 16,.t 17]<|
 Zm 2 18 .nil) .ret⟩
theorem Qamm:Qe Tryz.prog Tryz.f58=some c58:=by kernel_rfl
end Go.Proofs.YtonfajmchebkeaaGreat
namespace Go.Proofs.YtonfajmchebkeaaGreat
open Go Go.FW
set_option maxRecDepth 100000
def c34:SFn:=⟨63,[.t 2],Zr (Zo (.mv 2 (.c (.bool false))) .nil)<| .seq (Zr (Zm 5 0<|
 Zn 6 5<|
 Zk 7 .gtr 6 6 .nil)<| .cond (.t 7) (Zr (Zo (.mv 2 (.c (.bool false))) .nil) .ret) .skip)<| .seq (Zr (Zc 3 0 .nil)<| .block 0<| .loop<| .seq (Zr (Zm 8 3<|
 Zm 9 0<|
 Zn 10 9<|
 Zb 11 .lss 8 10 .nil)<| .cond (.t 11) .skip (.exit 0))<| .seq (.block 1<| .seq (Zr (Zm 14 0<|
 Zm 15 3<|
 Zi 16 4 14 15<|
 Zf 17 3 16<|
 Zl 18 1 17<|
 Zn 19 18<|
 Zk 20 .gtr 19 4<|
 Zm 21 20<|
 Zg 21 false (.mv 22 (.t 0))<|
 Zg 21 false (.mv 23 (.t 3))<|
 Zg 21 false (.idx 24 4 (.t 22) (.t 23))<|
 Zg 21 false (.fld 25 0 (.t 24))<|
 Zg 21 false (.fld 26 0 (.t 25))<|
 Zg 21 false (.fld 27 1 (.t 26))<|
 Zg 21 false (.ld 28 1 false (.t 27))<|
 Zg 21 false (.len 29 (.t 28))<|
 Zg 21 false (.bin 30 .gtr false (.t 29) (.c (Zz 2)))<|
 Zo (.pick 31 (.t 21) (.c (.bool true)) (.t 30))<|
 Zm 32 31<|
 Zg 32 false (.mv 33 (.t 0))<|
 Zg 32 false (.mv 34 (.t 3))<|
 Zg 32 false (.idx 35 4 (.t 33) (.t 34))<|
 Zg 32 false (.fld 36 0 (.t 35))<|
 Zg 32 false (.fld 37 2 (.t 36))<|
 Zg 32 false (.ld 38 1 false (.t 37))<|
 Zg 32 false (.len 39 (.t 38))<|
 Zg 32 false (.bin 40 .gtr false (.t 39) (.c (Zz 2)))<|
 Zo (.pick 41 (.t 32) (.c (.bool true)) (.t 40)) .nil)<| .cond (.t 41) (Zr (Zo (.mv 2 (.c (.bool false))) .nil) .ret) .skip)<|Zr (Zc 4 0 .nil)<| .block 2<| .loop<| .seq (Zr (Zm 42 4<|
 Zm 43 0<|
 Zm 44 3<|
 Zi 45 4 43 44<|
 Zf 46 3 45<|
 Zl 47 1 46<|
 Zn 48 47<|
 Zb 49 .lss 42 48 .nil)<| .cond (.t 49) .skip (.exit 2))<| .seq (.block 3<|Zr (Zm 52 0<|
 Zm 53 3<|
 Zi 54 4 52 53<|
 Zf 55 3 54<|
 Zl 56 1 55<|
 Zm 57 4<|
 Zi 58 1 56 57<|
 Zl 59 1 58<|
 Zk 60 .gtr 59 4 .nil)<| .cond (.t 60) (Zr (Zo (.mv 2 (.c (.bool false))) .nil) .ret) .skip)<| .rg (Zm 50 4<|
 Zk 51 .add 50 1<|
 Zm 4 51 .nil))<| .rg (Zm 12 3<|
 Zk 13 .add 12 1<|
 Zm 3 13 .nil))<|Zr (Zm 61 0<|
 Zq 62 false 44 [.t 61]<|
 Zm 2 62 .nil) .ret⟩
theorem Qamn:Qe Tryz.prog Tryz.f34=some c34:=by kernel_rfl
def c28:SFn:=⟨19,[.t 2],Zr (Zo (.mv 2 (.c (.bool false))) .nil)<| .seq (Zr (Zm 4 0<|
 Zn 5 4<|
 Zk 6 .gtr 5 4 .nil)<| .cond (.t 6) (Zr (Zo (.mv 2 (.c (.bool false))) .nil) .ret) .skip)<| .seq (Zr (Zc 3 0 .nil)<| .block 0<| .loop<| .seq (Zr (Zm 7 3<|
 Zm 8 0<|
 Zn 9 8<|
 Zb 10 .lss 7 9 .nil)<| .cond (.t 10) .skip (.exit 0))<| .seq (.block 1<|Zr (Zm 13 0<|
 Zm 14 3<|
 Zi 15 1 13 14<|
 Zl 16 1 15<|
 Zq 17 false 34 [.t 16]<|
 Zu 18 17 .nil)<| .cond (.t 18) (Zr (Zo (.mv 2 (.c (.bool false))) .nil) .ret) .skip)<| .rg (Zm 11 3<|
 Zk 12 .add 11 1<|
 Zm 3 12 .nil))<|Zr (Zo (.mv 2 (.c (.bool true))) .nil) .ret⟩
theorem Qamo:Qe Tryz.prog Tryz.f28=some c28:=by kernel_rfl
def c33:SFn:=⟨17,[.t 2],Zr (Zo (.box 1 4 79 (.t 0))<|
 Zo (.mv 2 (.c (.bool false))) .nil)<|Zr (Zf 3 0 1<|
 Zl 4 1 3<|
 Zq 5 false 28 [.t 4]<|
 Zm 6 5<|
 Zg 6 true (.fld 7 3 (.t 1))<|
 Zg 6 true (.ld 8 1 false (.t 7))<|
 Zg 6 true (.call (some 9) false (.c (.fn 28 [] [])) [.t 8])<|
 Zo (.pick 10 (.t 6) (.t 9) (.c (.bool false)))<|
 Zm 11 10<|
 Zg 11 true (.fld 12 1 (.t 1))<|
 Zg 11 true (.ld 13 1 false (.t 12))<|
 Zg 11 true (.len 14 (.t 13))<|
 Zg 11 true (.bin 15 .leq false (.t 14) (.c (Zz 6)))<|
 Zo (.pick 16 (.t 11) (.t 15) (.c (.bool false)))<|
 Zm 2 16 .nil) .ret⟩
theorem Qamp:Qe Tryz.prog Tryz.f33=some c33:=by kernel_rfl
def c40:SFn:=⟨46,[.t 2],Zr (Zo (.box 1 4 79 (.t 0))<|
 Zo (.mv 2 (.c (.bool false))) .nil)<| .seq (Zr (Zh 4 4 1<|
 Zq 5 false 33 [.t 4]<|
 Zu 6 5<|
 Zm 7 6<|
 Zg 7 false (.fld 8 1 (.t 1))<|
 Zg 7 false (.ld 9 1 false (.t 8))<|
 Zg 7 false (.len 10 (.t 9))<|
 Zg 7 false (.fld 11 0 (.t 1))<|
 Zg 7 false (.ld 12 1 false (.t 11))<|
 Zg 7 false (.len 13 (.t 12))<|
 Zg 7 false (.bin 14 .neq false (.t 10) (.t 13))<|
 Zo (.pick 15 (.t 7) (.c (.bool true)) (.t 14)) .nil)<| .cond (.t 15) (Zr (Zo (.mv 2 (.c (.bool false))) .nil) .ret) .skip)<| .seq (Zr (Zc 3 0 .nil)<| .block 0<| .loop<| .seq (Zr (Zm 16 3<|
 Zf 17 1 1<|
 Zl 18 1 17<|
 Zn 19 18<|
 Zb 20 .lss 16 19 .nil)<| .cond (.t 20) .skip (.exit 0))<| .seq (.block 1<|Zr (Zf 23 1 1<|
 Zl 24 1 23<|
 Zm 25 3<|
 Zi 26 1 24 25<|
 Zl 27 1 26<|
 Zk 28 .lss 27 0<|
 Zm 29 28<|
 Zg 29 false (.fld 30 1 (.t 1))<|
 Zg 29 false (.ld 31 1 false (.t 30))<|
 Zg 29 false (.mv 32 (.t 3))<|
 Zg 29 false (.idx 33 1 (.t 31) (.t 32))<|
 Zg 29 false (.ld 34 1 false (.t 33))<|
 Zg 29 false (.bin 35 .gtr false (.t 34) (.c (Zz 4)))<|
 Zo (.pick 36 (.t 29) (.c (.bool true)) (.t 35))<|
 Zm 37 36<|
 Zg 37 false (.fld 38 0 (.t 1))<|
 Zg 37 false (.ld 39 1 false (.t 38))<|
 Zg 37 false (.mv 40 (.t 3))<|
 Zg 37 false (.idx 41 1 (.t 39) (.t 40))<|
 Zg 37 false (.ld 42 1 false (.t 41))<|
 Zg 37 false (.len 43 (.t 42))<|
 Zg 37 false (.bin 44 .eql false (.t 43) (.c (Zz 0)))<|
 Zo (.pick 45 (.t 37) (.c (.bool true)) (.t 44)) .nil)<| .cond (.t 45) (Zr (Zo (.mv 2 (.c (.bool false))) .nil) .ret) .skip)<| .rg (Zm 21 3<|
 Zk 22 .add 21 1<|
 Zm 3 22 .nil))<|Zr (Zo (.mv 2 (.c (.bool true))) .nil) .ret⟩
theorem Qamq:Qe Tryz.prog Tryz.f40=some c40:=by kernel_rfl
def c79:SFn:=⟨19,[.t 6,.t 7],Zr (Zo (.mv 6 (.c .nilS))<|
 Zc 7 0 .nil)<| .seq (Zr (Zm 8 2<|
 Zc 9 0 .nil)<| .block 0<| .loop<|Zr (Zb 10 .lss 9 8 .nil)<| .seq (.cond (.t 10) .skip (.exit 0))<| .seq (.block 1<|Zr (Zm 11 0<|
 Zm 12 1<|
 Zq 13 false 93 [.t 11,.t 12]<|
 Zm 0 13 .nil)<|Zr (Zm 14 0<|
 Zn 15 14<|
 Zk 16 .gtr 15 4000 .nil)<| .cond (.t 16) (Zr (Zo (.mv 6 (.c .nilS))<|
 Zc 7 4 .nil) .ret) .skip)<| .rg (Zk 17 .add 9 1<|
 Zm 9 17 .nil))<|Zr (Zm 18 0<|
 Zm 6 18<|
 Zc 7 0 .nil) .ret⟩
theorem Qamr:Qe Tryz.prog Tryz.f79=some c79:=by kernel_rfl
def c45:SFn:=⟨34,[.t 4,.t 5],Zr (Zo (.mv 4 (.c .nilS))<|
 Zc 5 0 .nil)<| .seq (Zr (Zm 8 0<|
 Zn 9 8<|
 Zm 10 1<|
 Zn 11 10<|
 Zb 12 .neq 9 11 .nil)<| .cond (.t 12) (Zr (Zo (.mv 4 (.c .nilS))<|
 Zc 5 16 .nil) .ret) .skip)<|Zr (Zo (.mv 6 (.c .nilS)) .nil)<| .seq (Zr (Zm 13 1<|
 Zn 14 13<|
 Zc 15 0 .nil)<| .block 0<| .loop<|Zr (Zb 16 .lss 15 14 .nil)<| .seq (.cond (.t 16) .skip (.exit 0))<| .seq (.block 1<|Zr (Zm 17 15<|
 Zm 7 17 .nil)<|Zr (Zm 18 6<|
 Zm 19 0<|
 Zm 20 7<|
 Zi 21 1 19 20<|
 Zl 22 1 21<|
 Zm 23 1<|
 Zm 24 7<|
 Zi 25 1 23 24<|
 Zl 26 1 25<|
 Zq 27 false 93 [.t 22,.t 26]<|
 Zq 28 false 92 [.t 18,.t 27]<|
 Zm 6 28 .nil)<|Zr (Zm 29 6<|
 Zn 30 29<|
 Zk 31 .gtr 30 4000 .nil)<| .cond (.t 31) (Zr (Zo (.mv 4 (.c .nilS))<|
 Zc 5 4 .nil) .ret) .skip)<| .rg (Zk 32 .add 15 1<|
 Zm 15 32 .nil))<|Zr (Zm 33 6<|
 Zm 4 33<|
 Zc 5 0 .nil) .ret⟩
theorem Qams:Qe Tryz.prog Tryz.f45=some c45:=by kernel_rfl
def c31:SFn:=⟨56,[.t 4,.t 5],Zr (Zo (.mv 4 (.c .nilS))<|
 Zc 5 0 .nil)<| .seq (Zr (Zm 12 0<|
 Zn 13 12<|
 Zm 14 1<|
 Zn 15 14<|
 Zb 16 .neq 13 15 .nil)<| .cond (.t 16) (Zr (Zo (.mv 4 (.c .nilS))<|
 Zc 5 16 .nil) .ret) .skip)<| .seq (Zr (Zm 17 1<|
 Zn 18 17<|
 Zc 19 0 .nil)<| .block 0<| .loop<|Zr (Zb 20 .lss 19 18 .nil)<| .seq (.cond (.t 20) .skip (.exit 0))<| .seq (.block 1<|Zr (Zi 21 1 17 19<|
 Zl 22 1 21<|
 Zm 7 22 .nil)<|Zr (Zm 23 7<|
 Zk 24 .lss 23 0<|
 Zm 25 24<|
 Zg 25 false (.mv 26 (.t 7))<|
 Zg 25 false (.bin 27 .gtr false (.t 26) (.c (Zz 64)))<|
 Zo (.pick 28 (.t 25) (.c (.bool true)) (.t 27)) .nil)<| .cond (.t 28) (Zr (Zo (.mv 4 (.c .nilS))<|
 Zc 5 2 .nil) .ret) .skip)<| .rg (Zk 29 .add 19 1<|
 Zm 19 29 .nil))<|Zr (Zq 30 false 78 [.c (Zz 1)]<|
 Zq 31 false 77 [.t 30]<|
 Zm 8 31 .nil)<| .seq (Zr (Zm 32 0<|
 Zn 33 32<|
 Zc 34 0 .nil)<| .block 2<| .loop<|Zr (Zb 35 .lss 34 33 .nil)<| .seq (.cond (.t 35) .skip (.exit 2))<| .seq (.block 3<|Zr (Zm 36 34<|
 Zm 9 36 .nil)<|Zr (Zm 38 8<|
 Zm 39 0<|
 Zm 40 9<|
 Zi 41 1 39 40<|
 Zl 42 1 41<|
 Zm 43 1<|
 Zm 44 9<|
 Zi 45 1 43 44<|
 Zl 46 1 45<|
 Zq 47 false 79 [.t 38,.t 42,.t 46]<|
 Zm 37 47<|
 Zo (.ext 48 (.t 37) 0)<|
 Zo (.ext 49 (.t 37) 1)<|
 Zm 10 48<|
 Zm 11 49 .nil)<| .seq (Zr (Zm 50 11<|
 Zk 51 .neq 50 0 .nil)<| .cond (.t 51) (Zr (Zm 52 11<|
 Zo (.mv 4 (.c .nilS))<|
 Zm 5 52 .nil) .ret) .skip)<| .rg (Zm 53 10<|
 Zm 8 53 .nil))<| .rg (Zk 54 .add 34 1<|
 Zm 34 54 .nil))<|Zr (Zm 55 8<|
 Zm 4 55<|
 Zc 5 0 .nil) .ret⟩
theorem Qamt:Qe Tryz.prog Tryz.f31=some c31:=by kernel_rfl
def c35:SFn:=⟨73,[.t 6],Zr (Zo (.box 3 4 79 (.t 0))<|
 Zc 6 0 .nil)<|Zr (Zf 13 0 3<|
 Zl 14 1 13<|
 Zf 15 1 3<|
 Zl 16 1 15<|
 Zq 17 false 31 [.t 14,.t 16]<|
 Zm 12 17<|
 Zo (.ext 18 (.t 12) 0)<|
 Zo (.ext 19 (.t 12) 1)<|
 Zm 7 18<|
 Zm 8 19 .nil)<| .seq (Zr (Zm 20 8<|
 Zk 21 .neq 20 0 .nil)<| .cond (.t 21) (Zr (Zm 22 8<|
 Zm 6 22 .nil) .ret) .skip)<| .seq (Zr (Zf 23 0 3<|
 Zl 24 1 23<|
 Zn 25 24<|
 Zc 26 0 .nil)<| .block 0<| .loop<|Zr (Zb 27 .lss 26 25 .nil)<| .seq (.cond (.t 27) .skip (.exit 0))<| .seq (.block 1<|Zr (Zi 28 1 24 26<|
 Zl 29 1 28<|
 Zm 10 29 .nil)<|Zr (Zm 30 10<|
 Zn 31 30<|
 Zk 32 .eql 31 0 .nil)<| .cond (.t 32) (Zr (Zc 6 3 .nil) .ret) .skip)<| .rg (Zk 33 .add 26 1<|
 Zm 26 33 .nil))<| .seq (Zr (Zf 34 2 3<|
 Zl 35 1 34<|
 Zk 36 .lss 35 1<|
 Zm 37 36<|
 Zg 37 false (.fld 38 2 (.t 3))<|
 Zg 37 false (.ld 39 1 false (.t 38))<|
 Zg 37 false (.bin 40 .gtr false (.t 39) (.c (Zz 64)))<|
 Zo (.pick 41 (.t 37) (.c (.bool true)) (.t 40)) .nil)<| .cond (.t 41) (Zr (Zc 6 2 .nil) .ret) .skip)<| .seq (Zr (Zf 42 3 3<|
 Zl 43 1 42<|
 Zn 44 43<|
 Zm 45 1<|
 Zn 46 45<|
 Zb 47 .neq 44 46 .nil)<| .cond (.t 47) (Zr (Zc 6 16 .nil) .ret) .skip)<| .seq (Zr (Zm 49 7<|
 Zm 50 2<|
 Zf 51 2 3<|
 Zl 52 1 51<|
 Zq 53 false 79 [.t 49,.t 50,.t 52]<|
 Zm 48 53<|
 Zo (.ext 54 (.t 48) 0)<|
 Zo (.ext 55 (.t 48) 1)<|
 Zm 7 54<|
 Zm 8 55 .nil)<|Zr (Zm 56 8<|
 Zk 57 .neq 56 0 .nil)<| .cond (.t 57) (Zr (Zm 58 8<|
 Zm 6 58 .nil) .ret) .skip)<|Zr (Zf 60 3 3<|
 Zl 61 1 60<|
 Zm 62 1<|
 Zq 63 false 45 [.t 61,.t 62]<|
 Zm 59 63<|
 Zo (.ext 64 (.t 59) 0)<|
 Zo (.ext 65 (.t 59) 1)<|
 Zm 11 64<|
 Zm 8 65 .nil)<| .seq (Zr (Zm 66 8<|
 Zk 67 .neq 66 0 .nil)<| .cond (.t 67) (Zr (Zm 68 8<|
 Zm 6 68 .nil) .ret) .skip)<| .seq (Zr (Zm 69 7<|
 Zm 70 11<|
 Zq 71 false 81 [.t 69,.t 70]<|
 Zu 72 71 .nil)<| .cond (.t 72) (Zr (Zc 6 17 .nil) .ret) .skip)<|Zr (Zc 6 0 .nil) .ret⟩
theorem Qamu:Qe Tryz.prog Tryz.f35=some c35:=by kernel_rfl
def c43:SFn:=⟨88,[.cell 4 4 true,.t 5],Zr (Zo (.box 2 4 79 (.t 0))<|
 Zo (.alloc 4 4 79 (.agg [.nilS,.nilS,Zz 0,.nilS]))<|
 Zo (.mv 5 (.c (.bool false))) .nil)<| .seq (Zr (Zm 11 1<|
 Zk 12 .lss 11 0<|
 Zm 13 12<|
 Zg 13 false (.mv 14 (.t 1))<|
 Zg 13 false (.fld 15 0 (.t 2))<|
 Zg 13 false (.ld 16 1 false (.t 15))<|
 Zg 13 false (.len 17 (.t 16))<|
 Zg 13 false (.bin 18 .geq false (.t 14) (.t 17))<|
 Zo (.pick 19 (.t 13) (.c (.bool true)) (.t 18))<|
 Zm 20 19<|
 Zg 20 false (.mv 21 (.t 1))<|
 Zg 20 false (.fld 22 1 (.t 2))<|
 Zg 20 false (.ld 23 1 false (.t 22))<|
 Zg 20 false (.len 24 (.t 23))<|
 Zg 20 false (.bin 25 .geq false (.t 21) (.t 24))<|
 Zo (.pick 26 (.t 20) (.c (.bool true)) (.t 25))<|
 Zm 27 26<|
 Zg 27 false (.fld 28 1 (.t 2))<|
 Zg 27 false (.ld 29 1 false (.t 28))<|
 Zg 27 false (.mv 30 (.t 1))<|
 Zg 27 false (.idx 31 1 (.t 29) (.t 30))<|
 Zg 27 false (.ld 32 1 false (.t 31))<|
 Zg 27 false (.bin 33 .lss false (.t 32) (.c (Zz 1)))<|
 Zo (.pick 34 (.t 27) (.c (.bool true)) (.t 33)) .nil)<| .cond (.t 34) (Zr (Zo (.bld 35 [.nilS,.nilS,Zz 0,.nilS] [])<|
 Zs 4 4 35<|
 Zo (.mv 5 (.c (.bool false))) .nil) .ret) .skip)<|Zr (Zf 36 3 2<|
 Zl 37 1 36<|
 Zn 38 37<|
 Zo (.mk 39 1 24 51 .nilS (.t 38) (.t 38))<|
 Zm 6 39 .nil)<| .seq (Zr (Zm 40 6<|
 Zn 41 40<|
 Zc 42 0 .nil)<| .block 0<| .loop<|Zr (Zb 43 .lss 42 41 .nil)<| .seq (.cond (.t 43) .skip (.exit 0))<| .seq (.block 1<|Zr (Zm 44 42<|
 Zm 7 44 .nil)<|Zr (Zf 46 3 2<|
 Zl 47 1 46<|
 Zm 48 7<|
 Zi 49 1 47 48<|
 Zl 50 1 49<|
 Zf 51 0 2<|
 Zl 52 1 51<|
 Zm 53 1<|
 Zi 54 1 52 53<|
 Zl 55 1 54<|
 Zq 56 false 89 [.t 50,.t 55]<|
 Zm 45 56<|
 Zo (.ext 57 (.t 45) 0)<|
 Zo (.ext 58 (.t 45) 1)<|
 Zm 8 57<|
 Zm 9 58 .nil)<| .seq (Zr (Zm 59 9<|
 Zu 60 59 .nil)<| .cond (.t 60) (Zr (Zo (.bld 61 [.nilS,.nilS,Zz 0,.nilS] [])<|
 Zs 4 4 61<|
 Zo (.mv 5 (.c (.bool false))) .nil) .ret) .skip)<| .rg (Zm 62 6<|
 Zm 63 7<|
 Zm 64 8<|
 Zi 65 1 62 63<|
 Zs 1 65 64 .nil))<| .rg (Zk 66 .add 42 1<|
 Zm 42 66 .nil))<|Zr (Zf 67 1 2<|
 Zl 68 1 67<|
 Zn 69 68<|
 Zo (.mk 70 1 8 3 (Zz 0) (.t 69) (.t 69))<|
 Zm 10 70 .nil)<|Zr (Zm 71 10<|
 Zf 72 1 2<|
 Zl 73 1 72<|
 Zo (.cpy 74 1 (.t 71) (.t 73)) .nil)<|Zr (Zm 75 10<|
 Zm 76 1<|
 Zi 77 1 75 76<|
 Zl 78 1 77<|
 Zk 79 .sub 78 1<|
 Zi 80 1 75 76<|
 Zs 1 80 79 .nil)<|Zr (Zf 81 0 2<|
 Zl 82 1 81<|
 Zm 83 10<|
 Zf 84 2 2<|
 Zl 85 1 84<|
 Zm 86 6<|
 Zo (.bld 87 [.nilS,.nilS,Zz 0,.nilS] [(0,1,.t 82),(1,1,.t 83),(2,1,.t 85),(3,1,.t 86)])<|
 Zs 4 4 87<|
 Zo (.mv 5 (.c (.bool true))) .nil) .ret⟩
theorem Qamv:Qe Tryz.prog Tryz.f43=some c43:=by kernel_rfl
def c88:SFn:=⟨40,[.cell 4 4 true],Zr (Zo (.box 2 4 79 (.t 0))<|
 Zo (.alloc 4 4 79 (.agg [.nilS,.nilS,Zz 0,.nilS])) .nil)<|Zr (Zf 6 2 2<|
 Zl 7 1 6<|
 Zf 8 3 2<|
 Zl 9 1 8<|
 Zo (.bld 10 [.nilS,.nilS,Zz 0,.nilS] [(2,1,.t 7),(3,1,.t 9)])<|
 Zo (.alloc 5 4 79 (.agg [.nilS,.nilS,Zz 0,.nilS]))<|
 Zs 4 5 10 .nil)<|Zr (Zf 11 0 5<|
 Zl 12 1 11<|
 Zf 13 0 2<|
 Zl 14 1 13<|
 Zm 15 1<|
 Zo (.sl 16 1 (.t 14) none (some (.t 15)) none)<|
 Zf 18 0 2<|
 Zm 20 1<|
 Zk 21 .add 20 1<|
 .br (Zo (.app 17 1 24 51 (.t 12) (.t 16))<|
 Zl 19 1 18<|
 Zo (.sl 22 1 (.t 19) (some (.t 21)) none none)<|
 Zo (.app 23 1 24 51 (.t 17) (.t 22))<|
 Zf 24 0 5<|
 Zs 1 24 23 .nil) (Zl 19 1 18<|
 Zo (.sl 22 1 (.t 19) (some (.t 21)) none none)<|
 Zo (.app 17 1 24 51 (.t 12) (.t 16))<|
 Zo (.app 23 1 24 51 (.t 17) (.t 22))<|
 Zf 24 0 5<|
 Zs 1 24 23 .nil))<|Zr (Zf 25 1 5<|
 Zl 26 1 25<|
 Zf 27 1 2<|
 Zl 28 1 27<|
 Zm 29 1<|
 Zo (.sl 30 1 (.t 28) none (some (.t 29)) none)<|
 Zf 32 1 2<|
 Zm 34 1<|
 Zk 35 .add 34 1<|
 .br (Zo (.app 31 1 8 3 (.t 26) (.t 30))<|
 Zl 33 1 32<|
 Zo (.sl 36 1 (.t 33) (some (.t 35)) none none)<|
 Zo (.app 37 1 8 3 (.t 31) (.t 36))<|
 Zf 38 1 5<|
 Zs 1 38 37 .nil) (Zl 33 1 32<|
 Zo (.sl 36 1 (.t 33) (some (.t 35)) none none)<|
 Zo (.app 31 1 8 3 (.t 26) (.t 30))<|
 Zo (.app 37 1 8 3 (.t 31) (.t 36))<|
 Zf 38 1 5<|
 Zs 1 38 37 .nil))<|Zr (Zh 39 4 5<|
 Zs 4 4 39 .nil) .ret⟩
theorem Qamw:Qe Tryz.prog Tryz.f88=some c88:=by kernel_rfl
def c42:SFn:=⟨42,[.cell 2 4 true],Zr (Zo (.box 1 4 79 (.t 0))<|
 Zo (.alloc 2 4 79 (.agg [.nilS,.nilS,Zz 0,.nilS])) .nil)<| .seq (Zr (Zf 6 0 1<|
 Zl 7 1 6<|
 Zn 8 7<|
 Zf 9 1 1<|
 Zl 10 1 9<|
 Zn 11 10<|
 Zb 12 .neq 8 11 .nil)<| .cond (.t 12) (Zr (Zh 13 4 1<|
 Zs 4 2 13 .nil) .ret) .skip)<|Zr (Zh 14 4 1<|
 Zq 15 false 87 [.t 14]<|
 Zs 4 1 15 .nil)<| .seq (Zr (Zc 3 0 .nil)<| .block 0<| .loop<| .seq (Zr (Zm 16 3<|
 Zf 17 0 1<|
 Zl 18 1 17<|
 Zn 19 18<|
 Zb 20 .lss 16 19 .nil)<| .cond (.t 20) .skip (.exit 0))<| .seq (.block 1<|Zr (Zh 24 4 1<|
 Zm 25 3<|
 Zq 26 false 43 [.t 24,.t 25]<|
 Zm 23 26<|
 Zo (.ext 27 (.t 23) 0)<|
 Zo (.ext 28 (.t 23) 1)<|
 Zo (.alloc 4 4 79 (.agg [.nilS,.nilS,Zz 0,.nilS]))<|
 Zs 4 4 27<|
 Zm 5 28 .nil)<| .seq (Zr (Zm 29 5<|
 Zu 30 29 .nil)<| .cond (.t 30) (.exit 1) .skip)<|Zr (Zh 31 4 4<|
 Zs 4 1 31 .nil)<| .seq (Zr (Zf 32 1 1<|
 Zl 33 1 32<|
 Zm 34 3<|
 Zi 35 1 33 34<|
 Zl 36 1 35<|
 Zk 37 .eql 36 0 .nil)<| .cond (.t 37) (.rg (Zh 38 4 1<|
 Zm 39 3<|
 Zq 40 false 88 [.t 38,.t 39]<|
 Zs 4 1 40 .nil)) .skip)<| .rg (Zc 3 (-1) .nil))<| .rg (Zm 21 3<|
 Zk 22 .add 21 1<|
 Zm 3 22 .nil))<|Zr (Zh 41 4 1<|
 Zs 4 2 41 .nil) .ret⟩
theorem Qamx:Qe Tryz.prog Tryz.f42=some c42:=by kernel_rfl
def c76:SFn:=⟨33,[.t 4],Zr (Zo (.mv 4 (.c (.bool false))) .nil)<| .seq (Zr (Zc 5 0 .nil)<| .block 0<| .loop<| .seq (Zr (Zm 6 5<|
 Zm 7 0<|
 Zn 8 7<|
 Zb 9 .lss 6 8<|
 Zm 10 9<|
 Zg 10 true (.mv 11 (.t 5))<|
 Zg 10 true (.mv 12 (.t 1))<|
 Zg 10 true (.len 13 (.t 12))<|
 Zg 10 true (.bin 14 .lss false (.t 11) (.t 13))<|
 Zo (.pick 15 (.t 10) (.t 14) (.c (.bool false))) .nil)<| .cond (.t 15) .skip (.exit 0))<| .seq (.block 1<|Zr (Zm 18 0<|
 Zm 19 5<|
 Zi 20 1 18 19<|
 Zl 21 1 20<|
 Zm 22 1<|
 Zm 23 5<|
 Zi 24 1 22 23<|
 Zl 25 1 24<|
 Zq 26 false 20 [.t 21,.t 25]<|
 Zu 27 26 .nil)<| .cond (.t 27) (Zr (Zo (.mv 4 (.c (.bool false))) .nil) .ret) .skip)<| .rg (Zm 16 5<|
 Zk 17 .add 16 1<|
 Zm 5 17 .nil))<|Zr (Zm 28 0<|
 Zn 29 28<|
 Zm 30 1<|
 Zn 31 30<|
 Zb 32 .eql 29 31<|
 Zm 4 32 .nil) .ret⟩
theorem Qamy:Qe Tryz.prog Tryz.f76=some c76:=by kernel_rfl
def c30:SFn:=⟨105,[.t 0],Zr (Zo (.mv 0 (.c (.bool false))) .nil)<|Zr (Zq 8 false 73 [.c (Zz 0)]<|
 Zo (.bs 9 1 51 [.t 8])<|
 Zo (.bs 10 1 3 [.c (Zz 1)])<|
 Zq 11 false 74 []<|
 Zo (.bs 12 1 51 [.t 11])<|
 Zo (.bld 13 [.nilS,.nilS,Zz 0,.nilS] [(0,1,.t 9),(1,1,.t 10),(2,1,.c (Zz 1)),(3,1,.t 12)])<|
 Zo (.alloc 1 4 79 (.agg [.nilS,.nilS,Zz 0,.nilS]))<|
 Zs 4 1 13 .nil)<|Zr (Zq 14 false 73 [.c (Zz 0)]<|
 Zq 15 false 73 [.c (Zz 1)]<|
 Zq 16 false 41 [.t 14,.t 15]<|
 Zo (.bs 17 1 51 [.t 16])<|
 Zm 2 17 .nil)<|Zr (Zq 19 false 73 [.c (Zz 1)]<|
 Zq 20 false 73 [.c (Zz 0)]<|
 Zo (.bs 21 1 51 [.t 19,.t 20])<|
 Zq 22 false 73 [.c (Zz 0)]<|
 Zq 23 false 74 []<|
 Zo (.bs 24 1 51 [.t 22,.t 23])<|
 Zq 25 false 45 [.t 21,.t 24]<|
 Zm 18 25<|
 Zo (.ext 26 (.t 18) 0)<|
 Zo (.ext 27 (.t 18) 1)<|
 Zm 3 26<|
 Zm 4 27 .nil)<|Zr (Zq 29 false 73 [.c (Zz 0)]<|
 Zq 30 false 73 [.c (Zz 1)]<|
 Zo (.bs 31 1 51 [.t 29,.t 30])<|
 Zo (.bs 32 1 3 [.c (Zz 2),.c (Zz 0)])<|
 Zq 33 false 31 [.t 31,.t 32]<|
 Zm 28 33<|
 Zo (.ext 34 (.t 28) 0)<|
 Zo (.ext 35 (.t 28) 1)<|
 Zm 5 34<|
 Zm 6 35 .nil)<|Zr (Zq 36 false 73 [.c (Zz 0)]<|
 Zo (.bs 37 1 51 [.t 36])<|
 Zo (.bs 38 1 3 [.c (Zz 2)])<|
 Zq 39 false 73 [.c (Zz 0)]<|
 Zq 40 false 73 [.c (Zz 0)]<|
 Zq 41 false 41 [.t 39,.t 40]<|
 Zq 42 false 73 [.c (Zz 0)]<|
 Zq 43 false 73 [.c (Zz 1)]<|
 Zq 44 false 41 [.t 42,.t 43]<|
 Zo (.bs 45 1 51 [.t 41,.t 44])<|
 Zo (.bld 46 [.nilS,.nilS,Zz 0,.nilS] [(0,1,.t 37),(1,1,.t 38),(2,1,.c (Zz 1)),(3,1,.t 45)])<|
 Zq 47 false 42 [.t 46]<|
 Zo (.alloc 7 4 79 (.agg [.nilS,.nilS,Zz 0,.nilS]))<|
 Zs 4 7 47 .nil)<|Zr (Zm 48 4<|
 Zk 49 .eql 48 0<|
 Zm 50 49<|
 Zg 50 true (.mv 51 (.t 3))<|
 Zg 50 true (.mv 52 (.t 2))<|
 Zg 50 true (.idx 53 1 (.t 52) (.c (Zz 0)))<|
 Zg 50 true (.ld 54 1 false (.t 53))<|
 Zg 50 true (.call (some 55) true (.c (.fn 73 [] [])) [.c (Zz 0)])<|
 Zg 50 true (.call (some 56) true (.c (.fn 75 [] [])) [.t 54,.t 55])<|
 Zg 50 true (.call (some 57) true (.c (.fn 20 [] [])) [.t 51,.t 56])<|
 Zo (.pick 58 (.t 50) (.t 57) (.c (.bool false)))<|
 Zm 59 58<|
 Zg 59 true (.mv 60 (.t 6))<|
 Zg 59 true (.bin 61 .eql false (.t 60) (.c (Zz 0)))<|
 Zo (.pick 62 (.t 59) (.t 61) (.c (.bool false)))<|
 Zm 63 62<|
 Zg 63 true (.mv 64 (.t 5))<|
 Zg 63 true (.call (some 65) true (.c (.fn 73 [] [])) [.c (Zz 0)])<|
 Zg 63 true (.call (some 66) true (.c (.fn 73 [] [])) [.c (Zz 0)])<|
 Zg 63 true (.call (some 67) true (.c (.fn 41 [] [])) [.t 65,.t 66])<|
 Zg 63 true (.call (some 68) true (.c (.fn 20 [] [])) [.t 64,.t 67])<|
 Zo (.pick 69 (.t 63) (.t 68) (.c (.bool false)))<|
 Zm 70 69<|
 Zg 70 true (.ld 71 4 true (.t 1))<|
 Zg 70 true (.mv 72 (.t 2))<|
 Zg 70 true (.call (some 73) true (.c (.fn 73 [] [])) [.c (Zz 1)])<|
 Zg 70 true (.call (some 74) true (.c (.fn 35 [] [])) [.t 71,.t 72,.t 73])<|
 Zg 70 true (.bin 75 .eql false (.t 74) (.c (Zz 0)))<|
 Zo (.pick 76 (.t 70) (.t 75) (.c (.bool false)))<|
 Zm 77 76<|
 Zg 77 true (.ld 78 4 true (.t 1))<|
 Zg 77 true (.mv 79 (.t 2))<|
 Zg 77 true (.call (some 80) true (.c (.fn 73 [] [])) [.c (Zz 0)])<|
 Zg 77 true (.call (some 81) true (.c (.fn 35 [] [])) [.t 78,.t 79,.t 80])<|
 Zg 77 true (.bin 82 .eql false (.t 81) (.c (Zz 17)))<|
 Zo (.pick 83 (.t 77) (.t 82) (.c (.bool false)))<|
 Zm 84 83<|
 Zg 84 true (.fld 85 1 (.t 7))<|
 Zg 84 true (.ld 86 1 false (.t 85))<|
 Zg 84 true (.len 87 (.t 86))<|
 Zg 84 true (.bin 88 .eql false (.t 87) (.c (Zz 1)))<|
 Zo (.pick 89 (.t 84) (.t 88) (.c (.bool false)))<|
 Zm 90 89<|
 Zg 90 true (.fld 91 1 (.t 7))<|
 Zg 90 true (.ld 92 1 false (.t 91))<|
 Zg 90 true (.idx 93 1 (.t 92) (.c (Zz 0)))<|
 Zg 90 true (.ld 94 1 false (.t 93))<|
 Zg 90 true (.bin 95 .eql false (.t 94) (.c (Zz 1)))<|
 Zo (.pick 96 (.t 90) (.t 95) (.c (.bool false)))<|
 Zm 97 96<|
 Zg 97 true (.fld 98 3 (.t 7))<|
 Zg 97 true (.ld 99 1 false (.t 98))<|
 Zg 97 true (.call (some 100) true (.c (.fn 73 [] [])) [.c (Zz 0)])<|
 Zg 97 true (.call (some 101) true (.c (.fn 73 [] [])) [.c (Zz 1)])<|
 Zg 97 true (.bs 102 1 51 [.t 100,.t 101])<|
 Zg 97 true (.call (some 103) true (.c (.fn 76 [] [])) [.t 99,.t 102])<|
 Zo (.pick 104 (.t 97) (.t 103) (.c (.bool false)))<|
 Zm 0 104 .nil) .ret⟩
theorem Qamz:Qe Tryz.prog Tryz.f30=some c30:=by kernel_rfl
def c73:SFn:=⟨5,[.t 2],Zr (Zo (.mv 2 (.c .nilS)) .nil)<|Zr (Zm 3 0<|
 Zq 4 false 58 [.t 3]<|
 Zm 2 4 .nil) .ret⟩
theorem Qam0:Qe Tryz.prog Tryz.f73=some c73:=by kernel_rfl
def c74:SFn:=⟨3,[.t 0],Zr (Zo (.mv 0 (.c .nilS)) .nil)<|Zr (Zq 1 false 37 [.c (Zz 1)]<|
 Zq 2 false 107 [.t 1]<|
 Zm 0 2 .nil) .ret⟩
theorem Qam1:Qe Tryz.prog Tryz.f74=some c74:=by kernel_rfl
def c29:SFn:=⟨59,[.t 4],Zr (Zo (.mv 4 (.c (.bool false))) .nil)<|Zr (Zc 5 0 .nil)<| .seq (Zr (Zc 6 0 .nil)<| .block 0<| .loop<| .seq (Zr (Zm 7 6<|
 Zm 8 1<|
 Zn 9 8<|
 Zb 10 .lss 7 9 .nil)<| .cond (.t 10) .skip (.exit 0))<| .seq (.block 1<| .seq (Zr (Zm 13 1<|
 Zm 14 6<|
 Zi 15 1 13 14<|
 Zl 16 1 15<|
 Zk 17 .gtr 16 4<|
 Zm 18 17<|
 Zg 18 true (.mv 19 (.t 1))<|
 Zg 18 true (.mv 20 (.t 6))<|
 Zg 18 true (.idx 21 1 (.t 19) (.t 20))<|
 Zg 18 true (.ld 22 1 false (.t 21))<|
 Zg 18 true (.bin 23 .leq false (.t 22) (.c (Zz 64)))<|
 Zo (.pick 24 (.t 18) (.t 23) (.c (.bool false))) .nil)<| .cond (.t 24) (Zr (Zo (.mv 4 (.c (.bool true))) .nil) .ret) .skip)<|Zr (Zm 25 1<|
 Zm 26 6<|
 Zi 27 1 25 26<|
 Zl 28 1 27<|
 Zk 29 .gtr 28 0<|
 Zm 30 29<|
 Zg 30 true (.mv 31 (.t 1))<|
 Zg 30 true (.mv 32 (.t 6))<|
 Zg 30 true (.idx 33 1 (.t 31) (.t 32))<|
 Zg 30 true (.ld 34 1 false (.t 33))<|
 Zg 30 true (.bin 35 .leq false (.t 34) (.c (Zz 4)))<|
 Zo (.pick 36 (.t 30) (.t 35) (.c (.bool false)))<|
 Zm 37 36<|
 Zg 37 true (.mv 38 (.t 6))<|
 Zg 37 true (.mv 39 (.t 0))<|
 Zg 37 true (.len 40 (.t 39))<|
 Zg 37 true (.bin 41 .lss false (.t 38) (.t 40))<|
 Zo (.pick 42 (.t 37) (.t 41) (.c (.bool false)))<|
 Zm 43 42<|
 Zg 43 true (.mv 44 (.t 0))<|
 Zg 43 true (.mv 45 (.t 6))<|
 Zg 43 true (.idx 46 1 (.t 44) (.t 45))<|
 Zg 43 true (.ld 47 1 false (.t 46))<|
 Zg 43 true (.len 48 (.t 47))<|
 Zg 43 true (.bin 49 .gtr false (.t 48) (.c (Zz 1)))<|
 Zo (.pick 50 (.t 43) (.t 49) (.c (.bool false))) .nil)<| .cond (.t 50) (.rg (Zm 51 5<|
 Zm 52 1<|
 Zm 53 6<|
 Zi 54 1 52 53<|
 Zl 55 1 54<|
 Zb 56 .add 51 55<|
 Zm 5 56 .nil)) .skip)<| .rg (Zm 11 6<|
 Zk 12 .add 11 1<|
 Zm 6 12 .nil))<|Zr (Zm 57 5<|
 Zk 58 .gtr 57 6<|
 Zm 4 58 .nil) .ret⟩
theorem Qam2:Qe Tryz.prog Tryz.f29=some c29:=by kernel_rfl
end Go.Proofs.YtonfajmchebkeaaGreat
namespace Go.FW
open Go
def Qgc(a b:List Int):Bool:=(List.range a.length).all fun i=>decide (eN a i<=eN b i)
theorem Qsn{k:Nat}{a b:List Int}(hb:MB k b):Qgc a b=true↔∀i,eN a i<=eN b i:=by
 unfold Qgc
 rw[List.all_eq_true]
 constructor
 ·intro h i
  by_cases hi:i<a.length
  ·exact of_decide_eq_true (h i (List.mem_range.2 hi))
  ·rw[Qds (by omega)];exact(hb.eN i).1
 ·intro h i _
  exact decide_eq_true (h i)
theorem Q48{a b:List Int}{i:Nat}(hi:i<a.length)(h:¬eN a i<=eN b i):Qgc a b=false:=by
 unfold Qgc
 rw[List.all_eq_false]
 exact⟨i,List.mem_range.2 hi,by simpa using h⟩
theorem Q8m{a b:List Int}(h:∀i,i<a.length->eN a i<=eN b i):Qgc a b=true:=by
 unfold Qgc
 rw[List.all_eq_true]
 intro i hi
 exact decide_eq_true (h i (List.mem_range.1 hi))
def Qb5(a b:List Int):List Int:=Qi8 (Qfb (· - ·) a b)
theorem Qvm(a b:List Int)(i:Nat):eN (Qb5 a b) i=eN a i-eN b i:=by rw[Qb5,Qsd,Qvd (by simp)]
theorem Qp4(a b:List Int):(Qb5 a b).getLast? ≠some 0:=Qn5 _
theorem Qajc{k:Nat}{a b:List Int}{l:Nat}(ha:MB k a)(hb:MB l b)(h:Qgc b a=true):MB k (Qb5 a b):=by
 have hd:=(Qsn ha).1 h
 have hl:(Qb5 a b).length<=64:=by
  have h1:=Qfj (Qfb (· - ·) a b)
  rw[Qbu]at h1
  have:=ha.len
  have:=hb.len
  unfold Qb5;omega
 have key:∀x∈Qb5 a b,∃i,x=eN a i-eN b i:=fun x hx=>by
  obtain⟨i,hi,rfl⟩:=List.getElem_of_mem hx
  exact⟨i,by rw[<-Qvm,Qc0 hi]⟩
 refine⟨hl,fun x hx=> ?_,fun x hx=> ?_⟩
 all_goals
  obtain⟨i,rfl⟩:=key x hx
  have:=hd i
  have:=ha.eN i
  have:=hb.eN i
  omega
theorem Qhm{k l:Nat}{a b:List Int}(ha:MB k a)(hb:MB l b)(hl:a.getLast? ≠some 0)(h:Qgc b a=true):Qak (Qb5 a b) b=a:=
 Qhj (Qe0 _ _) hl fun i=>by rw[Qdt,Qvm];omega
theorem Que(x y:Int)(hy:y≠0):mkRat (zv (decide (x<0) !=decide (y<0)) (dig x.natAbs)) y.natAbs=(x:Rat)/(y:Rat):=by
 rw[Rat.mkRat_eq_div,Qjn,<-Rat.intCast_natCast]
 have h3:(y:Rat)≠0:=by rw[Ne,Rat.intCast_eq_zero_iff];exact hy
 by_cases hy0:y<0
 ·have e2:(((y.natAbs:Nat):Int):Rat)= -(y:Rat):=by rw[<-Rat.intCast_neg];congr 1;omega
  have e1:(if(decide (x<0) !=decide (y<0))=true then -(x.natAbs:Int)else x.natAbs)= -x:=by
   by_cases hx:x<0<;>simp[hx,hy0]<;>omega
  rw[e1,e2,Rat.intCast_neg]
  grind
 ·have e2:(((y.natAbs:Nat):Int):Rat)=(y:Rat):=by congr 1;omega
  have e1:(if(decide (x<0) !=decide (y<0))=true then -(x.natAbs:Int)else x.natAbs)=x:=by
   by_cases hx:x<0<;>simp[hx,hy0]<;>omega
  rw[e1,e2]
theorem Qam3{n m:Bool}{a d b c:List Nat}(hd:val d≠0)(hc:val c≠0)(hb:zv m b≠0):((zv n a*(val c:Int):Int):Rat)/((zv m b*(val d:Int):Int):Rat)=rv n a d/rv m b c:=by
 have h1:((val d:Int):Rat)≠0:=by rw[Ne,Rat.intCast_eq_zero_iff];omega
 have h2:((val c:Int):Rat)≠0:=by rw[Ne,Rat.intCast_eq_zero_iff];omega
 have h3:((zv m b:Int):Rat)≠0:=by rw[Ne,Rat.intCast_eq_zero_iff];exact hb
 unfold rv
 rw[Rat.mkRat_eq_div,Rat.mkRat_eq_div,Rat.intCast_mul,Rat.intCast_mul]
 rw[<-Rat.intCast_natCast,<-Rat.intCast_natCast]
 grind
end Go.FW
namespace Go.FW
open Go
theorem Q0g(x y:Int)(hy:y≠0):rs ((x:Rat)/(y:Rat))<=max (nl x.natAbs) (max (nl y.natAbs) 1):=by
 rw[<-Que x y hy]
 have:=Qn3 (zv (decide (x<0) !=decide (y<0)) (dig x.natAbs)) y.natAbs
 rwa[Qbg,Q2]at this
theorem Q8n(q:Rat)(h:q≠0):rs q⁻¹ <=rs q:=by
 have hn:q.num≠0:=fun e=>h (Rat.num_eq_zero.1 e)
 have e:q⁻¹ =(((q.den:Int):Int):Rat)/((q.num:Int):Rat):=by
  have d1:q=(q.num:Rat)/((q.den:Int):Rat):=by
   conv=>lhs;rw[<-Rat.mkRat_self q]
   rw[Rat.mkRat_eq_div,Rat.intCast_natCast]
  have k1:((q.den:Int):Rat)≠0:=by rw[Ne,Rat.intCast_eq_zero_iff];have:=q.den_nz;omega
  have k3:((q.num:Int):Rat)≠0:=by rw[Ne,Rat.intCast_eq_zero_iff];exact hn
  generalize(q.num:Rat)=A at *
  generalize((q.den:Int):Rat)=D at *
  rw[d1]
  grind
 have h2:=Q0g (q.den:Int) q.num hn
 have h3:=Qzd q
 rw[e]
 unfold rs at h3⊢
 unfold rs at h2
 rw[Int.natAbs_natCast]at h2
 have h4:1<=nl q.den:=by
  have:=q.den_nz
  apply Decidable.byContradiction;intro hc
  exact this (Qgw.1 (by omega))
 omega
end Go.FW
namespace Go.FW
open Go
def hdT(p:List Tm):Tm:=p.headD (0,[])
theorem Qm8{p:List Tm}(h:0<p.length):p[0]=hdT p:=by cases p with
 |nil=>simp at h
 |cons t p=>rfl
theorem Qau{p:List Tm}(h:p≠[]):hdT p∈p:=by cases p with
 |nil=>exact absurd rfl h
 |cons t p=>simp[hdT]
def exT(q p:List Tm):Tm:=((hdT p).1/(hdT q).1,Qb5 (hdT p).2 (hdT q).2)
def exN(q p:List Tm):List Tm:=Qlb p (Qu [exT q p] q)
def exP(q p:List Tm):Nat->List Tm
 |0=>p
 |k+1=>exN q (exP q p k)
def exQ(q p:List Tm):Nat->List Tm
 |0=>[]
 |k+1=>exQ q p k++[exT q (exP q p k)]
def Qfd(q p:List Tm):Prop:=p≠[]/\Qgc (hdT q).2 (hdT p).2=true
def exR(q p:List Tm)(k:Nat):PV:=if exP q p k=[]then .tup [PV.poly (exQ q p k),.bool true]else .tup [PV.poly [],.bool false]
theorem Qqz(q p:List Tm):∀k,(exQ q p k).length=k
 |0=>rfl
 |k+1=>by rw[exQ,List.length_append,Qqz q p k];rfl
theorem Qkh{p:List Tm}(hs:Qbe p):∀t∈p,t=hdT p∨Qah t.2 (hdT p).2<0:=by
 cases p with
 |nil=>intro t ht;cases ht
 | cons x p=>
  intro t ht
  rcases List.mem_cons.1 ht with rfl|ht
  ·exact .inl rfl
  ·right
   have:=hs.1 t ht
   have e:=Qc8 x.2 t.2
   show Qah t.2 x.2<0
   omega
theorem Q2w{q p:List Tm}(np:Nrm p)(nq:Nrm q)(hp:p≠[])(hq:q≠[]):Nrm [exT q p]:=by
 refine Nrm.one ?_ (Qp4 _ _)
 have h1:=np.z _ (Qau hp)
 have h2:=nq.z _ (Qau hq)
 show(hdT p).1/(hdT q).1≠0
 grind
theorem Qjb(t:Tm):Qbe [t]:=⟨by simp,trivial⟩
theorem Qm9{q p:List Tm}(np:Nrm p)(nq:Nrm q):Nrm (exN q p):=
 Qsi np (Qa1 (Qjb _) nq.s)
theorem Qna{q p:List Tm}(np:Nrm p)(nq:Nrm q):∀k,Nrm (exP q p k)
 |0=>np
 |k+1=>Qm9 (Qna np nq k) nq
theorem Qpa{t:Tm}{q:List Tm}(φ:List Int->Rat):pev φ (Qu [t] q)=t.1*pev (fun m=>φ (Qak t.2 m)) q:=by
 rw[Qb4,Qat,Qce,Rat.add_zero]
theorem Q0h{t x:Tm}{q:List Tm}(h:x∈Qu [t] q):∃s∈q,x.2=Qak t.2 s.2:=by
 obtain⟨a,ha,b,hb,e⟩:=Qoq h
 obtain rfl:a=t:=by simpa using ha
 exact⟨b,hb,e⟩
theorem Qq0{q p:List Tm}(np:Nrm p)(nq:Nrm q)(φ:List Int->Rat):pev φ (exN q p)=pev φ p-(exT q p).1*pev (fun m=>φ (Qak (exT q p).2 m)) q:=by
 rw[exN,Qoo φ np.c (Qa1 (Qjb _) nq.s),Qpa]
theorem Q0i{q p:List Tm}{K E:Nat}(bp:PB K E p)(bq:PB K E q)(np:Nrm p)(nq:Nrm q)(hq:q≠[])(hg:Qfd q p):∀t∈exN q p,Qah t.2 (hdT p).2<0:=by
 intro t ht
 obtain⟨hp,hd⟩:=hg
 have hpm:=Qau hp
 have hqm:=Qau hq
 have hmul:Qak (exT q p).2 (hdT q).2=(hdT p).2:=Qhm (bp _ hpm).m (bq _ hqm).m (bp _ hpm).l hd
 have nt:=Q2w np nq hp hq
 have hnN:Nrm (exN q p):=Qm9 np nq
 have hle:t.2=(hdT p).2∨Qah t.2 (hdT p).2<0:=by
  rcases Qact (Qa1 nt.s nq.s).c ht with⟨s,hs,e⟩|⟨s,hs,e⟩
  ·rw[<-e]
   rcases Qkh np.s s hs with rfl|h
   ·exact .inl rfl
   ·exact .inr h
  ·obtain⟨b,hb,e2⟩:=Q0h hs
   rw[<-e,e2,<-hmul]
   rcases Qkh nq.s b hb with rfl|h
   ·exact .inl rfl
   ·right;rw[Qdq _ b.2,Qdq _ (hdT q).2,Qla];exact h
 rcases hle with he|h
 ·exfalso
  have h1:=Qq0 np nq (fun m=>if m=t.2 then 1 else 0)
  have h2:=Qhk (φ:=fun m=>if m=t.2 then 1 else 0) hnN.s ht (fun s hs hne=>by
   rw[if_neg];intro e;exact hne (Qor hnN.s hs ht e))
  have h3:=Qhk (φ:=fun m=>if m=t.2 then 1 else 0) np.s hpm (fun s hs hne=>by
   rw[if_neg];intro e;exact hne (Qor np.s hs hpm (e.trans he)))
  have h4:=Qhk (φ:=fun m=>if Qak (exT q p).2 m=t.2 then 1 else 0) nq.s hqm (fun s hs hne=>by
   rw[if_neg];intro e
   rcases Qkh nq.s s hs with h|h
   ·exact hne h
   ·rw[he,<-hmul]at e
    have:=Qla s.2 (hdT q).2 (exT q p).2
    rw[Qdq s.2,Qdq (hdT q).2,e,Ql3]at this
    omega)
  rw[h2,h3,h4]at h1
  rw[if_pos rfl,if_pos he.symm,if_pos (hmul.trans he.symm)]at h1
  have h5:t.1=0:=by
   have e:(exT q p).1*(hdT q).1=(hdT p).1:=by
    have:=nq.z _ hqm
    show(hdT p).1/(hdT q).1*(hdT q).1=_
    grind
   grind
  exact hnN.z t ht h5
 ·exact h
theorem Qam4{q p:List Tm}{K E:Nat}(bp:PB K E p)(bq:PB K E q)(np:Nrm p)(nq:Nrm q)(hq:q≠[])(hg:Qfd q p)(bn:PB K E (exN q p))(hg2:Qfd q (exN q p)):Qah (exT q (exN q p)).2 (exT q p).2<0:=by
 have h:=Q0i bp bq np nq hq hg _ (Qau hg2.1)
 have e1:=Qhm (bp _ (Qau hg.1)).m (bq _ (Qau hq)).m (bp _ (Qau hg.1)).l hg.2
 have e2:=Qhm (bn _ (Qau hg2.1)).m (bq _ (Qau hq)).m (bn _ (Qau hg2.1)).l hg2.2
 rw[<-e1,<-e2,Qla]at h
 exact h
theorem Qp5:∀ {l:List Tm} {t:Tm},Qbe l->(∀s∈l,0<Qah s.2 t.2)->Qbe (l++[t])
 | [],t,_,_=>⟨by simp,trivial⟩
 | x::l,t,h,ht=>⟨fun s hs=>by
   rcases List.mem_append.1 hs with hs|hs
   ·exact h.1 s hs
   ·obtain rfl:s=t:=by simpa using hs
    exact ht x (by simp),Qp5 h.2 (fun s hs=>ht s (by simp[hs]))⟩
theorem Q2x{q p:List Tm}{K E k0:Nat}(bq:PB K E q)(np:Nrm p)(nq:Nrm q)(hq:q≠[])(hb:∀k,k<=k0->PB K E (exP q p k))(hgo:∀k,k<k0->Qfd q (exP q p k)):
  ∀k,k<=k0->Nrm (exQ q p k)/\∀j,k=j+1->∀s∈exQ q p k,s=exT q (exP q p j)∨0<Qah s.2 (exT q (exP q p j)).2
 |0,_=>⟨Nrm.nil,fun j h=>by omega⟩
 | k +1,h=>by
  obtain⟨h1,h2⟩:=Q2x bq np nq hq hb hgo k (by omega)
  have hlt:∀s∈exQ q p k,0<Qah s.2 (exT q (exP q p k)).2:=by
   intro s hs
   cases k with
   |zero=>cases hs
   | succ k=>
    have h3:=Qam4 (hb k (by omega)) bq (Qna np nq k) nq hq (hgo k (by omega)) (hb (k+1) (by omega)) (hgo (k+1) (by omega))
    have h3':Qah (exT q (exP q p (k+1))).2 (exT q (exP q p k)).2<0:=h3
    rcases h2 k rfl s hs with rfl|h4
    ·have e:=Qc8 (exT q (exP q p (k+1))).2 (exT q (exP q p k)).2
     omega
    ·have e:=Qc8 s.2 (exT q (exP q p k)).2
     have e2:=Qc8 (exT q (exP q p (k+1))).2 s.2
     have:=Qts h3' (b:=(exT q (exP q p k)).2) (c:=s.2) (by omega)
     omega
  have hn:=Q2w (Qna np nq k) nq (hgo k (by omega)).1 hq
  refine⟨⟨fun t ht=> ?_,fun t ht=> ?_,Qp5 h1.s hlt⟩,fun j hj s hs=> ?_⟩
  ·rcases List.mem_append.1 ht with ht|ht
   ·exact h1.c t ht
   ·exact hn.c t ht
  ·rcases List.mem_append.1 ht with ht|ht
   ·exact h1.z t ht
   ·exact hn.z t ht
  ·obtain rfl:j=k:=by omega
   rcases List.mem_append.1 hs with hs|hs
   ·exact .inr (hlt s hs)
   ·exact .inl (by simpa using hs)
theorem Qam5{q p:List Tm}{K E:Nat}(bp:PB K E p)(bq:PB K E q)(nq:Nrm q)(hq:q≠[])(hg:Qfd q p):TB (K+K) E (exT q p):=by
 have h1:=bp _ (Qau hg.1)
 have h2:=bq _ (Qau hq)
 refine⟨?_,Qajc h1.m h2.m hg.2,Qp4 _ _⟩
 have h3:=Qtq (hdT p).1 (hdT q).1⁻¹
 have h4:=Q8n (hdT q).1 (nq.z _ (Qau hq))
 have c1:=h1.c
 have c2:=h2.c
 show rs ((hdT p).1/(hdT q).1)+1<=K+K
 rw[Rat.div_def]
 omega
end Go.FW
namespace Go.FW
open Go
def Qbd(c:Rat):Rat:=if c<0 then -c else c
theorem Qby(c:Rat):0<=Qbd c:=by unfold Qbd;grind
theorem Q0j(a b:Rat):Qbd (a+b)<=Qbd a+Qbd b:=by unfold Qbd;grind
theorem Qhn(a b:Rat):Qbd (a*b)=Qbd a*Qbd b:=by
 have pos:∀x:Rat,0<=x->Qbd x=x:=fun x h=>by unfold Qbd;grind
 have neg:∀x:Rat,x<=0->Qbd x= -x:=fun x h=>by unfold Qbd;grind
 rcases Decidable.em (0<=a)with ha|ha<;>rcases Decidable.em (0<=b)with hb|hb
 ·rw[pos _ (Rat.mul_nonneg ha hb),pos _ ha,pos _ hb]
 ·have h:=Rat.mul_nonneg ha (show 0<= -b by grind)
  rw[neg (a*b) (by grind),pos _ ha,neg b (by grind)];grind
 ·have h:=Rat.mul_nonneg (show 0<= -a by grind) hb
  rw[neg (a*b) (by grind),neg a (by grind),pos _ hb];grind
 ·have h:=Rat.mul_nonneg (show 0<= -a by grind) (show 0<= -b by grind)
  rw[pos (a*b) (by grind),neg a (by grind),neg b (by grind)];grind
theorem Qix(z:Int):Qbd (z:Rat)=((z.natAbs:Nat):Rat):=by
 rw[<-Rat.intCast_natCast]
 unfold Qbd
 split
 ·rename_i h
  have h':z<0:=by have:=(Rat.intCast_lt_intCast (a:=z) (b:=0)).1 (by simpa using h);exact this
  rw[<-Rat.intCast_neg];congr 1;omega
 ·rename_i h
  have h':¬z<0:=fun hz=>h (by have:=(Rat.intCast_lt_intCast (a:=z) (b:=0)).2 hz;simpa using this)
  congr 1;omega
def psi(m:List Int):Nat:=(eN m 3).toNat*729+(eN m 2).toNat*81+(eN m 1).toNat*9+(eN m 0).toNat
theorem Qnb{a b:List Int}(ha:∀i,0<=eN a i)(hb:∀i,0<=eN b i):psi (Qak a b)=psi a+psi b:=by
 have a0:=ha 0;have a1:=ha 1;have a2:=ha 2;have a3:=ha 3
 have b0:=hb 0;have b1:=hb 1;have b2:=hb 2;have b3:=hb 3
 simp only[psi,Qdt]
 omega
theorem Q2y:psi []=0:=rfl
theorem Qw5{a b:List Int}(h:Qah a b=0):psi a=psi b:=by
 have key:∀i,eN a i=eN b i:=fun i=>by
  by_cases hi:i<max a.length b.length
  ·exact(Qjp a b _).1 h i hi
  ·rw[Qds (by omega),Qds (by omega)]
 simp only[psi,key]
theorem cmp4{a b:List Int}(ha:a.length<=4)(hb:b.length<=4):Qah a b=Qch a b 4:=(Qiu (by omega)).symm
theorem Qvn{a b:List Int}(ha:a.length<=4)(hb:b.length<=4)(h:Qah a b<0):
  eN a 3<eN b 3∨(eN a 3=eN b 3/\(eN a 2<eN b 2∨(eN a 2=eN b 2/\(eN a 1<eN b 1∨(eN a 1=eN b 1/\eN a 0<eN b 0))))):=by
 rw[cmp4 ha hb]at h
 simp only[Qch]at h
 have z3:=Qkq (x:=eN a 3) (y:=eN b 3)
 have z2:=Qkq (x:=eN a 2) (y:=eN b 2)
 have z1:=Qkq (x:=eN a 1) (y:=eN b 1)
 have z0:=Qkq (x:=eN a 0) (y:=eN b 0)
 by_cases e3:eN a 3=eN b 3
 ·rw[if_pos e3]at h
  refine .inr ⟨e3,?_⟩
  by_cases e2:eN a 2=eN b 2
  ·rw[if_pos e2]at h
   refine .inr ⟨e2,?_⟩
   by_cases e1:eN a 1=eN b 1
   ·rw[if_pos e1]at h
    refine .inr ⟨e1,?_⟩
    by_cases e0:eN a 0=eN b 0
    ·rw[if_pos e0]at h;omega
    ·rw[if_neg e0]at h;exact z0.1 h
   ·rw[if_neg e1]at h;exact .inl (z1.1 h)
  ·rw[if_neg e2]at h;exact .inl (z2.1 h)
 ·rw[if_neg e3]at h;exact .inl (z3.1 h)
theorem Qam6{a b:List Int}(ha:MB 8 a)(hb:MB 8 b)(la:a.length<=4)(lb:b.length<=4)(h:Qah a b<0):psi a<psi b:=by
 have a0:=ha.eN 0;have a1:=ha.eN 1;have a2:=ha.eN 2;have a3:=ha.eN 3
 have b0:=hb.eN 0;have b1:=hb.eN 1;have b2:=hb.eN 2;have b3:=hb.eN 3
 have:=Qvn la lb h
 simp only[psi]
 omega
def nW(W:Rat):List Tm->Rat
 | []=>0
 |t::p=>Qbd t.1*W^psi t.2+nW W p
theorem Qho(W:Rat)(m:Nat):∀n:Nat,W^(m+n)=W^m*W^n
 |0=>by rw[Nat.add_zero,Rat.pow_zero,Rat.mul_one]
 |n+1=>by rw[<-Nat.add_assoc,Rat.pow_succ,Qho W m n,Rat.pow_succ,Rat.mul_assoc]
theorem Qe3{W:Rat}(h:0<=W):∀n:Nat,0<=W^n
 |0=>by rw[Rat.pow_zero];decide
 |n+1=>by rw[Rat.pow_succ];exact Rat.mul_nonneg (Qe3 h n) h
theorem Qox{W:Rat}(h:1<=W):∀n:Nat,1<=W^n
 |0=>by rw[Rat.pow_zero];decide
 |n+1=>by
  rw[Rat.pow_succ]
  have h1:=Qox h n
  have:=Rat.mul_le_mul_of_nonneg_right h1 (show(0:Rat)<=W by grind)
  grind
theorem Q0k{W:Rat}(h:1<=W){m n:Nat}(hm:m<=n):W^m<=W^n:=by
 obtain⟨k,rfl⟩:∃k,n=m+k:=⟨n-m,by omega⟩
 rw[Qho]
 have h1:=Qox h k
 have h2:=Qe3 (show(0:Rat)<=W by grind) m
 have:=Rat.mul_le_mul_of_nonneg_left h1 h2
 grind
theorem Qf9{W:Rat}(h:0<=W)(c:Rat)(m:List Int):0<=Qbd c*W^psi m:=Rat.mul_nonneg (Qby c) (Qe3 h _)
theorem Qw6{W:Rat}(h:0<=W):∀p,0<=nW W p
 | []=>by simp only[nW];decide
 |t::p=>by
  have h1:=Qf9 h t.1 t.2
  have h2:=Qw6 h p
  simp only[nW];grind
theorem Qajd{W:Rat}(h:0<=W)(p q:List Tm):nW W (Qy p q)<=nW W p+nW W q:=by
 induction p,q using Qy.induct with
 |case1 q=>rw[Qei];simp only[nW];grind
 |case2 p hp=>rw[Qca];simp only[nW];grind
 |case3 c m p d l q h1 ih=>rw[Qy,if_pos h1];simp only[nW]at ih ⊢;grind
 |case4 c m p d l q h1 h2 ih=>rw[Qy,if_neg h1,if_pos h2];simp only[nW]at ih ⊢;grind
 |case5 c m p d l q h1 h2 h3 ih=>
  rw[Qy,if_neg h1,if_neg h2,if_pos h3]
  have g1:=Qf9 h c m
  have g2:=Qf9 h d l
  simp only[nW]at ih ⊢;grind
 |case6 c m p d l q h1 h2 h3 ih=>
  rw[Qy,if_neg h1,if_neg h2,if_neg h3]
  have e:psi m=psi l:=Qw5 (by omega)
  have g:=Rat.mul_le_mul_of_nonneg_right (Q0j c d) (Qe3 h (psi m))
  simp only[nW]at ih⊢
  rw[<-e]
  grind
def Pos(p:List Tm):Prop:=∀t∈p,∀i,0<=eN t.2 i
theorem Qp6{W:Rat}(h:0<=W){t:Tm}(ht:∀i,0<=eN t.2 i):∀ {p:List Tm},Pos p->nW W (Q3 p t)<=Qbd t.1*W^psi t.2*nW W p
 | [],_=>by simp only[Q3,List.filterMap_nil,nW];grind
 | x::p,hp=>by
  have ih:=Qp6 h ht (p:=p) (fun s hs=>hp s (by simp[hs]))
  have hx:=hp x (by simp)
  have e1:nW W (Q3 (x::p) t)<=Qbd (x.1*t.1)*W^psi (Qak x.2 t.2)+nW W (Q3 p t):=by
   have g:=Qf9 h (x.1*t.1) (Qak x.2 t.2)
   unfold Q3
   rw[List.filterMap_cons]
   by_cases hz:x.1*t.1=0
   ·rw[if_pos hz];grind
   ·rw[if_neg hz];simp only[nW];grind
  rw[Qnb hx ht,Qhn,Qho]at e1
  simp only[nW]
  grind
def IsI(c:Rat):Prop:=∃z:Int,c=(z:Rat)
theorem IsI.add{a b:Rat}:IsI a->IsI b->IsI (a+b):=fun⟨x,hx⟩ ⟨y,hy⟩=>⟨x+y,by rw[hx,hy,Rat.intCast_add]⟩
theorem IsI.mul{a b:Rat}:IsI a->IsI b->IsI (a*b):=fun⟨x,hx⟩ ⟨y,hy⟩=>⟨x*y,by rw[hx,hy,Rat.intCast_mul]⟩
theorem IsI.neg{a:Rat}:IsI a->IsI (-a):=fun⟨x,hx⟩=>⟨-x,by rw[hx,Rat.intCast_neg]⟩
theorem IsI.nat(n:Nat):IsI (n:Rat):=⟨n,(Rat.intCast_natCast n).symm⟩
theorem IsI.pow{a:Rat}(h:IsI a):∀n:Nat,IsI (a^n)
 |0=>⟨1,by rw[Rat.pow_zero];rfl⟩
 |n+1=>by rw[Rat.pow_succ];exact(IsI.pow h n).mul h
def IW(D F:Rat)(N:Nat)(p:List Tm):Prop:=∀t∈p,psi t.2<=N/\IsI (t.1*(D*F^(N-psi t.2)))
theorem IW.cons{D F:Rat}{N:Nat}{t:Tm}{p:List Tm}:IW D F N (t::p)↔(psi t.2<=N/\IsI (t.1*(D*F^(N-psi t.2))))/\IW D F N p:=by simp[IW]
theorem Qaje{D F:Rat}{N:Nat}(p q:List Tm):IW D F N p->IW D F N q->IW D F N (Qy p q):=by
 induction p,q using Qy.induct with
 |case1 q=>intro _ h;rwa[Qei]
 |case2 p hp=>intro h _;rwa[Qca]
 |case3 c m p d l q h1 ih=>intro hp hq;rw[Qy,if_pos h1,IW.cons];rw[IW.cons]at hp;exact⟨hp.1,ih hp.2 hq⟩
 |case4 c m p d l q h1 h2 ih=>intro hp hq;rw[Qy,if_neg h1,if_pos h2,IW.cons];have hq':=IW.cons.1 hq;exact⟨hq'.1,ih hp hq'.2⟩
 |case5 c m p d l q h1 h2 h3 ih=>intro hp hq;rw[Qy,if_neg h1,if_neg h2,if_pos h3];exact ih (IW.cons.1 hp).2 (IW.cons.1 hq).2
 |case6 c m p d l q h1 h2 h3 ih=>
  intro hp hq
  rw[Qy,if_neg h1,if_neg h2,if_neg h3,IW.cons]
  have e:psi m=psi l:=Qw5 (by omega)
  obtain⟨⟨a1,a2⟩,a3⟩:=IW.cons.1 hp
  obtain⟨⟨b1,b2⟩,b3⟩:=IW.cons.1 hq
  refine⟨⟨a1,?_⟩,ih a3 b3⟩
  simp only at a2 b2⊢
  rw[<-e]at b2
  rw[Rat.add_mul]
  exact a2.add b2
theorem Qw7{D F:Rat}{N:Nat}{t:Tm}{p:List Tm}(h:∀s∈p,psi (Qak s.2 t.2)<=N/\IsI (s.1*t.1*(D*F^(N-psi (Qak s.2 t.2))))):IW D F N (Q3 p t):=by
 intro x hx
 simp only[Q3,List.mem_filterMap]at hx
 obtain⟨s,hs,e⟩:=hx
 split at e
 ·cases e
 ·obtain rfl:(s.1*t.1,Qak s.2 t.2)=x:=by simpa using e
  exact h s hs
theorem Qvo(t:Tm)(q:List Tm):Qu [t] q=Q3 q t:=by
 unfold Qu
 split
 ·rename_i h
  have:q=[]:=by simpa using h
  subst this
  simp[Qgh,Qba,Q3]
 ·simp[Qgh,Qba]
theorem Q49(p:List Tm):Qob p=Q3 p (-1,[]):=by rw[Qob,Qal,if_neg (by decide)]
theorem Qaee{x y:Tm}{p q:List Tm}{K E:Nat}(bp:PB K E (x::p))(bq:PB K E (y::q))(np:Nrm (x::p))(nq:Nrm (y::q))(hd:Qgc y.2 x.2=true):
  exN (y::q) (x::p)=Qlb p (Qu [(x.1/y.1,Qb5 x.2 y.2)] q):=by
 have hy:=nq.z y (by simp)
 have hm:Qak (Qb5 x.2 y.2) y.2=x.2:=Qhm (bp x (by simp)).m (bq y (by simp)).m (bp x (by simp)).l hd
 have nT:Nrm (Qu [(x.1/y.1,Qb5 x.2 y.2)] q):=Qa1 (Qjb _) nq.tail.s
 refine Qex (Qm9 np nq) (Qsi np.tail nT) fun φ=> ?_
 rw[Qq0 np nq,Qoo φ np.tail.c nT,Qpa]
 show pev φ (x::p)-x.1/y.1*pev (fun m=>φ (Qak (Qb5 x.2 y.2) m)) (y::q)=pev φ p-x.1/y.1*pev (fun m=>φ (Qak (Qb5 x.2 y.2) m)) q
 rw[Qat,Qat,hm]
 generalize φ x.2=a
 generalize pev φ p=b
 generalize pev (fun m=>φ (Qak (Qb5 x.2 y.2) m)) q=c
 grind
structure QOk(F W:Rat)(y:Tm)(q:List Tm):Prop where
 w:1<=W
 f:IsI F
 lt:∀s∈q,psi s.2<psi y.2
 i:∀s∈q,IsI (s.1/y.1*F)
 n:nW W q<=Qbd y.1*W^psi y.2
 pos:Pos (y::q)
 ml:ML 4 (y::q)
theorem Q0l{k l:Nat}{a b:List Int}(ha:MB k a)(hb:MB l b)(h:Qgc b a=true):∀i,0<=eN (Qb5 a b) i:=fun i=>by
 rw[Qvm];have:=(Qsn ha).1 h i;omega
theorem Qam7{D F W:Rat}{N:Nat}{x y:Tm}{p q:List Tm}{K E:Nat}(hQ:QOk F W y q)(bp:PB K E (x::p))(bq:PB K E (y::q))(np:Nrm (x::p))(nq:Nrm (y::q))(hd:Qgc y.2 x.2=true)
  (hI:IW D F N (x::p)) (hP:Pos (x::p)) (hM:ML 4 (x::p)):
  IW D F N (exN (y::q) (x::p))/\nW W (exN (y::q) (x::p))<=nW W (x::p)/\Pos (exN (y::q) (x::p))/\ML 4 (exN (y::q) (x::p)):=by
 have hW0:0<=W:=by have:=hQ.w;grind
 have hy0:=nq.z y (by simp)
 have hxm:=(bp x (by simp)).m
 have hym:=(bq y (by simp)).m
 have hm:Qak (Qb5 x.2 y.2) y.2=x.2:=Qhm hxm hym (bp x (by simp)).l hd
 have htp:=Q0l hxm hym hd
 have hpsi:psi x.2=psi (Qb5 x.2 y.2)+psi y.2:=by
  conv=>lhs;rw[<-hm]
  exact Qnb htp (hQ.pos y (by simp))
 have hql:(Qb5 x.2 y.2).length<=4:=by
  have h1:=Qfj (Qfb (· - ·) x.2 y.2)
  rw[Qbu]at h1
  have:=hM x (by simp)
  have:=hQ.ml y (by simp)
  unfold Qb5;omega
 have hqP:Pos q:=fun s hs=>hQ.pos s (by simp[hs])
 obtain⟨⟨i1,i2⟩,i3⟩:=IW.cons.1 hI
 have hn1:∀i,0<=eN ((-1:Rat),([]:List Int)).2 i:=fun i=>by rw[Qzj];omega
 have posT:Pos (Q3 q (x.1/y.1,Qb5 x.2 y.2)):=fun t ht i=>by
  obtain⟨s,hs,e⟩:=Qgz ht
  rw[e,Qdt]
  have:=hqP s hs i
  have:=htp i
  simp only;omega
 rw[Qaee bp bq np nq hd,Qlb,Qvo,Q49]
 refine⟨?_,?_,?_,?_⟩
 ·refine Qaje _ _ i3 (Qw7 fun u hu=> ?_)
  obtain⟨a1,a2⟩:=(Qw7 (D:=D) (F:=F) (N:=N) (t:=(x.1/y.1,Qb5 x.2 y.2)) (p:=q) fun s hs=>by
   have hlt:=hQ.lt s hs
   have e:=Qnb (hqP s hs) htp
   refine⟨by simp only;omega,?_⟩
   simp only
   rw[e,show N-(psi s.2+psi (Qb5 x.2 y.2))=(N-psi x.2)+(1+(psi y.2-psi s.2-1))by omega,Qho,Qho,show F^1=F by rw[Rat.pow_succ,Rat.pow_zero,Rat.one_mul]]
   have:=(i2.mul (hQ.i s hs)).mul (hQ.f.pow (psi y.2-psi s.2-1))
   have e2:s.1*(x.1/y.1)*(D*(F^(N-psi x.2)*(F*F^(psi y.2-psi s.2-1))))=x.1*(D*F^(N-psi x.2))*(s.1/y.1*F)*F^(psi y.2-psi s.2-1):=by
    generalize F^(N-psi x.2)=A
    generalize F^(psi y.2-psi s.2-1)=B
    grind
   rw[e2];exact this) u hu
  have e:=Qnb (posT u hu) hn1
  rw[Q2y,Nat.add_zero]at e
  rw[e]
  refine⟨a1,?_⟩
  have:=a2.neg
  have e2:u.1* -1*(D*F^(N-psi u.2))= -(u.1*(D*F^(N-psi u.2))):=by grind
  rw[e2];exact this
 ·have h1:=Qajd hW0 p (Q3 (Q3 q (x.1/y.1,Qb5 x.2 y.2)) (-1,[]))
  have h2:=Qp6 hW0 (t:=(-1,[])) hn1 posT
  have h3:=Qp6 hW0 (t:=(x.1/y.1,Qb5 x.2 y.2)) htp hqP
  have h4:Qbd (-1)*W^psi ([]:List Int)=1:=by rw[Q2y,Rat.pow_zero];decide+kernel
  simp only at h2 h3
  rw[h4,Rat.one_mul]at h2
  have h5:=Rat.mul_le_mul_of_nonneg_left hQ.n (Rat.mul_nonneg (Qby (x.1/y.1)) (Qe3 hW0 (psi (Qb5 x.2 y.2))))
  have h6:Qbd (x.1/y.1)*W^psi (Qb5 x.2 y.2)*(Qbd y.1*W^psi y.2)=Qbd x.1*W^psi x.2:=by
   rw[hpsi,Qho]
   have:Qbd x.1=Qbd (x.1/y.1)*Qbd y.1:=by rw[<-Qhn];congr 1;grind
   rw[this]
   grind
  rw[h6]at h5
  simp only[nW]
  grind
 ·intro t ht i
  rcases Qf1 ht with h|⟨s,hs,e⟩
  ·obtain⟨s,hs,e⟩:=h
   rw[<-e];exact hP s (by simp[hs]) i
  ·obtain⟨u,hu,e2⟩:=Qgz hs
   rw[<-e,e2,Qdt,Qzj]
   have:=posT u hu i
   omega
 ·intro t ht
  rcases Qf1 ht with h|⟨s,hs,e⟩
  ·obtain⟨s,hs,e⟩:=h
   rw[<-e];exact hM s (by simp[hs])
  ·obtain⟨u,hu,e2⟩:=Qgz hs
   obtain⟨r,hr,e3⟩:=Qgz hu
   rw[<-e,e2]
   have l1:=Qop u.2 ((-1:Rat),([]:List Int)).2
   have l2:=Qop r.2 (x.1/y.1,Qb5 x.2 y.2).2
   rw[e3]at l1⊢
   have:=hQ.ml r (by simp[hr])
   simp only[List.length_nil]at l1 l2⊢
   omega
end Go.FW
