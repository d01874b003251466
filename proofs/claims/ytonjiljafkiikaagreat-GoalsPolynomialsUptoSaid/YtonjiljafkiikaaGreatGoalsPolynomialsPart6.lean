/- Part 6 of the proof of GoalsPolynomials: CS3, CS2, CS, S1, S2, S3, S4, S5, S6, S7, S8, S9, CM, R3, R4, M1, M2, T1, T1b, T1c, T1d, U1, CP, P1, P2, U2, P3, P4, U3, CU, FwNH, FwNI, FwNJ, FwVB, FwVC, FwYA. Own lemmas; no conditions. -/
import Derived.Test.YtonjiljafkiikaaGreatGoalsPolynomialsPart5
set_option maxHeartbeats 1000000
set_option linter.unusedSimpArgs false
set_option linter.unusedVariables false
set_option linter.unnecessarySimpa false
set_option maxRecDepth 100000
namespace Go.Proofs.YtonjiljafkiikaaGreat
open Go Go.FW
def Em:az:=⟨92,[.t 4],Zr (Zo (.mv 4 (.c .aa)) .nil)<|Zr (Zo (.mv 5 (.c .aa)) .nil)<|Zr (Zc 6 0<|
 Zc 7 0 .nil)<| .seq (.block 0<| .loop<| .seq (Zr (Zm 10 6<|
 Zm 11 0<|
 Zn 12 11<|
 Zb 13 .lss 10 12<|
 Zm 14 13<|
 Zg 14 false (.mv 15 (.t 7))<|
 Zg 14 false (.mv 16 (.t 1))<|
 Zg 14 false (.len 17 (.t 16))<|
 Zg 14 false (.bin 18 .lss false (.t 15) (.t 17))<|
 Zo (.pick 19 (.t 14) (.c (.bool true)) (.t 18)) .nil)<| .cond (.t 19) .skip (.exit 0))<| .block 1<|Zr (Zc 8 1 .nil)<| .seq (Zr (Zm 20 6<|
 Zm 21 0<|
 Zn 22 21<|
 Zb 23 .eql 20 22 .nil)<| .cond (.t 23) (.rg (Zc 8 (-1) .nil)) (Zr (Zm 24 7<|
 Zm 25 1<|
 Zn 26 25<|
 Zb 27 .lss 24 26 .nil)<| .cond (.t 27) (.rg (Zm 28 0<|
 Zm 29 6<|
 Zi 30 4 28 29<|
 Zf 31 3 30<|
 Zl 32 1 31<|
 Zm 33 1<|
 Zm 34 7<|
 Zi 35 4 33 34<|
 Zf 36 3 35<|
 Zl 37 1 36<|
 Zq 38 false 75 [.t 32,.t 37,.c (Zz 0)]<|
 Zm 8 38 .nil)) .skip))<| .block 2<|Zr (Zm 68 8<|
 Zk 69 .gtr 68 0<|
 Zm 67 69 .nil)<| .cond (.t 67) (Zr (Zm 70 5<|
 Zm 71 0<|
 Zm 72 6<|
 Zi 73 4 71 72<|
 Zh 74 4 73<|
 Zo (.bs 75 4 104 [.t 74])<|
 Zo (.app 76 4 80 104 (.t 70) (.t 75))<|
 Zm 5 76 .nil)<| .rg (Zm 77 6<|
 Zk 78 .add 77 1<|
 Zm 6 78 .nil)) (Zr (Zm 80 8<|
 Zk 81 .lss 80 0<|
 Zm 79 81 .nil)<| .cond (.t 79) (Zr (Zm 82 5<|
 Zm 83 1<|
 Zm 84 7<|
 Zi 85 4 83 84<|
 Zh 86 4 85<|
 Zo (.bs 87 4 104 [.t 86])<|
 Zo (.app 88 4 80 104 (.t 82) (.t 87))<|
 Zm 5 88 .nil)<| .rg (Zm 89 7<|
 Zk 90 .add 89 1<|
 Zm 7 90 .nil)) (.seq (Zr (Zm 39 0<|
 Zm 40 6<|
 Zi 41 4 39 40<|
 Zf 42 0 41<|
 Zh 43 3 42<|
 Zm 44 1<|
 Zm 45 7<|
 Zi 46 4 44 45<|
 Zf 47 0 46<|
 Zh 48 3 47<|
 .br (Zq 49 true 41 [.t 43,.t 48]<|
 Zo (.alloc 9 3 32 (.agg [.bool false,.aa,.aa]))<|
 Zs 3 9 49 .nil) (Zo (.alloc 9 3 32 (.agg [.bool false,.aa,.aa]))<|
 Zq 49 true 41 [.t 43,.t 48]<|
 Zs 3 9 49 .nil))<|Zr (Zh 50 3 9<|
 Zq 51 false 109 [.t 50]<|
 Zk 52 .neq 51 0 .nil)<| .cond (.t 52) (.rg (Zm 53 5<|
 Zh 54 3 9<|
 Zm 55 0<|
 Zm 56 6<|
 Zi 57 4 55 56<|
 Zf 58 3 57<|
 Zl 59 1 58<|
 Zo (.cw 60 [.bool false,.aa,.aa,.aa] [(0,3,.t 54),(3,1,.t 59)])<|
 Zo (.bs 61 4 104 [.t 60])<|
 Zo (.app 62 4 80 104 (.t 53) (.t 61))<|
 Zm 5 62 .nil)) .skip)<|Zr (Zm 63 6<|
 Zk 64 .add 63 1<|
 Zm 6 64 .nil)<| .rg (Zm 65 7<|
 Zk 66 .add 65 1<|
 Zm 7 66 .nil))))<|Zr (Zm 91 5<|
 Zm 4 91 .nil) .ret⟩
theorem Wy:Qe Tryz.prog Tryz.f50=some Em:=by kernel_rfl
def Ea:az:=⟨58,[.t 4],Zr (Zc 4 0 .nil)<| .seq (Zr (Zc 5 0 .nil)<| .block 0<| .loop<| .seq (Zr (Zm 8 5<|
 Zm 9 0<|
 Zn 10 9<|
 Zb 11 .lss 8 10<|
 Zm 12 11<|
 Zg 12 true (.mv 13 (.t 5))<|
 Zg 12 true (.mv 14 (.t 1))<|
 Zg 12 true (.len 15 (.t 14))<|
 Zg 12 true (.bin 16 .lss false (.t 13) (.t 15))<|
 Zo (.pick 17 (.t 12) (.t 16) (.c (.bool false))) .nil)<| .cond (.t 17) .skip (.exit 0))<| .seq (.block 1<| .seq (Zr (Zm 20 0<|
 Zm 21 5<|
 Zi 22 4 20 21<|
 Zf 23 3 22<|
 Zl 24 1 23<|
 Zm 25 1<|
 Zm 26 5<|
 Zi 27 4 25 26<|
 Zf 28 3 27<|
 Zl 29 1 28<|
 Zq 30 false 75 [.t 24,.t 29,.c (Zz 0)]<|
 Zm 6 30 .nil)<|Zr (Zm 31 6<|
 Zk 32 .neq 31 0 .nil)<| .cond (.t 32) (Zr (Zm 33 6<|
 Zm 4 33 .nil) .ret) .skip)<|Zr (Zm 34 0<|
 Zm 35 5<|
 Zi 36 4 34 35<|
 Zf 37 0 36<|
 Zh 38 3 37<|
 Zm 39 1<|
 Zm 40 5<|
 Zi 41 4 39 40<|
 Zf 42 0 41<|
 Zh 43 3 42<|
 Zq 44 false 42 [.t 38,.t 43]<|
 Zm 7 44 .nil)<|Zr (Zm 45 7<|
 Zk 46 .neq 45 0 .nil)<| .cond (.t 46) (Zr (Zm 47 7<|
 Zm 4 47 .nil) .ret) .skip)<| .rg (Zm 18 5<|
 Zk 19 .add 18 1<|
 Zm 5 19 .nil))<| .seq (Zr (Zm 48 0<|
 Zn 49 48<|
 Zm 50 1<|
 Zn 51 50<|
 Zb 52 .lss 49 51 .nil)<| .cond (.t 52) (Zr (Zc 4 (-1) .nil) .ret) .skip)<| .seq (Zr (Zm 53 0<|
 Zn 54 53<|
 Zm 55 1<|
 Zn 56 55<|
 Zb 57 .gtr 54 56 .nil)<| .cond (.t 57) (Zr (Zc 4 1 .nil) .ret) .skip)<|Zr (Zc 4 0 .nil) .ret⟩
theorem Wz:Qe Tryz.prog Tryz.f32=some Ea:=by kernel_rfl
def Er:az:=⟨5,[.t 2],Zr (Zo (.box 1 3 32 (.t 0))<|
 Zo (.mv 2 (.c .aa)) .nil)<|Zr (Zh 3 3 1<|
 Zq 4 false 52 [.c .aa,.t 3,.c .aa]<|
 Zm 2 4 .nil) .ret⟩
theorem WA:Qe Tryz.prog Tryz.f55=some Er:=by kernel_rfl
def Du:az:=⟨9,[.t 4],Zr (Zo (.mv 4 (.c (.bool false))) .nil)<|Zr (Zm 5 0<|
 Zm 6 1<|
 Zq 7 false 32 [.t 5,.t 6]<|
 Zk 8 .eql 7 0<|
 Zm 4 8 .nil) .ret⟩
theorem WC:Qe Tryz.prog Tryz.f13=some Du:=by kernel_rfl
def DX:az:=⟨22,[.t 4],Zr (Zo (.mv 4 (.c .aa)) .nil)<|Zr (Zo (.mv 5 (.c .aa)) .nil)<| .seq (Zr (Zc 6 0 .nil)<| .block 0<| .loop<| .seq (Zr (Zm 7 6<|
 Zm 8 1<|
 Zn 9 8<|
 Zb 10 .lss 7 9 .nil)<| .cond (.t 10) .skip (.exit 0))<| .seq (.block 1<| .rg (Zm 13 5<|
 Zm 14 0<|
 Zm 15 1<|
 Zm 16 6<|
 Zi 17 4 15 16<|
 Zh 18 4 17<|
 Zq 19 false 51 [.t 14,.t 18]<|
 Zq 20 false 50 [.t 13,.t 19]<|
 Zm 5 20 .nil))<| .rg (Zm 11 6<|
 Zk 12 .add 11 1<|
 Zm 6 12 .nil))<|Zr (Zm 21 5<|
 Zm 4 21 .nil) .ret⟩
theorem Xc:Qe Tryz.prog Tryz.f26=some DX:=by kernel_rfl
def Dq:az:=⟨6,[.t 2],Zr (Zo (.mv 2 (.c .aa)) .nil)<|Zr (Zm 3 0<|
 Zq 4 false 38 [.c (Zz (-1))]<|
 Zq 5 false 74 [.t 3,.t 4]<|
 Zm 2 5 .nil) .ret⟩
theorem UF:Qe Tryz.prog Tryz.f123=some Dq:=by kernel_rfl
def EK:az:=⟨35,[.t 4],Zr (Zo (.box 3 3 32 (.t 1))<|
 Zo (.mv 4 (.c .aa)) .nil)<|Zr (Zo (.mv 5 (.c .aa)) .nil)<| .seq (Zr (Zc 6 0 .nil)<| .block 0<| .loop<| .seq (Zr (Zm 7 6<|
 Zm 8 0<|
 Zn 9 8<|
 Zb 10 .lss 7 9<|
 Zm 11 10<|
 Zg 11 true (.ld 12 3 true (.t 3))<|
 Zg 11 true (.call (some 13) false (.c (.fn 109 [] [])) [.t 12])<|
 Zg 11 true (.bin 14 .neq false (.t 13) (.c (Zz 0)))<|
 Zo (.pick 15 (.t 11) (.t 14) (.c (.bool false))) .nil)<| .cond (.t 15) .skip (.exit 0))<| .seq (.block 1<| .rg (Zm 18 5<|
 Zm 19 0<|
 Zm 20 6<|
 Zi 21 4 19 20<|
 Zf 22 0 21<|
 Zh 23 3 22<|
 Zh 24 3 3<|
 Zm 26 0<|
 Zm 27 6<|
 Zi 28 4 26 27<|
 Zf 29 3 28<|
 Zl 30 1 29<|
 Zq 25 true 39 [.t 23,.t 24]<|
 Zo (.cw 31 [.bool false,.aa,.aa,.aa] [(0,3,.t 25),(3,1,.t 30)])<|
 Zo (.bs 32 4 104 [.t 31])<|
 Zo (.app 33 4 80 104 (.t 18) (.t 32))<|
 Zm 5 33 .nil))<| .rg (Zm 16 6<|
 Zk 17 .add 16 1<|
 Zm 6 17 .nil))<|Zr (Zm 34 5<|
 Zm 4 34 .nil) .ret⟩
theorem Xd:Qe Tryz.prog Tryz.f74=some EK:=by kernel_rfl
def EH:az:=⟨9,[.t 4],Zr (Zo (.mv 4 (.c .aa)) .nil)<|Zr (Zm 5 0<|
 Zm 6 1<|
 Zq 7 false 123 [.t 6]<|
 Zq 8 false 50 [.t 5,.t 7]<|
 Zm 4 8 .nil) .ret⟩
theorem Xe:Qe Tryz.prog Tryz.f71=some EH:=by kernel_rfl
def Eo:az:=⟨88,[.t 6],Zr (Zo (.box 4 3 32 (.t 1))<|
 Zo (.mv 6 (.c .aa)) .nil)<|Zr (Zm 10 0<|
 Zn 11 10<|
 Zm 7 11 .nil)<| .seq (.block 0<| .loop<| .seq (Zr (Zm 12 7<|
 Zk 13 .gtr 12 0<|
 Zm 14 13<|
 Zg 14 true (.mv 15 (.t 0))<|
 Zg 14 true (.mv 16 (.t 7))<|
 Zg 14 true (.bin 17 .sub false (.t 16) (.c (Zz 1)))<|
 Zg 14 true (.idx 18 4 (.t 15) (.t 17))<|
 Zg 14 true (.aX 19 3 (.t 18))<|
 Zg 14 true (.ld 20 1 false (.t 19))<|
 Zg 14 true (.mv 21 (.t 2))<|
 Zg 14 true (.call (some 22) false (.c (.fn 75 [] [])) [.t 20,.t 21,.c (Zz 0)])<|
 Zg 14 true (.bin 23 .lss false (.t 22) (.c (Zz 0)))<|
 Zo (.pick 24 (.t 14) (.t 23) (.c (.bool false))) .nil)<| .cond (.t 24) .skip (.exit 0))<| .block 1<| .rg (Zm 25 7<|
 Zk 26 .sub 25 1<|
 Zm 7 26 .nil))<|Zr (Zo (.mv 8 (.c .aa)) .nil)<| .seq (Zr (Zm 27 7<|
 Zk 28 .gtr 27 0<|
 Zm 29 28<|
 Zg 29 true (.mv 30 (.t 0))<|
 Zg 29 true (.mv 31 (.t 7))<|
 Zg 29 true (.bin 32 .sub false (.t 31) (.c (Zz 1)))<|
 Zg 29 true (.idx 33 4 (.t 30) (.t 32))<|
 Zg 29 true (.aX 34 3 (.t 33))<|
 Zg 29 true (.ld 35 1 false (.t 34))<|
 Zg 29 true (.mv 36 (.t 2))<|
 Zg 29 true (.call (some 37) false (.c (.fn 75 [] [])) [.t 35,.t 36,.c (Zz 0)])<|
 Zg 29 true (.bin 38 .eql false (.t 37) (.c (Zz 0)))<|
 Zo (.pick 39 (.t 29) (.t 38) (.c (.bool false))) .nil)<| .cond (.t 39) (Zr (Zm 40 8<|
 Zm 41 0<|
 Zm 42 7<|
 Zk 43 .sub 42 1<|
 Zo (.sl 44 4 (.t 41) none (some (.t 43)) none)<|
 Zo (.app 45 4 80 104 (.t 40) (.t 44))<|
 Zm 8 45 .nil)<| .seq (Zr (Zm 46 0<|
 Zm 47 7<|
 Zk 48 .sub 47 1<|
 Zi 49 4 46 48<|
 Zf 50 0 49<|
 Zh 51 3 50<|
 Zh 52 3 4<|
 .br (Zq 53 true 41 [.t 51,.t 52]<|
 Zo (.alloc 9 3 32 (.agg [.bool false,.aa,.aa]))<|
 Zs 3 9 53 .nil) (Zo (.alloc 9 3 32 (.agg [.bool false,.aa,.aa]))<|
 Zq 53 true 41 [.t 51,.t 52]<|
 Zs 3 9 53 .nil))<|Zr (Zh 54 3 9<|
 Zq 55 false 109 [.t 54]<|
 Zk 56 .neq 55 0 .nil)<| .cond (.t 56) (.rg (Zm 57 8<|
 Zh 58 3 9<|
 Zm 59 2<|
 Zo (.cw 60 [.bool false,.aa,.aa,.aa] [(0,3,.t 58),(3,1,.t 59)])<|
 Zo (.bs 61 4 104 [.t 60])<|
 Zo (.app 62 4 80 104 (.t 57) (.t 61))<|
 Zm 8 62 .nil)) .skip)<|Zr (Zm 63 8<|
 Zm 64 0<|
 Zm 65 7<|
 Zo (.sl 66 4 (.t 64) (some (.t 65)) none none)<|
 Zo (.app 67 4 80 104 (.t 63) (.t 66))<|
 Zm 6 67 .nil) .ret) .skip)<|Zr (Zm 68 8<|
 Zm 69 0<|
 Zm 70 7<|
 Zo (.sl 71 4 (.t 69) none (some (.t 70)) none)<|
 Zo (.app 72 4 80 104 (.t 68) (.t 71))<|
 Zm 8 72 .nil)<| .seq (Zr (Zh 73 3 4<|
 Zq 74 false 109 [.t 73]<|
 Zk 75 .neq 74 0 .nil)<| .cond (.t 75) (.rg (Zm 76 8<|
 Zh 77 3 4<|
 Zq 78 false 100 [.t 77]<|
 Zm 79 2<|
 Zo (.cw 80 [.bool false,.aa,.aa,.aa] [(0,3,.t 78),(3,1,.t 79)])<|
 Zo (.bs 81 4 104 [.t 80])<|
 Zo (.app 82 4 80 104 (.t 76) (.t 81))<|
 Zm 8 82 .nil)) .skip)<|Zr (Zm 83 8<|
 Zm 84 0<|
 Zm 85 7<|
 Zo (.sl 86 4 (.t 84) (some (.t 85)) none none)<|
 Zo (.app 87 4 80 104 (.t 83) (.t 86))<|
 Zm 6 87 .nil) .ret⟩
theorem Xf:Qe Tryz.prog Tryz.f52=some Eo:=by kernel_rfl
def En:az:=⟨34,[.t 4],Zr (Zo (.box 3 4 104 (.t 1))<|
 Zo (.mv 4 (.c .aa)) .nil)<|Zr (Zo (.mv 5 (.c .aa)) .nil)<| .seq (Zr (Zc 6 0 .nil)<| .block 0<| .loop<| .seq (Zr (Zm 7 6<|
 Zm 8 0<|
 Zn 9 8<|
 Zb 10 .lss 7 9 .nil)<| .cond (.t 10) .skip (.exit 0))<| .seq (.block 1<| .rg (Zm 13 5<|
 Zm 14 0<|
 Zm 15 6<|
 Zi 16 4 14 15<|
 Zf 17 0 16<|
 Zh 18 3 17<|
 Zf 19 0 3<|
 Zh 20 3 19<|
 Zm 22 0<|
 Zm 23 6<|
 Zi 24 4 22 23<|
 Zf 25 3 24<|
 Zl 26 1 25<|
 Zf 27 3 3<|
 Zl 28 1 27<|
 Zq 21 true 39 [.t 18,.t 20]<|
 Zq 29 true 110 [.t 26,.t 28]<|
 Zo (.cw 30 [.bool false,.aa,.aa,.aa] [(0,3,.t 21),(3,1,.t 29)])<|
 Zo (.bs 31 4 104 [.t 30])<|
 Zo (.app 32 4 80 104 (.t 13) (.t 31))<|
 Zm 5 32 .nil))<| .rg (Zm 11 6<|
 Zk 12 .add 11 1<|
 Zm 6 12 .nil))<|Zr (Zm 33 5<|
 Zm 4 33 .nil) .ret⟩
theorem Xg:Qe Tryz.prog Tryz.f51=some En:=by kernel_rfl
def Dr:az:=⟨18,[.t 2],Zr (Zc 2 0 .nil)<|Zr (Zc 3 0 .nil)<| .seq (Zr (Zc 4 0 .nil)<| .block 0<| .loop<| .seq (Zr (Zm 5 4<|
 Zm 6 0<|
 Zn 7 6<|
 Zb 8 .lss 5 7 .nil)<| .cond (.t 8) .skip (.exit 0))<| .seq (.block 1<| .rg (Zm 11 3<|
 Zm 12 0<|
 Zm 13 4<|
 Zi 14 1 12 13<|
 Zl 15 1 14<|
 Zb 16 .add 11 15<|
 Zm 3 16 .nil))<| .rg (Zm 9 4<|
 Zk 10 .add 9 1<|
 Zm 4 10 .nil))<|Zr (Zm 17 3<|
 Zm 2 17 .nil) .ret⟩
theorem UG:Qe Tryz.prog Tryz.f124=some Dr:=by kernel_rfl
def Dt:az:=⟨17,[.t 4],Zr (Zc 4 0 .nil)<| .seq (Zr (Zm 5 1<|
 Zk 6 .lss 5 0<|
 Zm 7 6<|
 Zg 7 false (.mv 8 (.t 1))<|
 Zg 7 false (.mv 9 (.t 0))<|
 Zg 7 false (.len 10 (.t 9))<|
 Zg 7 false (.bin 11 .geq false (.t 8) (.t 10))<|
 Zo (.pick 12 (.t 7) (.c (.bool true)) (.t 11)) .nil)<| .cond (.t 12) (Zr (Zc 4 0 .nil) .ret) .skip)<|Zr (Zm 13 0<|
 Zm 14 1<|
 Zi 15 1 13 14<|
 Zl 16 1 15<|
 Zm 4 16 .nil) .ret⟩
theorem UH:Qe Tryz.prog Tryz.f126=some Dt:=by kernel_rfl
def Dg:az:=⟨30,[.t 4],Zr (Zo (.mv 4 (.c .aa)) .nil)<|Zr (Zo (.mv 5 (.c .aa)) .nil)<| .seq (Zr (Zc 6 0 .nil)<| .block 0<| .loop<| .seq (Zr (Zm 7 6<|
 Zm 8 0<|
 Zn 9 8<|
 Zb 10 .lss 7 9<|
 Zm 11 10<|
 Zg 11 false (.mv 12 (.t 6))<|
 Zg 11 false (.mv 13 (.t 1))<|
 Zg 11 false (.len 14 (.t 13))<|
 Zg 11 false (.bin 15 .lss false (.t 12) (.t 14))<|
 Zo (.pick 16 (.t 11) (.c (.bool true)) (.t 15)) .nil)<| .cond (.t 16) .skip (.exit 0))<| .seq (.block 1<| .rg (Zm 19 5<|
 Zm 20 0<|
 Zm 21 6<|
 Zq 22 false 126 [.t 20,.t 21]<|
 Zm 23 1<|
 Zm 24 6<|
 Zq 25 false 126 [.t 23,.t 24]<|
 Zb 26 .add 22 25<|
 Zo (.bs 27 1 3 [.t 26])<|
 Zo (.app 28 1 8 3 (.t 19) (.t 27))<|
 Zm 5 28 .nil))<| .rg (Zm 17 6<|
 Zk 18 .add 17 1<|
 Zm 6 18 .nil))<|Zr (Zm 29 5<|
 Zm 4 29 .nil) .ret⟩
theorem UI:Qe Tryz.prog Tryz.f110=some Dg:=by kernel_rfl
def EL:az:=⟨48,[.t 6],Zr (Zc 6 0 .nil)<| .seq (Zr (Zm 8 2<|
 Zk 9 .eql 8 1<|
 Zm 10 9<|
 Zg 10 true (.mv 11 (.t 0))<|
 Zg 10 true (.call (some 12) false (.c (.fn 124 [] [])) [.t 11])<|
 Zg 10 true (.mv 13 (.t 1))<|
 Zg 10 true (.call (some 14) false (.c (.fn 124 [] [])) [.t 13])<|
 Zg 10 true (.bin 15 .neq false (.t 12) (.t 14))<|
 Zo (.pick 16 (.t 10) (.t 15) (.c (.bool false))) .nil)<| .cond (.t 16) (Zr (Zm 17 0<|
 Zq 18 false 124 [.t 17]<|
 Zm 19 1<|
 Zq 20 false 124 [.t 19]<|
 Zb 21 .sub 18 20<|
 Zq 22 false 125 [.t 21]<|
 Zm 6 22 .nil) .ret) .skip)<| .seq (Zr (Zm 23 0<|
 Zn 24 23<|
 Zm 25 1<|
 Zn 26 25<|
 Zo (.mx 27 (.t 24) (.t 26))<|
 Zk 28 .sub 27 1<|
 Zm 7 28 .nil)<| .block 0<| .loop<| .seq (Zr (Zm 29 7<|
 Zk 30 .geq 29 0 .nil)<| .cond (.t 30) .skip (.exit 0))<| .seq (.block 1<|Zr (Zm 33 0<|
 Zm 34 7<|
 Zq 35 false 126 [.t 33,.t 34]<|
 Zm 36 1<|
 Zm 37 7<|
 Zq 38 false 126 [.t 36,.t 37]<|
 Zb 39 .neq 35 38 .nil)<| .cond (.t 39) (Zr (Zm 40 0<|
 Zm 41 7<|
 Zq 42 false 126 [.t 40,.t 41]<|
 Zm 43 1<|
 Zm 44 7<|
 Zq 45 false 126 [.t 43,.t 44]<|
 Zb 46 .sub 42 45<|
 Zq 47 false 125 [.t 46]<|
 Zm 6 47 .nil) .ret) .skip)<| .rg (Zm 31 7<|
 Zk 32 .sub 31 1<|
 Zm 7 32 .nil))<|Zr (Zc 6 0 .nil) .ret⟩
theorem Xh:Qe Tryz.prog Tryz.f75=some EL:=by kernel_rfl
def Ds:az:=⟨7,[.t 2],Zr (Zc 2 0 .nil)<| .seq (Zr (Zm 3 0<|
 Zk 4 .lss 3 0 .nil)<| .cond (.t 4) (Zr (Zc 2 (-1) .nil) .ret) .skip)<| .seq (Zr (Zm 5 0<|
 Zk 6 .gtr 5 0 .nil)<| .cond (.t 6) (Zr (Zc 2 1 .nil) .ret) .skip)<|Zr (Zc 2 0 .nil) .ret⟩
theorem UJ:Qe Tryz.prog Tryz.f125=some Ds:=by kernel_rfl
def Dc:az:=⟨24,[.t 2],Zr (Zo (.mv 2 (.c .aa)) .nil)<|Zr (Zm 5 0<|
 Zn 6 5<|
 Zm 3 6 .nil)<| .seq (.block 0<| .loop<| .seq (Zr (Zm 7 3<|
 Zk 8 .gtr 7 0<|
 Zm 9 8<|
 Zg 9 true (.mv 10 (.t 0))<|
 Zg 9 true (.mv 11 (.t 3))<|
 Zg 9 true (.bin 12 .sub false (.t 11) (.c (Zz 1)))<|
 Zg 9 true (.idx 13 1 (.t 10) (.t 12))<|
 Zg 9 true (.ld 14 1 false (.t 13))<|
 Zg 9 true (.bin 15 .eql false (.t 14) (.c (.int .u16 0)))<|
 Zo (.pick 16 (.t 9) (.t 15) (.c (.bool false))) .nil)<| .cond (.t 16) .skip (.exit 0))<| .block 1<| .rg (Zm 17 3<|
 Zk 18 .sub 17 1<|
 Zm 3 18 .nil))<|Zr (Zo (.mv 4 (.c .aa)) .nil)<|Zr (Zm 19 4<|
 Zm 20 0<|
 Zm 21 3<|
 Zo (.sl 22 1 (.t 20) none (some (.t 21)) none)<|
 Zo (.app 23 1 2 152 (.t 19) (.t 22))<|
 Zm 2 23 .nil) .ret⟩
theorem UK:Qe Tryz.prog Tryz.f107=some Dc:=by kernel_rfl
def El:az:=⟨15,[.t 2],Zr (Zo (.mv 2 (.c .aa)) .nil)<|Zr (Zo (.mv 3 (.c .aa)) .nil)<| .seq (.block 0<| .loop<| .seq (Zr (Zm 4 0<|
 Zo (.bin 5 .gtr false (.t 4) (.c (.int .u64 0))) .nil)<| .cond (.t 5) .skip (.exit 0))<| .block 1<|Zr (Zm 6 3<|
 Zm 7 0<|
 Zo (.bin 8 .rem false (.t 7) (.c (.int .u64 65536)))<|
 Zo (.conv 9 .u16 (.t 8))<|
 Zo (.bs 10 1 152 [.t 9])<|
 Zo (.app 11 1 2 152 (.t 6) (.t 10))<|
 Zm 3 11 .nil)<| .rg (Zm 12 0<|
 Zo (.bin 13 .quo false (.t 12) (.c (.int .u64 65536)))<|
 Zm 0 13 .nil))<|Zr (Zm 14 3<|
 Zm 2 14 .nil) .ret⟩
theorem Xi:Qe Tryz.prog Tryz.f49=some El:=by kernel_rfl
def DF:az:=⟨21,[.t 2],Zr (Zo (.mv 2 (.c (.int .u64 0))) .nil)<|Zr (Zo (.mv 3 (.c (.int .u64 0))) .nil)<| .seq (Zr (Zm 5 0<|
 Zn 6 5<|
 Zk 7 .sub 6 1<|
 Zm 4 7 .nil)<| .block 0<| .loop<| .seq (Zr (Zm 8 4<|
 Zk 9 .geq 8 0 .nil)<| .cond (.t 9) .skip (.exit 0))<| .seq (.block 1<| .rg (Zm 12 3<|
 Zo (.bin 13 .mul false (.t 12) (.c (.int .u64 65536)))<|
 Zm 14 0<|
 Zm 15 4<|
 Zi 16 1 14 15<|
 Zl 17 1 16<|
 Zo (.conv 18 .u64 (.t 17))<|
 Zb 19 .add 13 18<|
 Zm 3 19 .nil))<| .rg (Zm 10 4<|
 Zk 11 .sub 10 1<|
 Zm 4 11 .nil))<|Zr (Zm 20 3<|
 Zm 2 20 .nil) .ret⟩
theorem UL:Qe Tryz.prog Tryz.f145=some DF:=by kernel_rfl
def Dy:az:=⟨14,[.t 4],Zr (Zc 4 0 .nil)<| .seq (Zr (Zm 5 1<|
 Zm 6 0<|
 Zn 7 6<|
 Zb 8 .lss 5 7 .nil)<| .cond (.t 8) (Zr (Zm 9 0<|
 Zm 10 1<|
 Zi 11 1 9 10<|
 Zl 12 1 11<|
 Zo (.conv 13 .i64 (.t 12))<|
 Zm 4 13 .nil) .ret) .skip)<|Zr (Zc 4 0 .nil) .ret⟩
theorem UM:Qe Tryz.prog Tryz.f139=some Dy:=by kernel_rfl
def DB:az:=⟨30,[.t 4],Zr (Zc 4 0 .nil)<| .seq (Zr (Zm 6 0<|
 Zn 7 6<|
 Zm 8 1<|
 Zn 9 8<|
 Zo (.mx 10 (.t 7) (.t 9))<|
 Zk 11 .sub 10 1<|
 Zm 5 11 .nil)<| .block 0<| .loop<| .seq (Zr (Zm 12 5<|
 Zk 13 .geq 12 0 .nil)<| .cond (.t 13) .skip (.exit 0))<| .seq (.block 1<| .seq (Zr (Zm 16 0<|
 Zm 17 5<|
 Zq 18 false 139 [.t 16,.t 17]<|
 Zm 19 1<|
 Zm 20 5<|
 Zq 21 false 139 [.t 19,.t 20]<|
 Zb 22 .lss 18 21 .nil)<| .cond (.t 22) (Zr (Zc 4 (-1) .nil) .ret) .skip)<|Zr (Zm 23 0<|
 Zm 24 5<|
 Zq 25 false 139 [.t 23,.t 24]<|
 Zm 26 1<|
 Zm 27 5<|
 Zq 28 false 139 [.t 26,.t 27]<|
 Zb 29 .gtr 25 28 .nil)<| .cond (.t 29) (Zr (Zc 4 1 .nil) .ret) .skip)<| .rg (Zm 14 5<|
 Zk 15 .sub 14 1<|
 Zm 5 15 .nil))<|Zr (Zc 4 0 .nil) .ret⟩
theorem UN:Qe Tryz.prog Tryz.f141=some DB:=by kernel_rfl
def Dx:az:=⟨44,[.t 4],Zr (Zo (.mv 4 (.c .aa)) .nil)<|Zr (Zo (.mv 5 (.c .aa)) .nil)<|Zr (Zc 6 0 .nil)<| .seq (Zr (Zc 7 0 .nil)<| .block 0<| .loop<| .seq (Zr (Zm 9 7<|
 Zm 10 0<|
 Zn 11 10<|
 Zb 12 .lss 9 11<|
 Zm 13 12<|
 Zg 13 false (.mv 14 (.t 7))<|
 Zg 13 false (.mv 15 (.t 1))<|
 Zg 13 false (.len 16 (.t 15))<|
 Zg 13 false (.bin 17 .lss false (.t 14) (.t 16))<|
 Zo (.pick 18 (.t 13) (.c (.bool true)) (.t 17))<|
 Zm 19 18<|
 Zg 19 false (.mv 20 (.t 6))<|
 Zg 19 false (.bin 21 .gtr false (.t 20) (.c (Zz 0)))<|
 Zo (.pick 22 (.t 19) (.c (.bool true)) (.t 21)) .nil)<| .cond (.t 22) .skip (.exit 0))<| .seq (.block 1<|Zr (Zm 25 0<|
 Zm 26 7<|
 Zq 27 false 139 [.t 25,.t 26]<|
 Zm 28 1<|
 Zm 29 7<|
 Zq 30 false 139 [.t 28,.t 29]<|
 Zb 31 .add 27 30<|
 Zm 32 6<|
 Zb 33 .add 31 32<|
 Zm 8 33 .nil)<|Zr (Zm 34 5<|
 Zm 35 8<|
 Zk 36 .rem 35 65536<|
 Zo (.conv 37 .u16 (.t 36))<|
 Zo (.bs 38 1 152 [.t 37])<|
 Zo (.app 39 1 2 152 (.t 34) (.t 38))<|
 Zm 5 39 .nil)<| .rg (Zm 40 8<|
 Zk 41 .quo 40 65536<|
 Zm 6 41 .nil))<| .rg (Zm 23 7<|
 Zk 24 .add 23 1<|
 Zm 7 24 .nil))<|Zr (Zm 42 5<|
 Zq 43 false 107 [.t 42]<|
 Zm 4 43 .nil) .ret⟩
theorem UO:Qe Tryz.prog Tryz.f138=some Dx:=by kernel_rfl
def DA:az:=⟨40,[.t 4,.t 5],Zr (Zo (.mv 4 (.c .aa))<|
 Zc 5 0 .nil)<| .seq (Zr (Zm 10 0<|
 Zm 11 1<|
 Zq 12 false 141 [.t 10,.t 11]<|
 Zk 13 .lss 12 0 .nil)<| .cond (.t 13) (Zr (Zo (.mv 4 (.c .aa))<|
 Zc 5 2 .nil) .ret) .skip)<|Zr (Zo (.mv 6 (.c .aa)) .nil)<|Zr (Zc 7 0 .nil)<| .seq (Zr (Zc 8 0 .nil)<| .block 0<| .loop<| .seq (Zr (Zm 14 8<|
 Zm 15 0<|
 Zn 16 15<|
 Zb 17 .lss 14 16 .nil)<| .cond (.t 17) .skip (.exit 0))<| .seq (.block 1<|Zr (Zm 20 0<|
 Zm 21 8<|
 Zq 22 false 139 [.t 20,.t 21]<|
 Zm 23 1<|
 Zm 24 8<|
 Zq 25 false 139 [.t 23,.t 24]<|
 Zb 26 .sub 22 25<|
 Zm 27 7<|
 Zb 28 .sub 26 27<|
 Zm 9 28 .nil)<|Zr (Zc 7 0 .nil)<| .seq (Zr (Zm 29 9<|
 Zk 30 .lss 29 0 .nil)<| .cond (.t 30) (Zr (Zm 31 9<|
 Zk 32 .add 31 65536<|
 Zm 9 32 .nil)<| .rg (Zc 7 1 .nil)) .skip)<| .rg (Zm 33 6<|
 Zm 34 9<|
 Zo (.conv 35 .u16 (.t 34))<|
 Zo (.bs 36 1 152 [.t 35])<|
 Zo (.app 37 1 2 152 (.t 33) (.t 36))<|
 Zm 6 37 .nil))<| .rg (Zm 18 8<|
 Zk 19 .add 18 1<|
 Zm 8 19 .nil))<|Zr (Zm 38 6<|
 Zq 39 false 107 [.t 38]<|
 Zm 4 39<|
 Zc 5 0 .nil) .ret⟩
theorem UP:Qe Tryz.prog Tryz.f140=some DA:=by kernel_rfl
def EP:az:=⟨65,[.t 4],Zr (Zo (.mv 4 (.c .aa)) .nil)<|Zr (Zm 10 0<|
 Zn 11 10<|
 Zm 12 1<|
 Zn 13 12<|
 Zb 14 .add 11 13<|
 Zk 15 .add 14 1<|
 Zo (.mk 16 1 2 152 (.int .u16 0) (.t 15) (.t 15))<|
 Zm 5 16 .nil)<| .seq (Zr (Zc 6 0 .nil)<| .block 0<| .loop<| .seq (Zr (Zm 17 6<|
 Zm 18 0<|
 Zn 19 18<|
 Zb 20 .lss 17 19 .nil)<| .cond (.t 20) .skip (.exit 0))<| .seq (.block 1<|Zr (Zo (.mv 7 (.c (.int .u64 0))) .nil)<|Zr (Zc 8 0 .nil)<| .block 2<| .loop<| .seq (Zr (Zm 23 8<|
 Zm 24 1<|
 Zn 25 24<|
 Zb 26 .lss 23 25<|
 Zm 27 26<|
 Zg 27 false (.mv 28 (.t 7))<|
 Zg 27 false (.bin 29 .gtr false (.t 28) (.c (.int .u64 0)))<|
 Zo (.pick 30 (.t 27) (.c (.bool true)) (.t 29)) .nil)<| .cond (.t 30) .skip (.exit 2))<| .seq (.block 3<|Zr (Zm 33 5<|
 Zm 34 6<|
 Zm 35 8<|
 Zb 36 .add 34 35<|
 Zi 37 1 33 36<|
 Zl 38 1 37<|
 Zo (.conv 39 .u64 (.t 38))<|
 Zm 40 0<|
 Zm 41 6<|
 Zi 42 1 40 41<|
 Zl 43 1 42<|
 Zo (.conv 44 .u64 (.t 43))<|
 Zm 45 1<|
 Zm 46 8<|
 Zm 51 7<|
 Zq 47 true 139 [.t 45,.t 46]<|
 Zo (.conv 48 .u64 (.t 47))<|
 Zb 49 .mul 44 48<|
 Zb 50 .add 39 49<|
 Zb 52 .add 50 51<|
 Zm 9 52 .nil)<|Zr (Zm 53 5<|
 Zm 54 6<|
 Zm 55 8<|
 Zb 56 .add 54 55<|
 Zm 57 9<|
 Zo (.bin 58 .rem false (.t 57) (.c (.int .u64 65536)))<|
 Zo (.conv 59 .u16 (.t 58))<|
 Zi 60 1 53 56<|
 Zs 1 60 59 .nil)<| .rg (Zm 61 9<|
 Zo (.bin 62 .quo false (.t 61) (.c (.int .u64 65536)))<|
 Zm 7 62 .nil))<| .rg (Zm 31 8<|
 Zk 32 .add 31 1<|
 Zm 8 32 .nil))<| .rg (Zm 21 6<|
 Zk 22 .add 21 1<|
 Zm 6 22 .nil))<|Zr (Zm 63 5<|
 Zq 64 false 107 [.t 63]<|
 Zm 4 64 .nil) .ret⟩
theorem Xj:Qe Tryz.prog Tryz.f99=some EP:=by kernel_rfl
def DG:az:=⟨27,[.t 4],Zr (Zo (.mv 4 (.c (.int .u64 0))) .nil)<|Zr (Zo (.mv 5 (.c (.int .u64 0)))<|
 Zo (.mv 6 (.c (.int .u64 65535))) .nil)<| .seq (.block 0<| .loop<| .seq (Zr (Zm 8 5<|
 Zm 9 6<|
 Zb 10 .lss 8 9 .nil)<| .cond (.t 10) .skip (.exit 0))<| .block 1<|Zr (Zm 11 5<|
 Zm 12 6<|
 Zb 13 .add 11 12<|
 Zo (.bin 14 .add false (.t 13) (.c (.int .u64 1)))<|
 Zo (.bin 15 .quo false (.t 14) (.c (.int .u64 2)))<|
 Zm 7 15 .nil)<|Zr (Zm 16 1<|
 Zm 17 7<|
 Zq 18 false 49 [.t 17]<|
 Zq 19 false 99 [.t 16,.t 18]<|
 Zm 20 0<|
 Zq 21 false 141 [.t 19,.t 20]<|
 Zk 22 .leq 21 0 .nil)<| .cond (.t 22) (.rg (Zm 23 7<|
 Zm 5 23 .nil)) (.rg (Zm 24 7<|
 Zo (.bin 25 .sub false (.t 24) (.c (.int .u64 1)))<|
 Zm 6 25 .nil)))<|Zr (Zm 26 5<|
 Zm 4 26 .nil) .ret⟩
theorem UQ:Qe Tryz.prog Tryz.f146=some DG:=by kernel_rfl
def Dd:az:=⟨73,[.t 4,.t 5,.t 6],Zr (Zo (.mv 4 (.c .aa))<|
 Zo (.mv 5 (.c .aa))<|
 Zc 6 0 .nil)<|Zr (Zm 11 0<|
 Zq 12 false 107 [.t 11]<|
 Zm 13 1<|
 Zq 14 false 107 [.t 13]<|
 Zm 0 12<|
 Zm 1 14 .nil)<| .seq (Zr (Zm 15 1<|
 Zn 16 15<|
 Zk 17 .eql 16 0 .nil)<| .cond (.t 17) (Zr (Zo (.mv 4 (.c .aa))<|
 Zo (.mv 5 (.c .aa))<|
 Zc 6 3 .nil) .ret) .skip)<| .seq (Zr (Zm 18 0<|
 Zn 19 18<|
 Zk 20 .leq 19 4<|
 Zm 21 20<|
 Zg 21 true (.mv 22 (.t 1))<|
 Zg 21 true (.len 23 (.t 22))<|
 Zg 21 true (.bin 24 .leq false (.t 23) (.c (Zz 4)))<|
 Zo (.pick 25 (.t 21) (.t 24) (.c (.bool false))) .nil)<| .cond (.t 25) (Zr (Zm 26 0<|
 Zq 27 false 145 [.t 26]<|
 Zm 28 1<|
 Zq 29 false 145 [.t 28]<|
 Zb 30 .quo 27 29<|
 Zq 31 false 49 [.t 30]<|
 Zm 32 0<|
 Zq 33 false 145 [.t 32]<|
 Zm 34 1<|
 Zq 35 false 145 [.t 34]<|
 Zb 36 .rem 33 35<|
 Zq 37 false 49 [.t 36]<|
 Zm 4 31<|
 Zm 5 37<|
 Zc 6 0 .nil) .ret) .skip)<|Zr (Zo (.mv 7 (.c .aa))<|
 Zo (.mv 8 (.c .aa)) .nil)<| .seq (Zr (Zm 38 0<|
 Zn 39 38<|
 Zk 40 .sub 39 1<|
 Zm 9 40 .nil)<| .block 0<| .loop<| .seq (Zr (Zm 41 9<|
 Zk 42 .geq 41 0 .nil)<| .cond (.t 42) .skip (.exit 0))<| .seq (.block 1<|Zr (Zm 45 0<|
 Zm 46 9<|
 Zi 47 1 45 46<|
 Zl 48 1 47<|
 Zo (.bs 49 1 152 [.t 48])<|
 Zm 50 8<|
 Zo (.app 51 1 2 152 (.t 49) (.t 50))<|
 Zq 52 false 107 [.t 51]<|
 Zm 8 52 .nil)<|Zr (Zm 53 8<|
 Zm 54 1<|
 Zq 55 false 146 [.t 53,.t 54]<|
 Zm 10 55 .nil)<|Zr (Zm 56 10<|
 Zo (.conv 57 .u16 (.t 56))<|
 Zo (.bs 58 1 152 [.t 57])<|
 Zm 59 7<|
 Zo (.app 60 1 2 152 (.t 58) (.t 59))<|
 Zm 7 60 .nil)<| .rg (Zm 62 8<|
 Zm 63 1<|
 Zm 64 10<|
 Zq 65 false 49 [.t 64]<|
 Zq 66 false 99 [.t 63,.t 65]<|
 Zq 67 false 140 [.t 62,.t 66]<|
 Zm 61 67<|
 Zo (.ext 68 (.t 61) 0)<|
 Zo (.ext 69 (.t 61) 1)<|
 Zm 8 68 .nil))<| .rg (Zm 43 9<|
 Zk 44 .sub 43 1<|
 Zm 9 44 .nil))<|Zr (Zm 70 7<|
 Zq 71 false 107 [.t 70]<|
 Zm 72 8<|
 Zm 4 71<|
 Zm 5 72<|
 Zc 6 0 .nil) .ret⟩
theorem UR:Qe Tryz.prog Tryz.f108=some Dd:=by kernel_rfl
def Ek:az:=⟨25,[.t 4],Zr (Zo (.mv 4 (.c .aa)) .nil)<|Zr (Zm 8 0<|
 Zq 9 false 107 [.t 8]<|
 Zm 10 1<|
 Zq 11 false 107 [.t 10]<|
 Zm 0 9<|
 Zm 1 11 .nil)<| .seq (.block 0<| .loop<| .seq (Zr (Zm 12 1<|
 Zn 13 12<|
 Zk 14 .gtr 13 0 .nil)<| .cond (.t 14) .skip (.exit 0))<| .block 1<|Zr (Zm 16 0<|
 Zm 17 1<|
 Zq 18 false 108 [.t 16,.t 17]<|
 Zm 15 18<|
 Zo (.ext 19 (.t 15) 0)<|
 Zo (.ext 20 (.t 15) 1)<|
 Zo (.ext 21 (.t 15) 2)<|
 Zm 5 19<|
 Zm 6 20<|
 Zm 7 21 .nil)<| .rg (Zm 22 1<|
 Zm 23 6<|
 Zm 0 22<|
 Zm 1 23 .nil))<|Zr (Zm 24 0<|
 Zm 4 24 .nil) .ret⟩
theorem Xk:Qe Tryz.prog Tryz.f48=some Ek:=by kernel_rfl
def Ei:az:=⟨15,[.t 2],Zr (Zo (.mv 2 (.c (.bool false))) .nil)<|Zr (Zm 3 0<|
 Zn 4 3<|
 Zk 5 .eql 4 0<|
 Zm 6 5<|
 Zg 6 false (.mv 7 (.t 0))<|
 Zg 6 false (.mv 8 (.t 0))<|
 Zg 6 false (.len 9 (.t 8))<|
 Zg 6 false (.bin 10 .sub false (.t 9) (.c (Zz 1)))<|
 Zg 6 false (.idx 11 1 (.t 7) (.t 10))<|
 Zg 6 false (.ld 12 1 false (.t 11))<|
 Zg 6 false (.bin 13 .neq false (.t 12) (.c (.int .u16 0)))<|
 Zo (.pick 14 (.t 6) (.c (.bool true)) (.t 13))<|
 Zm 2 14 .nil) .ret⟩
theorem Xl:Qe Tryz.prog Tryz.f46=some Ei:=by kernel_rfl
def Ej:az:=⟨26,[.t 4],Zr (Zo (.mv 4 (.c (.bool false))) .nil)<| .seq (Zr (Zm 6 0<|
 Zn 7 6<|
 Zm 8 1<|
 Zn 9 8<|
 Zb 10 .neq 7 9 .nil)<| .cond (.t 10) (Zr (Zo (.mv 4 (.c (.bool false))) .nil) .ret) .skip)<| .seq (Zr (Zc 5 0 .nil)<| .block 0<| .loop<| .seq (Zr (Zm 11 5<|
 Zm 12 0<|
 Zn 13 12<|
 Zb 14 .lss 11 13 .nil)<| .cond (.t 14) .skip (.exit 0))<| .seq (.block 1<|Zr (Zm 17 0<|
 Zm 18 5<|
 Zi 19 1 17 18<|
 Zl 20 1 19<|
 Zm 21 1<|
 Zm 22 5<|
 Zi 23 1 21 22<|
 Zl 24 1 23<|
 Zb 25 .neq 20 24 .nil)<| .cond (.t 25) (Zr (Zo (.mv 4 (.c (.bool false))) .nil) .ret) .skip)<| .rg (Zm 15 5<|
 Zk 16 .add 15 1<|
 Zm 5 16 .nil))<|Zr (Zo (.mv 4 (.c (.bool true))) .nil) .ret⟩
theorem Xm:Qe Tryz.prog Tryz.f47=some Ej:=by kernel_rfl
def Eh:az:=⟨17,[.t 2],Zr (Zo (.box 1 2 30 (.t 0))<|
 Zo (.mv 2 (.c (.bool false))) .nil)<|Zr (Zf 3 1 1<|
 Zl 4 1 3<|
 Zq 5 false 46 [.t 4]<|
 Zm 6 5<|
 Zg 6 true (.aX 7 0 (.t 1))<|
 Zg 6 true (.ld 8 1 false (.t 7))<|
 Zg 6 true (.mv 9 (.t 8))<|
 Zg 9 true (.aX 10 1 (.t 1))<|
 Zg 9 true (.ld 11 1 false (.t 10))<|
 Zg 9 true (.len 12 (.t 11))<|
 Zg 9 true (.bin 13 .eql false (.t 12) (.c (Zz 0)))<|
 Zg 6 true (.pick 14 (.t 9) (.t 13) (.c (.bool false)))<|
 Zg 6 true (.un 15 .not (.t 14))<|
 Zo (.pick 16 (.t 6) (.t 15) (.c (.bool false)))<|
 Zm 2 16 .nil) .ret⟩
theorem Xn:Qe Tryz.prog Tryz.f45=some Eh:=by kernel_rfl
def Dw:az:=⟨15,[.cell 4 2 true],Zr (Zo (.alloc 4 2 30 (.agg [.bool false,.aa])) .nil)<|Zr (Zm 5 1<|
 Zq 6 false 107 [.t 5]<|
 Zm 1 6 .nil)<|Zr (Zm 7 0<|
 Zm 8 7<|
 Zg 8 true (.mv 9 (.t 1))<|
 Zg 8 true (.len 10 (.t 9))<|
 Zg 8 true (.bin 11 .gtr false (.t 10) (.c (Zz 0)))<|
 Zo (.pick 12 (.t 8) (.t 11) (.c (.bool false)))<|
 Zm 13 1<|
 Zo (.cw 14 [.bool false,.aa] [(0,1,.t 12),(1,1,.t 13)])<|
 Zs 2 4 14 .nil) .ret⟩
theorem US:Qe Tryz.prog Tryz.f137=some Dw:=by kernel_rfl
def Dv:az:=⟨8,[.cell 2 2 true],Zr (Zo (.box 1 2 30 (.t 0))<|
 Zo (.alloc 2 2 30 (.agg [.bool false,.aa])) .nil)<|Zr (Zf 3 0 1<|
 Zl 4 1 3<|
 Zf 5 1 1<|
 Zl 6 1 5<|
 Zq 7 false 137 [.t 4,.t 6]<|
 Zs 2 2 7 .nil) .ret⟩
theorem UT:Qe Tryz.prog Tryz.f136=some Dv:=by kernel_rfl
def EN:az:=⟨17,[.cell 2 2 true],Zr (Zo (.alloc 2 2 30 (.agg [.bool false,.aa])) .nil)<| .seq (Zr (Zm 3 0<|
 Zk 4 .lss 3 0 .nil)<| .cond (.t 4) (Zr (Zm 5 0<|
 Zk 6 .add 5 1<|
 Zo (.un 7 .neg (.t 6))<|
 Zo (.conv 8 .u64 (.t 7))<|
 Zq 9 false 49 [.t 8]<|
 Zq 10 false 49 [.c (.int .u64 1)]<|
 Zq 11 false 138 [.t 9,.t 10]<|
 Zq 12 false 137 [.c (.bool true),.t 11]<|
 Zs 2 2 12 .nil) .ret) .skip)<|Zr (Zm 13 0<|
 Zo (.conv 14 .u64 (.t 13))<|
 Zq 15 false 49 [.t 14]<|
 Zq 16 false 137 [.c (.bool false),.t 15]<|
 Zs 2 2 16 .nil) .ret⟩
theorem Xo:Qe Tryz.prog Tryz.f97=some EN:=by kernel_rfl
def DH:az:=⟨11,[.t 2],Zr (Zo (.box 1 2 30 (.t 0))<|
 Zc 2 0 .nil)<|Zr (Zh 3 2 1<|
 Zq 4 false 136 [.t 3]<|
 Zs 2 1 4 .nil)<| .seq (Zr (Zf 5 1 1<|
 Zl 6 1 5<|
 Zn 7 6<|
 Zk 8 .eql 7 0 .nil)<| .cond (.t 8) (Zr (Zc 2 0 .nil) .ret) .skip)<| .seq (Zr (Zf 9 0 1<|
 Zl 10 1 9 .nil)<| .cond (.t 10) (Zr (Zc 2 (-1) .nil) .ret) .skip)<|Zr (Zc 2 1 .nil) .ret⟩
theorem UU:Qe Tryz.prog Tryz.f147=some DH:=by kernel_rfl
def Da:az:=⟨38,[.t 4],Zr (Zo (.box 2 2 30 (.t 0))<|
 Zo (.box 3 2 30 (.t 1))<|
 Zc 4 0 .nil)<|Zr (Zh 5 2 2<|
 Zh 7 2 3<|
 Zq 6 true 136 [.t 5]<|
 Zq 8 true 136 [.t 7]<|
 Zs 2 2 6<|
 Zs 2 3 8 .nil)<| .seq (.block 0<|Zr (Zf 10 0 2<|
 Zl 11 1 10<|
 Zm 12 11<|
 Zg 12 true (.aX 13 0 (.t 3))<|
 Zg 12 true (.ld 14 1 false (.t 13))<|
 Zg 12 true (.un 15 .not (.t 14))<|
 Zo (.pick 16 (.t 12) (.t 15) (.c (.bool false)))<|
 Zm 9 16 .nil)<| .cond (.t 9) (Zr (Zc 4 (-1) .nil) .ret) (Zr (Zf 18 0 3<|
 Zl 19 1 18<|
 Zm 20 19<|
 Zg 20 true (.aX 21 0 (.t 2))<|
 Zg 20 true (.ld 22 1 false (.t 21))<|
 Zg 20 true (.un 23 .not (.t 22))<|
 Zo (.pick 24 (.t 20) (.t 23) (.c (.bool false)))<|
 Zm 17 24 .nil)<| .cond (.t 17) (Zr (Zc 4 1 .nil) .ret) (Zr (Zf 26 0 2<|
 Zl 27 1 26<|
 Zm 25 27 .nil)<| .cond (.t 25) (Zr (Zf 28 1 3<|
 Zl 29 1 28<|
 Zf 30 1 2<|
 Zl 31 1 30<|
 Zq 32 false 141 [.t 29,.t 31]<|
 Zm 4 32 .nil) .ret) .skip)))<|Zr (Zf 33 1 2<|
 Zl 34 1 33<|
 Zf 35 1 3<|
 Zl 36 1 35<|
 Zq 37 false 141 [.t 34,.t 36]<|
 Zm 4 37 .nil) .ret⟩
theorem UW:Qe Tryz.prog Tryz.f103=some Da:=by kernel_rfl
def C8:az:=⟨48,[.cell 4 2 true],Zr (Zo (.box 2 2 30 (.t 0))<|
 Zo (.box 3 2 30 (.t 1))<|
 Zo (.alloc 4 2 30 (.agg [.bool false,.aa])) .nil)<| .seq (Zr (Zf 9 0 2<|
 Zl 10 1 9<|
 Zf 11 0 3<|
 Zl 12 1 11<|
 Zo (.bin 13 .eql true (.t 10) (.t 12)) .nil)<| .cond (.t 13) (Zr (Zf 14 0 2<|
 Zl 15 1 14<|
 Zf 16 1 2<|
 Zl 17 1 16<|
 Zf 18 1 3<|
 Zl 19 1 18<|
 Zq 20 true 138 [.t 17,.t 19]<|
 Zq 21 true 137 [.t 15,.t 20]<|
 Zs 2 4 21 .nil) .ret) .skip)<| .seq (Zr (Zf 23 1 2<|
 Zl 24 1 23<|
 Zf 25 1 3<|
 Zl 26 1 25<|
 Zq 27 false 140 [.t 24,.t 26]<|
 Zm 22 27<|
 Zo (.ext 28 (.t 22) 0)<|
 Zo (.ext 29 (.t 22) 1)<|
 Zm 5 28<|
 Zm 6 29 .nil)<|Zr (Zm 30 6<|
 Zk 31 .eql 30 0 .nil)<| .cond (.t 31) (Zr (Zf 32 0 2<|
 Zl 33 1 32<|
 Zm 34 5<|
 Zq 35 false 137 [.t 33,.t 34]<|
 Zs 2 4 35 .nil) .ret) .skip)<|Zr (Zf 37 1 3<|
 Zl 38 1 37<|
 Zf 39 1 2<|
 Zl 40 1 39<|
 Zq 41 false 140 [.t 38,.t 40]<|
 Zm 36 41<|
 Zo (.ext 42 (.t 36) 0)<|
 Zo (.ext 43 (.t 36) 1)<|
 Zm 7 42<|
 Zm 8 43 .nil)<|Zr (Zf 44 0 3<|
 Zl 45 1 44<|
 Zm 46 7<|
 Zq 47 false 137 [.t 45,.t 46]<|
 Zs 2 4 47 .nil) .ret⟩
theorem UX:Qe Tryz.prog Tryz.f101=some C8:=by kernel_rfl
def EO:az:=⟨16,[.cell 4 2 true],Zr (Zo (.box 2 2 30 (.t 0))<|
 Zo (.box 3 2 30 (.t 1))<|
 Zo (.alloc 4 2 30 (.agg [.bool false,.aa])) .nil)<|Zr (Zf 5 0 2<|
 Zl 6 1 5<|
 Zf 7 0 3<|
 Zl 8 1 7<|
 Zo (.bin 9 .neq true (.t 6) (.t 8))<|
 Zf 10 1 2<|
 Zl 11 1 10<|
 Zf 12 1 3<|
 Zl 13 1 12<|
 Zq 14 true 99 [.t 11,.t 13]<|
 Zq 15 true 137 [.t 9,.t 14]<|
 Zs 2 4 15 .nil) .ret⟩
theorem Xp:Qe Tryz.prog Tryz.f98=some EO:=by kernel_rfl
def DV:az:=⟨27,[.t 2],Zr (Zo (.box 1 3 32 (.t 0))<|
 Zo (.mv 2 (.c (.bool false))) .nil)<|Zr (Zf 3 0 1<|
 Zh 4 2 3<|
 Zq 5 false 45 [.t 4]<|
 Zm 6 5<|
 Zg 6 true (.aX 7 2 (.t 1))<|
 Zg 6 true (.ld 8 1 false (.t 7))<|
 Zg 6 true (.call (some 9) false (.c (.fn 46 [] [])) [.t 8])<|
 Zo (.pick 10 (.t 6) (.t 9) (.c (.bool false)))<|
 Zm 11 10<|
 Zg 11 true (.aX 12 0 (.t 1))<|
 Zg 11 true (.aX 13 1 (.t 12))<|
 Zg 11 true (.ld 14 1 false (.t 13))<|
 Zg 11 true (.aX 15 2 (.t 1))<|
 Zg 11 true (.ld 16 1 false (.t 15))<|
 Zg 11 true (.call (some 17) false (.c (.fn 48 [] [])) [.t 14,.t 16])<|
 Zg 11 true (.call (some 18) false (.c (.fn 49 [] [])) [.c (.int .u64 1)])<|
 Zg 11 true (.call (some 19) false (.c (.fn 47 [] [])) [.t 17,.t 18])<|
 Zo (.pick 20 (.t 11) (.t 19) (.c (.bool false)))<|
 Zm 21 20<|
 Zg 21 true (.aX 22 2 (.t 1))<|
 Zg 21 true (.ld 23 1 false (.t 22))<|
 Zg 21 true (.len 24 (.t 23))<|
 Zg 21 true (.bin 25 .gtr false (.t 24) (.c (Zz 0)))<|
 Zo (.pick 26 (.t 21) (.t 25) (.c (.bool false)))<|
 Zm 2 26 .nil) .ret⟩
theorem Xq:Qe Tryz.prog Tryz.f24=some DV:=by kernel_rfl
def EM:az:=⟨44,[.cell 4 3 true],Zr (Zo (.box 2 2 30 (.t 0))<|
 Zo (.alloc 4 3 32 (.agg [.bool false,.aa,.aa])) .nil)<| .seq (Zr (Zm 12 1<|
 Zq 13 false 107 [.t 12]<|
 Zn 14 13<|
 Zk 15 .eql 14 0 .nil)<| .cond (.t 15) (Zr (Zq 16 false 49 [.c (.int .u64 1)]<|
 Zo (.cw 17 [.bool false,.aa,.aa] [(2,1,.t 16)])<|
 Zs 3 4 17 .nil) .ret) .skip)<|Zr (Zf 18 1 2<|
 Zl 19 1 18<|
 Zm 20 1<|
 Zq 21 false 48 [.t 19,.t 20]<|
 Zm 5 21 .nil)<|Zr (Zf 23 1 2<|
 Zl 24 1 23<|
 Zm 25 5<|
 Zq 26 false 108 [.t 24,.t 25]<|
 Zm 22 26<|
 Zo (.ext 27 (.t 22) 0)<|
 Zo (.ext 28 (.t 22) 1)<|
 Zo (.ext 29 (.t 22) 2)<|
 Zm 6 27<|
 Zm 7 28<|
 Zm 8 29 .nil)<|Zr (Zm 31 1<|
 Zm 32 5<|
 Zq 33 false 108 [.t 31,.t 32]<|
 Zm 30 33<|
 Zo (.ext 34 (.t 30) 0)<|
 Zo (.ext 35 (.t 30) 1)<|
 Zo (.ext 36 (.t 30) 2)<|
 Zm 9 34<|
 Zm 10 35<|
 Zm 11 36 .nil)<|Zr (Zf 37 0 2<|
 Zl 38 1 37<|
 Zm 39 6<|
 Zo (.cw 40 [.bool false,.aa] [(0,1,.t 38),(1,1,.t 39)])<|
 Zq 41 false 136 [.t 40]<|
 Zm 42 9<|
 Zo (.cw 43 [.bool false,.aa,.aa] [(0,2,.t 41),(2,1,.t 42)])<|
 Zs 3 4 43 .nil) .ret⟩
theorem Xr:Qe Tryz.prog Tryz.f96=some EM:=by kernel_rfl
def C7:az:=⟨8,[.cell 2 3 true],Zr (Zo (.box 1 3 32 (.t 0))<|
 Zo (.alloc 2 3 32 (.agg [.bool false,.aa,.aa])) .nil)<|Zr (Zf 3 0 1<|
 Zh 4 2 3<|
 Zf 5 2 1<|
 Zl 6 1 5<|
 Zq 7 false 96 [.t 4,.t 6]<|
 Zs 3 2 7 .nil) .ret⟩
theorem UY:Qe Tryz.prog Tryz.f100=some C7:=by kernel_rfl
def Eb:az:=⟨7,[.cell 2 3 true],Zr (Zo (.alloc 2 3 32 (.agg [.bool false,.aa,.aa])) .nil)<|Zr (Zm 3 0<|
 Zq 4 false 97 [.t 3]<|
 Zq 5 false 49 [.c (.int .u64 1)]<|
 Zq 6 false 96 [.t 4,.t 5]<|
 Zs 3 2 6 .nil) .ret⟩
theorem Xs:Qe Tryz.prog Tryz.f38=some Eb:=by kernel_rfl
def C9:az:=⟨5,[.cell 2 2 true],Zr (Zo (.alloc 2 2 30 (.agg [.bool false,.aa])) .nil)<|Zr (Zm 3 0<|
 Zo (.cw 4 [.bool false,.aa] [(1,1,.t 3)])<|
 Zs 2 2 4 .nil) .ret⟩
theorem UZ:Qe Tryz.prog Tryz.f102=some C9:=by kernel_rfl
def De:az:=⟨7,[.t 2],Zr (Zo (.box 1 3 32 (.t 0))<|
 Zc 2 0 .nil)<|Zr (Zh 3 3 1<|
 Zq 4 false 100 [.t 3]<|
 Zo (.s5 5 0 2 true (.t 4))<|
 Zq 6 false 147 [.t 5]<|
 Zm 2 6 .nil) .ret⟩
theorem U':Qe Tryz.prog Tryz.f109=some De:=by kernel_rfl
def Ee:az:=⟨22,[.t 4],Zr (Zo (.box 2 3 32 (.t 0))<|
 Zo (.box 3 3 32 (.t 1))<|
 Zc 4 0 .nil)<|Zr (Zh 5 3 2<|
 Zh 7 3 3<|
 Zq 6 true 100 [.t 5]<|
 Zq 8 true 100 [.t 7]<|
 Zs 3 2 6<|
 Zs 3 3 8 .nil)<|Zr (Zf 9 0 2<|
 Zh 10 2 9<|
 Zf 11 2 3<|
 Zl 12 1 11<|
 Zf 15 0 3<|
 Zh 16 2 15<|
 Zf 17 2 2<|
 Zl 18 1 17<|
 Zq 13 true 102 [.t 12]<|
 Zq 14 true 98 [.t 10,.t 13]<|
 Zq 19 true 102 [.t 18]<|
 Zq 20 true 98 [.t 16,.t 19]<|
 Zq 21 true 103 [.t 14,.t 20]<|
 Zm 4 21 .nil) .ret⟩
theorem Xt:Qe Tryz.prog Tryz.f42=some Ee:=by kernel_rfl
def Ed:az:=⟨28,[.cell 4 3 true],Zr (Zo (.box 2 3 32 (.t 0))<|
 Zo (.box 3 3 32 (.t 1))<|
 Zo (.alloc 4 3 32 (.agg [.bool false,.aa,.aa])) .nil)<|Zr (Zh 5 3 2<|
 Zh 7 3 3<|
 Zq 6 true 100 [.t 5]<|
 Zq 8 true 100 [.t 7]<|
 Zs 3 2 6<|
 Zs 3 3 8 .nil)<|Zr (Zf 9 0 2<|
 Zh 10 2 9<|
 Zf 11 2 3<|
 Zl 12 1 11<|
 Zf 15 0 3<|
 Zh 16 2 15<|
 Zf 17 2 2<|
 Zl 18 1 17<|
 Zf 22 2 2<|
 Zl 23 1 22<|
 Zf 24 2 3<|
 Zl 25 1 24<|
 Zq 13 true 102 [.t 12]<|
 Zq 14 true 98 [.t 10,.t 13]<|
 Zq 19 true 102 [.t 18]<|
 Zq 20 true 98 [.t 16,.t 19]<|
 Zq 21 true 101 [.t 14,.t 20]<|
 Zq 26 true 99 [.t 23,.t 25]<|
 Zq 27 true 96 [.t 21,.t 26]<|
 Zs 3 4 27 .nil) .ret⟩
theorem Xu:Qe Tryz.prog Tryz.f41=some Ed:=by kernel_rfl
def Ec:az:=⟨16,[.cell 4 3 true],Zr (Zo (.box 2 3 32 (.t 0))<|
 Zo (.box 3 3 32 (.t 1))<|
 Zo (.alloc 4 3 32 (.agg [.bool false,.aa,.aa])) .nil)<|Zr (Zf 5 0 2<|
 Zh 6 2 5<|
 Zf 7 0 3<|
 Zh 8 2 7<|
 Zf 10 2 2<|
 Zl 11 1 10<|
 Zf 12 2 3<|
 Zl 13 1 12<|
 Zq 9 true 98 [.t 6,.t 8]<|
 Zq 14 true 99 [.t 11,.t 13]<|
 Zq 15 true 96 [.t 9,.t 14]<|
 Zs 3 4 15 .nil) .ret⟩
theorem Xv:Qe Tryz.prog Tryz.f39=some Ec:=by kernel_rfl
theorem ku{l:List Nat}(hv:Qk l)(hl:l.length<2^42):Qd Tryz.prog 107 [PV.nat l] (· =PV.num (val l)):=by
 have ab8:=uO hv;refine Qf Qh Tryz.func107 rfl UK (by simp[Dc]) fun C hP=>?_;simp only[Dc,Zo,Zg,Zm,Zc,Zf,Zl,Zh,Zs,Zi,Zb,Zk,Zn,Zu,Zq,Zr,Zz];refine Sz0 ?_;refine Q3 (by repeat (first|exact Qx|exact Qq|exact Qr|exact Qt|exact Qu|apply Qp|apply Qw|apply Q2|apply Q7|apply Q8|apply Qn|apply Q6)) [(3,3),(7,18)] [] (fun m J hp=>m<=l.length/\cut l m=ak (val l)/\J 3= .int .i64 m/\hp=au) l.length ?_ ?_
 ·refine⟨Kag _,ab8,?_⟩;exact Tz0
 rintro n J _ ⟨hn,hc,h3,rfl⟩;refine Sz1 h3 ?_;refine eK (fun hg=>?_) (fun hg=>?_)
 ·obtain _|n:=n
  ·omega
  have e:((n+1:Nat):Int)-1=n:=by omega
  simp only[cut]at hc;simp+decide (disch:=try exact D2 h3 e) only[go_sem,h3,e];refine Qb (fun hz=>?_) (fun hz=>?_)
  ·rw[if_pos (by grind)]at hc;refine Sz2 h3 e ?_;refine Qm n (by omega) ⟨by omega,hc,?_⟩;exact Tz0
  ·rw[if_neg (by grind)]at hc;have an:(l.take (n+1)).length<2^42:=by rw[Kav];omega
   refine vr h3 e ?_;exact Qc (by rw[Kaj (by simp),hc]) rfl
 ·obtain rfl:n=0:=by omega
  simp+decide (disch:=first|omega|rfl|(simp+decide only[go_sem,h3,Kb3,Kby,Kbg]<;>rfl)|fail) only[go_sem,h3,Kb3,Kby,Kbg];rw[Bz (ys:=[]) rfl (by omega) (by simp) (by simp)];refine dL ?_;exact Qc (by show _=PV.nat (ak (val l));rw[<-hc];rfl) rfl
theorem l7{n:Nat}(hn:n<18446744073709551616):Qd Tryz.prog 49 [.int .u64 n] (· =PV.num n):=by
 have hlen:=nP hn;unfold nl at hlen;refine Qf Qh Tryz.func49 rfl Xi (by simp[El]) fun C hP=>?_;simp only[El,Zo,Zg,Zm,Zc,Zf,Zl,Zh,Zs,Zi,Zb,Zk,Zn,Zu,Zq,Zr,Zz];refine Sz0 ?_;refine mY 3 900 1 152 (by omega) Tz0 ?_;refine Q3 (by repeat (first|exact Qx|exact Qq|exact Qr|exact Qt|exact Qu|apply Qp|apply Qw|apply Q2|apply Q7|apply Q8|apply Qn|apply Q6)) [(0,0),(3,13)] [10,11,900] (fun m J hp=>∃done:List Nat,ak n=done++ak m/\m<=n/\J 0= .int .u64 m/\J 3= .ms 900 done.length/\hp 900=some ⟨1,152,bI done,false⟩) n ?_ ?_
 ·refine⟨[],rfl,Kag _,?_⟩;exact Tz0
 rintro m J hp ⟨done,hd,hm,h0,h3,hh⟩;rw[hd,KaJ]at hlen;refine Sz2 h0 h3 ?_;refine Qb (fun hz=>?_) (fun hz=>?_)
 ·have bh:m≠0:=by omega
  have lM:ak n=(done++[m%65536])++ak (m/65536):=by rw[hd,oQ bh];simp
  refine Sz3 h0 h3 @Nat.mod_mod ?_;rw[dB (f:=fun(x:Nat)=>.int .u16 x) (y:=m%65536) (xs:=done) (ty':=152) (fz:=false) (Tz1 hh) bd (by omega) rfl (by omega) (by omega)];refine Sz2 h0 h3 ?_;refine Qm (m/65536) (by omega) ⟨done++[m%65536],lM,by omega,?_⟩;refine Sz2 h0 h3 ?_;simp
 ·obtain rfl:m=0:=by omega
  rw[eh,Kao]at hd;refine vr h3 hh ?_;exact Qc (by show _=PV.nat (ak n);rw[hd,Kaj (by simp)]) rfl
theorem jI{a:List Nat}{i:Nat}(ha:Qk a)(hl:a.length<2^43):Qd Tryz.prog 139 [PV.nat a,.int .i64 i] (· = .int .i64 (dg a i:Nat)):=by
 refine Qf Qh Tryz.func139 rfl UM (by simp[Dy]) fun C hP=>?_;simp only[Dy,Zo,Zg,Zm,Zc,Zf,Zl,Zh,Zs,Zi,Zb,Zk,Zn,Zu,Zq,Zr,Zz];refine Sz0 ?_;refine Qb (fun hi=>?_) (fun hi=>?_)
 ·have aD:i<a.length:=by omega
  have zb:=dn ha aD;have hg:dg a i=a[i]:=eL aD;refine Sz0 ?_;exact Qc (by rw[hg]) rfl
 ·refine Sz0 ?_;exact Qc (by rw[dg,eM (by omega)];rfl) rfl
theorem xb{a:List Nat}(ha:Qk a)(hl:a.length<=4):Qd Tryz.prog 145 [PV.nat a] (· = .int .u64 (val a:Nat)):=by
 have an:∀k,val (a.drop k)<18446744073709551616:=fun k=>by have h1:=lv (tW ha k);have:65536^(a.drop k).length<=65536^4:=KaX (by omega) (by rw[KaY];omega);omega
 refine Qf Qh Tryz.func145 rfl UL (by simp[DF]) fun C hP=>?_;simp only[DF,Zo,Zg,Zm,Zc,Zf,Zl,Zh,Zs,Zi,Zb,Zk,Zn,Zu,Zq,Zr,Zz];refine Sz0 ?_;refine Q3 (by repeat (first|exact Qx|exact Qq|exact Qr|exact Qt|exact Qu|apply Qp|apply Qw|apply Q2|apply Q7|apply Q8|apply Qn|apply Q6)) [(3,4),(8,19)] [] (fun k J hp=>k<=a.length/\J 3= .int .u64 (val (a.drop k):Nat)/\J 4= .int .i64 ((k:Int)-1)) a.length ?_ ?_
 ·refine⟨Kag _,?_⟩;refine Sz0 ?_;simp[val]
 rintro k J h ⟨hk,h3,h4⟩;refine Sz2 h3 h4 ?_;refine Qb (fun hg=>?_) (fun hg=>?_)
 ·obtain _|n:=k
  ·omega
  have hn:n<a.length:=by omega
  have Fh:=dn ha hn;have e:((n+1:Nat):Int)-1=n:=by omega
  have hv:=iZ hn;have h1:=an n;generalize cR:a[n]=x at *
  have e2:val (a.drop (n+1))*65536+x=val (a.drop n):=by omega
  refine Sz5 h3 h4 e cR e2 ?_;refine Qm n (by omega) ⟨by omega,?_⟩;exact Tz0
 ·obtain rfl:k=0:=by omega
  simp+decide (disch:=first|omega|rfl|(simp+decide only[go_sem,h3,Kbq]<;>rfl)|fail) only[go_sem,h3,Kbq];exact Qc rfl rfl
theorem xp{a b:List Nat}(ha:Qk a)(hb:Qk b)(bz:a.length<2^42)(dG:b.length<2^42):Qd Tryz.prog 141 [PV.nat a,PV.nat b] (· = .int .i64 (gk (val a) (val b))):=by
 refine Qf Qh Tryz.func141 rfl UN (by simp[DB]) fun C hP=>?_;simp only[DB,Zo,Zg,Zm,Zc,Zf,Zl,Zh,Zs,Zi,Zb,Zk,Zn,Zu,Zq,Zr,Zz];refine Sz1 @KW ?_;refine Q3 (by repeat (first|exact Qx|exact Qq|exact Qr|exact Qt|exact Qu|apply Qp|apply Qw|apply Q2|apply Q7|apply Q8|apply Qn|apply Q6)) [(4,5),(12,29)] [] (fun k J hp=>k<=max a.length b.length/\val (a.drop k)=val (b.drop k)/\J 5= .int .i64 ((k:Int)-1)) (max a.length b.length) ?_ ?_
 ·refine⟨Kag _,?_,?_⟩
  ·rw[Kal (by omega),Kal (by omega)]
  ·exact Tz0
 rintro k J h ⟨hk,hv,h5⟩;refine Sz1 h5 ?_;refine Qb (fun hg=>?_) (fun hg=>?_)
 ·obtain _|n:=k
  ·omega
  have e:((n+1:Nat):Int)-1=n:=by omega
  have e1:=rZ a n;have e2:=rZ b n;have d1:=qw ha n;have d2:=qw hb n;refine Sz2 h5 e ?_;refine Qa hP (jI ha (by omega)) rfl rfl rfl ?_;refine Sz2 h5 e ?_;refine Qa hP (jI hb (by omega)) rfl rfl rfl ?_;refine Sz2 h5 e ?_;refine Qb (fun hc=>?_) (fun hc=>?_)
  ·have an:=H8 (a:=a) (b:=b) ha (i:=n) (by omega);refine Sz0 ?_;exact Qc (by rw[Ct an]) rfl
  refine Sz2 h5 e ?_;refine Qa hP (jI ha (by omega)) rfl rfl rfl ?_;refine Sz2 h5 e ?_;refine Qa hP (jI hb (by omega)) rfl rfl rfl ?_;refine Sz2 h5 e ?_;refine Qb (fun eG=>?_) (fun eG=>?_)
  ·have an:=H8 (a:=b) (b:=a) hb (i:=n) (by omega);refine Sz0 ?_;exact Qc (by rw[Cu an]) rfl
  ·refine Sz2 h5 e ?_;refine Qm n (by omega) ⟨by omega,by omega,?_⟩;exact Tz0
 ·obtain rfl:k=0:=by omega
  refine Sz0 ?_;exact Qc (by rw[K6 (by simpa using hv)]) rfl
theorem HT{a:List Nat}(ha:Qk a)(hl:a.length<2^43):Qd Tryz.prog 46 [PV.nat a] (· = .bool (decide (a.getLast? ≠some 0))):=by
 refine Qf Qh Tryz.func46 rfl Xl (by simp[Ei]) fun C hP=>?_;simp only[Ei,Zo,Zg,Zm,Zc,Zf,Zl,Zh,Zs,Zi,Zb,Zk,Zn,Zu,Zq,Zr,Zz];refine Sz0 ?_;refine dA (fun h0=>?_) (fun h0=>?_)
 ·have:a=[]:=Kat.1 (by omega);subst this;refine Sz0 ?_;exact Qc (by simp) rfl
 ·obtain⟨k,hk⟩:∃k,a.length=k+1:=⟨a.length-1,by omega⟩
  have tj:=RH hk;have e:((k+1:Nat):Int)-1=k:=by omega
  generalize hy:a[k]'(by omega)=y at *
  refine Sz3 hk e hy ?_;refine Qc (congrArg PV.bool ?_) rfl;rw[tj];exact decide_eq_decide.2 ⟨fun h h'=>h (by injection h' with h';rw[h'];rfl),fun h h'=>h (by rw[show y=0 by omega])⟩
theorem Qxr{a b:List Nat}(bz:a.length<2^43)(dG:b.length<2^43):Qd Tryz.prog 47 [PV.nat a,PV.nat b] (· = .bool (decide (a=b))):=by
 refine Qf Qh Tryz.func47 rfl Xm (by simp[Ej]) fun C hP=>?_;simp only[Ej,Zo,Zg,Zm,Zc,Zf,Zl,Zh,Zs,Zi,Zb,Zk,Zn,Zu,Zq,Zr,Zz];refine Sz0 ?_;refine Qb (fun h0=>?_) (fun h0=>?_)
 ·refine Sz0 ?_;exact Qc (congrArg PV.bool (by rw[decide_eq_false];rintro rfl;exact h0 rfl)) rfl
 have hlen:a.length=b.length:=by omega
 refine Sz0 ?_;refine Q3 (by repeat (first|exact Qx|exact Qq|exact Qr|exact Qt|exact Qu|apply Qp|apply Qw|apply Q2|apply Q7|apply Q8|apply Qn|apply Q6)) [(4,5),(11,25)] [] (fun n J hp=>∃i,n=a.length-i/\i<=a.length/\a.take i=b.take i/\J 5= .int .i64 (i:Nat)) a.length ?_ ?_
 ·refine⟨0,rfl,by omega,by simp,?_⟩;refine Sz0 ?_;rfl
 rintro _ J h ⟨i,rfl,hi,he,h5⟩;refine Sz1 h5 ?_;refine Qb (fun hg=>?_) (fun hg=>?_)
 ·have aD:i<a.length:=by omega
  have LW:i<b.length:=by omega
  have ta:=KaG aD;have tb:=KaG LW;have bh:a=b->a[i]=b[i]:=fun h=>by subst h;rfl
  generalize hx:a[i]=x at *
  generalize hy:b[i]=y at *
  refine Sz3 h5 hx hy ?_;refine Qb (fun hc=>?_) (fun hc=>?_)
  ·refine Sz0 ?_;exact Qc (congrArg PV.bool (by rw[decide_eq_false];intro h;exact hc (by rw[bh h]))) rfl
  ·refine Sz1 h5 ?_;refine Qm (a.length-(i+1)) (by omega) ⟨i+1,rfl,by omega,by rw[ta,tb,he,show x=y by omega],?_⟩;exact Tz0
 ·obtain rfl:i=a.length:=by omega
  rw[Kbp,hlen,Kbp]at he;refine Sz0 ?_;exact Qc (congrArg PV.bool (by rw[he];simp)) rfl
theorem Ic{a b:List Nat}(ha:Qk a)(hb:Qk b)(bz:a.length<2^40)(dG:b.length<2^40):Qd Tryz.prog 138 [PV.nat a,PV.nat b] (· =PV.num (val a+val b)):=by
 refine Qf Qh Tryz.func138 rfl UO (by simp[Dx]) fun C hP=>?_;simp only[Dx,Zo,Zg,Zm,Zc,Zf,Zl,Zh,Zs,Zi,Zb,Zk,Zn,Zu,Zq,Zr,Zz];refine Sz0 ?_;refine mY 5 900 1 152 (by omega) Tz0 ?_;refine Q3 (by repeat (first|exact Qx|exact Qq|exact Qr|exact Qt|exact Qu|apply Qp|apply Qw|apply Q2|apply Q7|apply Q8|apply Qn|apply Q6)) [(5,41)] [38,39,900] (fun m J hp=>∃(i c:Nat)(out:List Nat),m=2*(max a.length b.length-i)+c/\c<=1/\i<=max a.length b.length+1/\(i<=max a.length b.length∨c=0)/\out.length=i/\Qk out/\val out+65536^i*(c+val (a.drop i)+val (b.drop i))=val a+val b/\J 5= .ms 900 out.length/\J 6= .int .i64 c/\J 7= .int .i64 i/\hp 900=some ⟨1,152,bI out,false⟩) (2*max a.length b.length) ?_ ?_
 ·refine⟨0,0,[],rfl,by omega,by omega,by omega,rfl,kA,by simp[val],?_⟩;refine Sz0 ?_;simp
 rintro _ J h ⟨i,c,out,rfl,hc,hi,kQ,eu,jx,hv,h5,h6,h7,hh⟩;have e1:=rZ a i;have e2:=rZ b i;have d1:=qw ha i;have d2:=qw hb i;refine Sz3 h5 h6 h7 ?_;refine dA (fun hg=>?_) (fun hg=>?_)
 ·have an:i<max a.length b.length:=by omega
  have ee:(dg a i+dg b i+c)/65536<=1:=by omega
  have jz:val (out++[(dg a i+dg b i+c)%65536])+65536^(i+1)*((dg a i+dg b i+c)/65536+val (a.drop (i+1))+val (b.drop (i+1)))=val a+val b:=by
   rw[xL,eu,Kbi,<-hv,e1,e2];have:=Kbb (dg a i+dg b i+c) 65536;generalize 65536^i=P at *
   generalize(dg a i+dg b i+c)/65536=q at *
   generalize(dg a i+dg b i+c)%65536=r at *
   have e:c+(dg a i+65536*val (a.drop (i+1)))+(dg b i+65536*val (b.drop (i+1)))=r+65536*(q+val (a.drop (i+1))+val (b.drop (i+1))):=by omega
   rw[e,KaO P,Ka5];omega
  refine Sz3 h5 h6 h7 ?_;refine Qa hP (jI ha (by omega)) rfl rfl rfl ?_;refine Sz3 h5 h6 h7 ?_;refine Qa hP (jI hb (by omega)) rfl rfl rfl ?_;refine Sz4 h5 h6 h7 @Nat.mod_mod ?_;rw[dB (f:=fun(x:Nat)=>.int .u16 x) (y:=(dg a i+dg b i+c)%65536) (xs:=out) (ty':=152) (fz:=false) (Tz1 hh) bd (by omega) rfl (by omega) (by omega)];refine Sz3 h5 h6 h7 ?_;refine Qm (2*(max a.length b.length-(i+1))+(dg a i+dg b i+c)/65536) ?_ ⟨i+1,(dg a i+dg b i+c)/65536,out++[(dg a i+dg b i+c)%65536],rfl,ee,by omega,?_,by simp[eu],?_,jz,?_⟩
  ·by_cases an:i<max a.length b.length
   ·omega
   ·have z1:dg a i=0:=by rw[dg,eM (by omega)]
    have z2:dg b i=0:=by rw[dg,eM (by omega)]
    rw[z1,z2];omega
  ·by_cases an:i<max a.length b.length
   ·omega
   ·have z1:dg a i=0:=by rw[dg,eM (by omega)]
    have z2:dg b i=0:=by rw[dg,eM (by omega)]
    rw[z1,z2];omega
  ·rw[ky];exact⟨jx,by intro z hz;simp at hz;omega⟩
  ·refine Sz0 ?_;simp
 refine Sz3 h5 h6 h7 ?_;refine dA (fun gI=>?_) (fun gI=>?_)
 ·have an:i<max a.length b.length:=by omega
  have ee:(dg a i+dg b i+c)/65536<=1:=by omega
  have jz:val (out++[(dg a i+dg b i+c)%65536])+65536^(i+1)*((dg a i+dg b i+c)/65536+val (a.drop (i+1))+val (b.drop (i+1)))=val a+val b:=by
   rw[xL,eu,Kbi,<-hv,e1,e2];have:=Kbb (dg a i+dg b i+c) 65536;generalize 65536^i=P at *
   generalize(dg a i+dg b i+c)/65536=q at *
   generalize(dg a i+dg b i+c)%65536=r at *
   have e:c+(dg a i+65536*val (a.drop (i+1)))+(dg b i+65536*val (b.drop (i+1)))=r+65536*(q+val (a.drop (i+1))+val (b.drop (i+1))):=by omega
   rw[e,KaO P,Ka5];omega
  refine Sz3 h5 h6 h7 ?_;refine Qa hP (jI ha (by omega)) rfl rfl rfl ?_;refine Sz3 h5 h6 h7 ?_;refine Qa hP (jI hb (by omega)) rfl rfl rfl ?_;refine Sz4 h5 h6 h7 @Nat.mod_mod ?_;rw[dB (f:=fun(x:Nat)=>.int .u16 x) (y:=(dg a i+dg b i+c)%65536) (xs:=out) (ty':=152) (fz:=false) (Tz1 hh) bd (by omega) rfl (by omega) (by omega)];refine Sz3 h5 h6 h7 ?_;refine Qm (2*(max a.length b.length-(i+1))+(dg a i+dg b i+c)/65536) ?_ ⟨i+1,(dg a i+dg b i+c)/65536,out++[(dg a i+dg b i+c)%65536],rfl,ee,by omega,?_,by simp[eu],?_,jz,?_⟩
  ·by_cases an:i<max a.length b.length
   ·omega
   ·have z1:dg a i=0:=by rw[dg,eM (by omega)]
    have z2:dg b i=0:=by rw[dg,eM (by omega)]
    rw[z1,z2];omega
  ·by_cases an:i<max a.length b.length
   ·omega
   ·have z1:dg a i=0:=by rw[dg,eM (by omega)]
    have z2:dg b i=0:=by rw[dg,eM (by omega)]
    rw[z1,z2];omega
  ·rw[ky];exact⟨jx,by intro z hz;simp at hz;omega⟩
  ·refine Sz0 ?_;simp
 refine Sz3 h5 h6 h7 ?_;refine Qb (fun hg3=>?_) (fun hg3=>?_)
 ·have LW:i<=max a.length b.length:=by omega
  have ee:(dg a i+dg b i+c)/65536<=1:=by omega
  have jz:val (out++[(dg a i+dg b i+c)%65536])+65536^(i+1)*((dg a i+dg b i+c)/65536+val (a.drop (i+1))+val (b.drop (i+1)))=val a+val b:=by
   rw[xL,eu,Kbi,<-hv,e1,e2];have:=Kbb (dg a i+dg b i+c) 65536;generalize 65536^i=P at *
   generalize(dg a i+dg b i+c)/65536=q at *
   generalize(dg a i+dg b i+c)%65536=r at *
   have e:c+(dg a i+65536*val (a.drop (i+1)))+(dg b i+65536*val (b.drop (i+1)))=r+65536*(q+val (a.drop (i+1))+val (b.drop (i+1))):=by omega
   rw[e,KaO P,Ka5];omega
  refine Sz3 h5 h6 h7 ?_;refine Qa hP (jI ha (by omega)) rfl rfl rfl ?_;refine Sz3 h5 h6 h7 ?_;refine Qa hP (jI hb (by omega)) rfl rfl rfl ?_;refine Sz4 h5 h6 h7 @Nat.mod_mod ?_;rw[dB (f:=fun(x:Nat)=>.int .u16 x) (y:=(dg a i+dg b i+c)%65536) (xs:=out) (ty':=152) (fz:=false) (Tz1 hh) bd (by omega) rfl (by omega) (by omega)];refine Sz3 h5 h6 h7 ?_;refine Qm (2*(max a.length b.length-(i+1))+(dg a i+dg b i+c)/65536) ?_ ⟨i+1,(dg a i+dg b i+c)/65536,out++[(dg a i+dg b i+c)%65536],rfl,ee,by omega,?_,by simp[eu],?_,jz,?_⟩
  ·by_cases an:i<max a.length b.length
   ·omega
   ·have z1:dg a i=0:=by rw[dg,eM (by omega)]
    have z2:dg b i=0:=by rw[dg,eM (by omega)]
    rw[z1,z2];omega
  ·by_cases an:i<max a.length b.length
   ·omega
   ·have z1:dg a i=0:=by rw[dg,eM (by omega)]
    have z2:dg b i=0:=by rw[dg,eM (by omega)]
    rw[z1,z2];omega
  ·rw[ky];exact⟨jx,by intro z hz;simp at hz;omega⟩
  ·refine Sz0 ?_;simp
 ·obtain rfl:c=0:=by omega
  rw[Kal (by omega),Kal (by omega)]at hv;simp only[val,KaM,KbK]at hv;refine Sz2 h5 hh ?_;refine qf hP (ku jx (by omega)) (by simp+decide (disch:=try exact E1 hh) only[go_sem,hh,eU,Kay,KaI,KaA,KaK,Kao];simp[Kaj]) rfl fun hp'=>?_;refine Sz0 ?_;exact Qc (by rw[hv]) rfl
theorem Bl{a b:List Nat}(ha:Qk a)(hb:Qk b)(bz:a.length<2^40)(dG:b.length<2^40):Qd Tryz.prog 140 [PV.nat a,PV.nat b] (· =if val a<val b then .aO [PV.num 0,.int .i64 2]else .aO [PV.num (val a-val b),.int .i64 0]):=by
 refine Qf Qh Tryz.func140 rfl UP (by simp[DA]) fun C hP=>?_;simp only[DA,Zo,Zg,Zm,Zc,Zf,Zl,Zh,Zs,Zi,Zb,Zk,Zn,Zu,Zq,Zr,Zz];refine Sz0 ?_;refine Qa hP (xp ha hb (by omega) (by omega)) rfl rfl rfl ?_;refine Sz0 ?_;refine Qb (fun hc=>?_) (fun hc=>?_)
 ·rw[if_pos (xR.1 hc)];refine Sz0 ?_;exact jR rfl rfl rfl sh (bT _)
 have fD:¬val a<val b:=fun h=>hc (xR.2 h);rw[if_neg fD];refine Sz0 ?_;refine mY 6 900 1 152 (by omega) Tz0 ?_;refine Q3 (by repeat (first|exact Qx|exact Qq|exact Qr|exact Qt|exact Qu|apply Qp|apply Qw|apply Q2|apply Q7|apply Q8|apply Qn|apply Q6)) [(6,9),(14,37)] [36,37,900] (fun m J hp=>∃(i c:Nat)(out:List Nat),m=a.length-i/\c<=1/\i<=a.length/\out.length=i/\Qk out/\val (a.take i)+65536^i*c=val out+val (b.take i)/\J 6= .ms 900 out.length/\J 7= .int .i64 c/\J 8= .int .i64 i/\hp 900=some ⟨1,152,bI out,false⟩) a.length ?_ ?_
 ·refine⟨0,0,[],rfl,by omega,by omega,rfl,kA,by simp[val],?_⟩;refine Sz0 ?_;simp
 rintro _ J h ⟨i,c,out,rfl,jZ,hi,eu,jx,hv,h6,h7,h8,hh⟩;refine Sz3 h6 h7 h8 ?_;refine Qb (fun hg=>?_) (fun hg=>?_)
 ·have aD:i<a.length:=by omega
  have e1:=HH a i;have e2:=HH b i;have d1:=qw ha i;have d2:=qw hb i;refine Sz3 h6 h7 h8 ?_;refine Qa hP (jI ha (by omega)) rfl rfl rfl ?_;refine Sz3 h6 h7 h8 ?_;refine Qa hP (jI hb (by omega)) rfl rfl rfl ?_;refine Sz3 h6 h7 h8 ?_;have step:∀(d c':Nat),d<65536->c'<=1->dg a i+65536*c'=d+dg b i+c->val (a.take (i+1))+65536^(i+1)*c'=val (out++[d])+val (b.take (i+1)):=fun d c' _ _ h3=>by
   rw[xL,eu,e1,e2,Kbi];generalize 65536^i=P at *
   have:P*(dg a i+65536*c')=P*(d+dg b i+c):=by rw[h3]
   rw[KaO,<-Nat.mul_assoc,KaO,KaO]at this;omega
  refine Qb (fun hd=>?_) (fun hd=>?_)
  ·obtain⟨d,vM⟩:∃d:Nat,(dg a i:Int)-(dg b i:Int)-(c:Int)+65536=d:=⟨((dg a i:Int)-(dg b i:Int)-(c:Int)+65536).toNat,by omega⟩
   have aW:=step d 1 (by omega) (by omega) (by omega);refine Sz4 h6 h7 h8 vM ?_;rw[dB (f:=fun(x:Nat)=>.int .u16 x) (y:=d) (xs:=out) (ty':=152) (fz:=false) (Tz1 hh) (by simp+decide (disch:=first|omega|rfl|(simp+decide only[go_sem,KaC (by omega:d<65536)]<;>rfl)|fail) only[go_sem,KaC (by omega:d<65536)]) (by omega) rfl (by omega) (by omega)];refine Sz3 h6 h7 h8 ?_;refine Qm (a.length-(i+1)) (by omega) ⟨i+1,1,out++[d],rfl,by omega,by omega,by simp[eu],?_,aW,?_⟩
   ·rw[ky];exact⟨jx,by intro z hz;simp at hz;omega⟩
   ·refine Sz0 ?_;simp
  ·obtain⟨d,vM⟩:∃d:Nat,(dg a i:Int)-(dg b i:Int)-(c:Int)=d:=⟨((dg a i:Int)-(dg b i:Int)-(c:Int)).toNat,by omega⟩
   have aW:=step d 0 (by omega) (by omega) (by omega);refine Sz4 h6 h7 h8 vM ?_;rw[dB (f:=fun(x:Nat)=>.int .u16 x) (y:=d) (xs:=out) (ty':=152) (fz:=false) (Tz1 hh) (by simp+decide (disch:=first|omega|rfl|(simp+decide only[go_sem,KaC (by omega:d<65536)]<;>rfl)|fail) only[go_sem,KaC (by omega:d<65536)]) (by omega) rfl (by omega) (by omega)];refine Sz3 h6 h7 h8 ?_;refine Qm (a.length-(i+1)) (by omega) ⟨i+1,0,out++[d],rfl,by omega,by omega,by simp[eu],?_,aW,?_⟩
   ·rw[ky];exact⟨jx,by intro z hz;simp at hz;omega⟩
   ·refine Sz0 ?_;simp
 ·obtain rfl:i=a.length:=by omega
  have hbz:val (b.drop a.length)=0:=xl (by have:=lv ha;omega);have om:=Bs b a.length;rw[hbz,KbK,KaM]at om;rw[Kbp,<-om]at hv;have hvo:=lv jx;rw[eu]at hvo;have nt:c=0:=by
   match c,jZ with
   |0,_=>rfl
   |1,_=>exfalso;have:=lv ha;omega
  subst nt;refine Sz2 h6 hh ?_;refine qf hP (ku jx (by omega)) (by simp+decide (disch:=try exact E1 hh) only[go_sem,hh,eU,Kay,KaI,KaA,KaK,Kao];simp[Kaj]) rfl fun hp'=>?_;refine Sz0 ?_;exact jR rfl rfl rfl (oO (congrArg PV.num (by omega))) (bT _)
theorem Bm{a b:List Nat}(ha:Qk a)(hb:Qk b)(bz:a.length<2^40)(dG:b.length<2^40):Qd Tryz.prog 99 [PV.nat a,PV.nat b] (· =PV.num (val a*val b)):=by
 refine Qf Qh Tryz.func99 rfl Xj (by simp[EP]) fun C hP=>?_;simp only[EP,Zo,Zg,Zm,Zc,Zf,Zl,Zh,Zs,Zi,Zb,Zk,Zn,Zu,Zq,Zr,Zz];refine Sz0 ?_;refine Q3 (by repeat (first|exact Qx|exact Qq|exact Qr|exact Qt|exact Qu|apply Qp|apply Qw|apply Q2|apply Q7|apply Q8|apply Qn|apply Q6)) [(6,9),(17,62)] [] (fun m J hp=>∃(i:Nat)(L:List Nat),m=a.length-i/\i<=a.length/\L.length=a.length+b.length+1/\Qk L/\val L=val (a.take i)*val b/\J 6= .int .i64 i/\hp=Qi au 16 ⟨1,152,bI L,false⟩) a.length ?_ ?_
 ·refine⟨0,List.replicate (a.length+b.length+1) 0,rfl,by omega,by simp,?_,by simp[val,Ju],?_⟩
  ·intro z hz;rw[List.eq_of_mem_replicate hz];omega
  ·refine Sz0 ?_;simp
 rintro _ J _ ⟨i,L,rfl,hi,vE,hL,hv,h6,rfl⟩;refine Sz1 h6 ?_;refine Qb (fun hg=>?_) (fun hg=>?_)
 ·have aD:i<a.length:=by omega
  have zb:=dn ha aD;have iN:=tM aD;have MH:dg L (i+b.length)=0:=by apply NU;apply xl;rw[hv,Nat.pow_add];have h1:=oK ha i (by omega);have h2:=lv hb;exact Nat.mul_lt_mul'' h1 h2
  generalize cR:a[i]=ai at *
  refine Sz2 h6 cR ?_;refine Q3 (by repeat (first|exact Qx|exact Qq|exact Qr|exact Qt|exact Qu|apply Qp|apply Qw|apply Q2|apply Q7|apply Q8|apply Qn|apply Q6)) [(7,9),(23,62)] [] (fun m J hp=>∃(k c:Nat)(M:List Nat),m=b.length+1-k/\k<=b.length+1/\(k<=b.length∨c=0)/\c<65536/\M.length=L.length/\Qk M/\val M+65536^(i+k)*(c+ai*val (b.drop k))=val L+65536^i*(ai*val b)/\(∀j,i+k<=j->dg M j=dg L j)/\J 7= .int .u64 c/\J 8= .int .i64 k/\hp=Qi au 16 ⟨1,152,bI M,false⟩) (b.length+1) ?_ ?_
  ·refine⟨0,0,L,rfl,by omega,by omega,by omega,rfl,hL,by simp,fun _ _=>rfl,?_⟩;refine Sz1 h6 ?_;simp
  rintro _ J2 _ ⟨k,c,M,rfl,hk,pL,hc,Lr,hM,hw,ry,h7,h8,rfl⟩;have e2:=rZ b k;have d2:=qw hb k;refine Sz3 h6 h7 h8 ?_;refine dA (fun vT=>?_) (fun vT=>?_)
  ·have acw:k<=b.length:=by omega
   have hj:i+k<M.length:=by omega
   have hx:=dn hM hj;have ki:=fun v=>Gv (v:=v) hj;have ri:=oN zb d2;have qW:dg M (i+k)=M[i+k]:=eL hj;generalize kj:M[i+k]=x at *
   have pF:=Kbb (x+ai*dg b k+c) 65536;have j':=JG (T:=val L+65536^i*(ai*val b)) (ki ((x+ai*dg b k+c)%65536)) (by rw[<-e2];exact hw) pF;have hr:=Kbn (x+ai*dg b k+c) (show 0<65536 by omega);have hq:(x+ai*dg b k+c)/65536<65536:=by omega
   have ib:¬k<b.length->(x+ai*dg b k+c)/65536=0:=fun h=>by
    have z1:dg b k=0:=by rw[dg,eM (by omega)]
    have z2:x=0:=by rw[<-qW,ry _ (Kag _),show i+k=i+b.length by omega,MH]
    rw[z1,z2];omega
   have vV:Qk (M.set (i+k) ((x+ai*dg b k+c)%65536)):=fun z hz=>by
    rcases List.mem_or_eq_of_mem_set hz with h|h
    ·exact hM z h
    ·omega
   have e5:IntKind.u64.wrap ((ai*dg b k:Nat):Int)=((ai*dg b k:Nat):Int):=nO (by omega) (by omega);refine Sz5 h6 h7 h8 cR kj ?_;refine Qa hP (jI hb (by omega)) rfl rfl rfl ?_;refine Sz7 h6 h7 h8 cR kj e5 @Nat.mod_mod ?_;refine Qm (b.length+1-(k+1)) (by omega) ⟨k+1,(x+ai*dg b k+c)/65536,M.set (i+k) ((x+ai*dg b k+c)%65536),rfl,by omega,?_,hq,by rw[List.length_set];exact Lr,vV,?_,?_,?_⟩
   ·by_cases h:k<b.length
    ·omega
    ·exact .inr (ib h)
   ·rw[<-Nat.add_assoc,Kbi];exact j'
   ·intro j FF;rw[JH (by omega)];exact ry j (by omega)
   ·exact Tz3 h6 h7 h8
  refine Sz3 h6 h7 h8 ?_;refine Qb (fun nt=>?_) (fun nt=>?_)
  ·have acw:k<=b.length:=by omega
   have hj:i+k<M.length:=by omega
   have hx:=dn hM hj;have ki:=fun v=>Gv (v:=v) hj;have ri:=oN zb d2;have qW:dg M (i+k)=M[i+k]:=eL hj;generalize kj:M[i+k]=x at *
   have pF:=Kbb (x+ai*dg b k+c) 65536;have j':=JG (T:=val L+65536^i*(ai*val b)) (ki ((x+ai*dg b k+c)%65536)) (by rw[<-e2];exact hw) pF;have hr:=Kbn (x+ai*dg b k+c) (show 0<65536 by omega);have hq:(x+ai*dg b k+c)/65536<65536:=by omega
   have ib:¬k<b.length->(x+ai*dg b k+c)/65536=0:=fun h=>by
    have z1:dg b k=0:=by rw[dg,eM (by omega)]
    have z2:x=0:=by rw[<-qW,ry _ (Kag _),show i+k=i+b.length by omega,MH]
    rw[z1,z2];omega
   have vV:Qk (M.set (i+k) ((x+ai*dg b k+c)%65536)):=fun z hz=>by
    rcases List.mem_or_eq_of_mem_set hz with h|h
    ·exact hM z h
    ·omega
   have e5:IntKind.u64.wrap ((ai*dg b k:Nat):Int)=((ai*dg b k:Nat):Int):=nO (by omega) (by omega);refine Sz5 h6 h7 h8 cR kj ?_;refine Qa hP (jI hb (by omega)) rfl rfl rfl ?_;refine Sz7 h6 h7 h8 cR kj e5 @Nat.mod_mod ?_;refine Qm (b.length+1-(k+1)) (by omega) ⟨k+1,(x+ai*dg b k+c)/65536,M.set (i+k) ((x+ai*dg b k+c)%65536),rfl,by omega,?_,hq,by rw[List.length_set];exact Lr,vV,?_,?_,?_⟩
   ·by_cases h:k<b.length
    ·omega
    ·exact .inr (ib h)
   ·rw[<-Nat.add_assoc,Kbi];exact j'
   ·intro j FF;rw[JH (by omega)];exact ry j (by omega)
   ·exact Tz3 h6 h7 h8
  ·obtain rfl:c=0:=by omega
   rw[Kal (by omega)]at hw;simp only[val,KbK,KaM]at hw;refine Sz3 h6 h7 h8 ?_;simp (disch:=decide) only[ln,yd];refine Qm (a.length-(i+1)) (by omega) ⟨i+1,M,rfl,by omega,by omega,hM,?_,?_⟩
   ·rw[hw,hv,iN,Kaz,Ka5]
   ·exact Tz0
 ·obtain rfl:i=a.length:=by omega
  rw[Kbp]at hv;refine Sz0 ?_;refine qf hP (ku hL (by omega)) (by simp+decide (disch:=try exact E0) only[go_sem,eU,Kay,KaI,KaA,KaK,Kao];simp[Kaj,vE]) rfl fun hp'=>?_;refine Sz0 ?_;exact Qc (by rw[hv]) rfl
theorem xw{x y:Nat}(hx:nl x<2^40)(hy:nl y<2^40):Qd Tryz.prog 99 [PV.num x,PV.num y] (· =PV.num (x*y)):=by
 have:=Bm (Ql x) (Ql y) hx hy
 rwa[Qz,Qz]at this
theorem N7{x y:Nat}(hx:nl x<2^42)(hy:nl y<2^42):Qd Tryz.prog 141 [PV.num x,PV.num y] (· = .int .i64 (gk x y)):=by
 have:=xp (Ql x) (Ql y) hx hy
 rwa[Qz,Qz]at this
theorem I5{x y:Nat}(hx:nl x<2^40)(hy:nl y<2^40)(h:y<=x):Qd Tryz.prog 140 [PV.num x,PV.num y] (· = .aO [PV.num (x-y),.int .i64 0]):=by
 have:=Bl (Ql x) (Ql y) hx hy
 rwa[Qz,Qz,if_neg (by omega)]at this
theorem GA{x y:Nat}:gk x y<=0↔x<=y:=by unfold gk;split<;>(try split)<;>omega
theorem HU{x y:Nat}(hx:nl x<2^38)(hy:nl y<2^38)(cF:0<y):Qd Tryz.prog 146 [PV.num x,PV.num y] (· = .int .u64 (min 65535 (x/y):Nat)):=by
 have lR:∀(n d:Nat) fr hp K,n<18446744073709551616->bG .quo false (.int .u64 (n:Int)) (.int .u64 2) d fr hp K=K (ae fr d (.int .u64 ((n/2:Nat):Int))) hp:=fun n d fr hp K h=>by rw[show(2:Int)=((2:Nat):Int)from rfl,uF (by omega) h]
 refine Qf Qh Tryz.func146 rfl UQ (by simp[DG]) fun C hP=>?_;simp only[DG,Zo,Zg,Zm,Zc,Zf,Zl,Zh,Zs,Zi,Zb,Zk,Zn,Zu,Zq,Zr,Zz];refine Sz0 ?_;refine Q3 (by repeat (first|exact Qx|exact Qq|exact Qr|exact Qt|exact Qu|apply Qp|apply Qw|apply Q2|apply Q7|apply Q8|apply Qn|apply Q6)) [(5,25)] [] (fun m J hp=>∃lo hi:Nat,m=hi-lo/\lo<=hi/\hi<=65535/\y*lo<=x/\(hi=65535∨x<y*(hi+1))/\J 5= .int .u64 lo/\J 6= .int .u64 hi) 65535 ?_ ?_
 ·refine⟨0,65535,rfl,by omega,by omega,by omega,.inl rfl,?_⟩;refine Sz0 ?_;simp
 rintro _ J h ⟨lo,hi,rfl,h1,h2,h3,h4,h5,h6⟩;refine Sz2 h5 h6 ?_;refine Qb (fun hg=>?_) (fun hg=>?_)
 ·have dI:nl ((lo+hi+1)/2)<=4:=nP (by omega);have hm:=mh y ((lo+hi+1)/2);generalize acI:(lo+hi+1)/2=rF at *
  refine Sz4 h5 h6 lR acI ?_;refine Qa hP (l7 (n:=rF) (by omega)) rfl rfl rfl ?_;refine Sz2 h5 h6 ?_;refine Qa hP (xw (x:=y) (y:=rF) (by omega) (by omega)) rfl rfl rfl ?_;refine Sz2 h5 h6 ?_;refine Qa hP (N7 (x:=y*rF) (y:=x) (by omega) (by omega)) rfl rfl rfl ?_;refine Sz2 h5 h6 ?_;refine Qb (fun hc=>?_) (fun hc=>?_)
  ·rw[GA]at hc;refine Sz2 h5 h6 ?_;refine Qm (hi-rF) (by omega) ⟨rF,hi,rfl,by omega,h2,hc,h4,?_⟩;exact Tz1 h6
  ·rw[GA]at hc;obtain⟨n,rfl⟩:∃n,rF=n+1:=⟨rF-1,by omega⟩
   have e:((n+1:Nat):Int)-1=n:=by omega
   refine Sz3 h5 h6 e ?_;refine Qm (n-lo) (by omega) ⟨lo,n,rfl,by omega,by omega,h3,.inr (by omega),?_⟩;exact Tz1 h5
 ·obtain rfl:lo=hi:=by omega
  refine Sz1 h5 ?_;refine Qc ?_ rfl;have hle:lo<=x/y:=(Nat.le_div_iff_mul_le cF).2 (by rw[KaS];exact h3);rcases h4 with rfl|h4
  ·rw[KbJ hle]
  ·have:x/y<lo+1:=(Ka6 cF).2 (by rw[KaS];exact h4);congr 2;omega
theorem HI{a b:List Nat}(ha:Qk a)(hb:Qk b)(bz:a.length<2^36)(dG:b.length<2^36):Qd Tryz.prog 108 [PV.nat a,PV.nat b]
  (· =if val b=0 then .aO [PV.num 0,PV.num 0,.int .i64 3]else .aO [PV.num (val a/val b),PV.num (val a%val b),.int .i64 0]):=by
 have eQ:=bS ha;have fP:=bS hb;refine Qf Qh Tryz.func108 rfl UR (by simp[Dd]) fun C hP=>?_;simp only[Dd,Zo,Zg,Zm,Zc,Zf,Zl,Zh,Zs,Zi,Zb,Zk,Zn,Zu,Zq,Zr,Zz];refine Sz0 ?_;refine Qa hP (ku ha (by omega)) rfl rfl rfl ?_;refine Sz0 ?_;refine Qa hP (ku hb (by omega)) rfl rfl rfl ?_;refine Sz0 ?_;generalize val a=x at *
 generalize val b=y at *
 unfold nl at eQ fP;refine Qb (fun hz=>?_) (fun hz=>?_)
 ·have cF:y=0:=iU.1 (l0 (by omega));refine Sz0 ?_;rw[if_pos cF];exact o9 rfl rfl rfl rfl sh sh (bT _)
 have cF:y≠0:=fun h=>by rw[h,eh]at hz;simp at hz
 rw[if_neg cF];have hyp:0<y:=Ka9 cF;have dS:=Ql x;have iP:=Ql y;have mP:=Qz x;have rz:=Qz y;refine Sz0 ?_;refine eK (fun h1=>?_) (fun h1=>?_)
 ·refine Sz0 ?_;refine Qb (fun h2=>?_) (fun h2=>?_)
  ·have afe:=xJ.1 (show nl x<=4 by unfold nl;omega);have aff:=xJ.1 (show nl y<=4 by unfold nl;omega);have hq:=Kci x y;have hr:=Kbn x hyp;refine Sz0 ?_;refine Qa hP (xb dS (by omega)) rfl rfl rfl ?_;refine Sz1 mP ?_;refine Qa hP (xb iP (by omega)) rfl rfl rfl ?_;refine Sz3 mP rz @uF ?_;refine Qa hP (l7 (n:=x/y) (by omega)) rfl rfl rfl ?_;refine Sz0 ?_;refine Qa hP (xb dS (by omega)) rfl rfl rfl ?_;refine Sz1 mP ?_;refine Qa hP (xb iP (by omega)) rfl rfl rfl ?_;refine Sz3 mP rz @mX ?_;refine Qa hP (l7 (n:=x%y) (by omega)) rfl rfl rfl ?_;refine Sz0 ?_;exact o9 rfl rfl rfl rfl (bT _) (bT _) (bT _)
  ·have ac1:=trivial;refine Sz0 ?_;refine uH 7 1 Tz0 ?_;refine uH 8 1 Tz0 ?_;refine J8 (by repeat (first|exact Qx|exact Qq|exact Qr|exact Qt|exact Qu|apply Qp|apply Qw|apply Q2|apply Q7|apply Q8|apply Qn|apply Q6)) [(7,10),(41,69)] [49,51,58,60] (fun k J hp=>∃qs,k<=(ak x).length/\qs.length=(ak x).length-k/\Qk qs/\val qs=val ((ak x).drop k)/y/\J 7= .sl 1 (bI qs)/\J 8=PV.num (val ((ak x).drop k)%y)/\J 9= .int .i64 ((k:Int)-1)) (ak x).length ?_ ?_
   ·refine⟨[],Kag _,by simp,kA,by simp[val],?_⟩;refine Sz0 ?_;simp[val,eh]
   rintro k J h ⟨qs,hk,Md,lS,nB,h7,h8,h9⟩;refine Sz3 h7 h8 h9 ?_;have hr:=Kbn (val ((ak x).drop k)) hyp;refine Qb (fun hg=>?_) (fun hg=>?_)
   ·obtain _|n:=k
    ·omega
    have hn:n<(ak x).length:=by omega
    have Fh:=dn dS hn;have e:((n+1:Nat):Int)-1=n:=by omega
    have aW:=IX (x:=(ak x)[n]) hyp nB;rw[<-iZ hn]at aW;generalize hV:val ((ak x).drop (n+1))%y=r at *
    generalize cR:(ak x)[n]=xi at *
    have rq:(ak r).length<=(ak y).length:=fm (Nat.le_of_lt hr);have mJ:Qk ([xi]++ak r):=by rw[ky];exact⟨by intro z hz;simp at hz;omega,Ql r⟩
    have jB:val ([xi]++ak r)=r*65536+xi:=by rw[jK,Qz];simp[val];omega
    have an:(r*65536+xi)/y<65536:=by rw[Ka6 hyp];have:(r+1)*65536<=y*65536:=Kam _ hr;omega
    have FN:nl (r*65536+xi)<=(ak y).length+1:=by have:=bS mJ;rw[jB,KaJ]at this;simp at this;omega
    have pF:=Kbb (r*65536+xi) y;have eS:nl (y*((r*65536+xi)/y))<=(ak y).length+1:=KaZ (fm (by omega)) FN;have FM:nl ((r*65536+xi)/y)<=4:=nP (by omega);have FY:r*65536+xi-y*((r*65536+xi)/y)=(r*65536+xi)%y:=by omega
    refine Sz5 h7 h8 h9 e cR ?_;rw[jL (f:=fun(x:Nat)=>.int .u16 x) (xs:=[xi]) (ys:=ak r) (n:=1) bd rfl (by omega) (by omega) (by omega)];refine Sz5 h7 h8 h9 e cR ?_;refine ix hP (ku (l:=[xi]++ak r) mJ (by simp;omega)) (by simp+decide (disch:=try exact E0) only[go_sem,eU,Kay,KaI,KaA,KaK,Kao];simp[KbO 1,Kaj]) rfl ?_;rw[jB];refine Sz5 h7 h8 h9 e cR ?_;refine Qa hP (HU (x:=r*65536+xi) (y:=y) (by omega) (by unfold nl;omega) hyp) rfl rfl rfl ?_;rw[Kcv (by omega:(r*65536+xi)/y<=65535)];generalize hD:(r*65536+xi)/y=D at *
    simp+decide (disch:=first|omega|rfl|(simp+decide only[go_sem,h7,h8,h9,e,cR,KaC an]<;>rfl)|fail) only[go_sem,h7,h8,h9,e,cR,KaC an];rw[jL (f:=fun(x:Nat)=>.int .u16 x) (xs:=[D]) (ys:=qs) (n:=1) bd rfl (by omega) (by omega) (by omega)];refine Sz5 h7 h8 h9 e cR ?_;refine Qa hP (l7 (n:=D) (by omega)) rfl rfl rfl ?_;refine Sz4 h7 h8 h9 e ?_;refine Qa hP (xw (x:=y) (y:=D) (by unfold nl;omega) (by omega)) rfl rfl rfl ?_;refine Sz4 h7 h8 h9 e ?_;refine Qa hP (I5 (x:=r*65536+xi) (y:=y*D) (by omega) (by omega) (by omega)) rfl rfl rfl ?_;rw[FY];refine Sz4 h7 h8 h9 e ?_;refine IW 7 n rfl ?_ (by omega) ⟨D::qs,by omega,by simp;omega,?_,?_,?_⟩
    ·exact ob
    ·rw[e7];exact⟨an,lS⟩
    ·rw[val,aW.1]
    ·refine La aW.2 ?_;simp[KbO 1,Kaj]
   ·obtain rfl:k=0:=by omega
    rw[Kbq,mP]at nB h8;refine Sz2 h7 h8 ?_;refine Qa hP (ku lS (by omega)) rfl rfl rfl ?_;refine Sz2 h7 h8 ?_;exact o9 rfl rfl rfl rfl (oO (by rw[nB])) (bT _) (bT _)
 ·have ac1:=trivial;refine Sz0 ?_;refine uH 7 1 Tz0 ?_;refine uH 8 1 Tz0 ?_;refine J8 (by repeat (first|exact Qx|exact Qq|exact Qr|exact Qt|exact Qu|apply Qp|apply Qw|apply Q2|apply Q7|apply Q8|apply Qn|apply Q6)) [(7,10),(41,69)] [49,51,58,60] (fun k J hp=>∃qs,k<=(ak x).length/\qs.length=(ak x).length-k/\Qk qs/\val qs=val ((ak x).drop k)/y/\J 7= .sl 1 (bI qs)/\J 8=PV.num (val ((ak x).drop k)%y)/\J 9= .int .i64 ((k:Int)-1)) (ak x).length ?_ ?_
  ·refine⟨[],Kag _,by simp,kA,by simp[val],?_⟩;refine Sz0 ?_;simp[val,eh]
  rintro k J h ⟨qs,hk,Md,lS,nB,h7,h8,h9⟩;refine Sz3 h7 h8 h9 ?_;have hr:=Kbn (val ((ak x).drop k)) hyp;refine Qb (fun hg=>?_) (fun hg=>?_)
  ·obtain _|n:=k
   ·omega
   have hn:n<(ak x).length:=by omega
   have Fh:=dn dS hn;have e:((n+1:Nat):Int)-1=n:=by omega
   have aW:=IX (x:=(ak x)[n]) hyp nB;rw[<-iZ hn]at aW;generalize hV:val ((ak x).drop (n+1))%y=r at *
   generalize cR:(ak x)[n]=xi at *
   have rq:(ak r).length<=(ak y).length:=fm (Nat.le_of_lt hr);have mJ:Qk ([xi]++ak r):=by rw[ky];exact⟨by intro z hz;simp at hz;omega,Ql r⟩
   have jB:val ([xi]++ak r)=r*65536+xi:=by rw[jK,Qz];simp[val];omega
   have an:(r*65536+xi)/y<65536:=by rw[Ka6 hyp];have:(r+1)*65536<=y*65536:=Kam _ hr;omega
   have FN:nl (r*65536+xi)<=(ak y).length+1:=by have:=bS mJ;rw[jB,KaJ]at this;simp at this;omega
   have pF:=Kbb (r*65536+xi) y;have eS:nl (y*((r*65536+xi)/y))<=(ak y).length+1:=KaZ (fm (by omega)) FN;have FM:nl ((r*65536+xi)/y)<=4:=nP (by omega);have FY:r*65536+xi-y*((r*65536+xi)/y)=(r*65536+xi)%y:=by omega
   refine Sz5 h7 h8 h9 e cR ?_;rw[jL (f:=fun(x:Nat)=>.int .u16 x) (xs:=[xi]) (ys:=ak r) (n:=1) bd rfl (by omega) (by omega) (by omega)];refine Sz5 h7 h8 h9 e cR ?_;refine ix hP (ku (l:=[xi]++ak r) mJ (by simp;omega)) (by simp+decide (disch:=try exact E0) only[go_sem,eU,Kay,KaI,KaA,KaK,Kao];simp[KbO 1,Kaj]) rfl ?_;rw[jB];refine Sz5 h7 h8 h9 e cR ?_;refine Qa hP (HU (x:=r*65536+xi) (y:=y) (by omega) (by unfold nl;omega) hyp) rfl rfl rfl ?_;rw[Kcv (by omega:(r*65536+xi)/y<=65535)];generalize hD:(r*65536+xi)/y=D at *
   simp+decide (disch:=first|omega|rfl|(simp+decide only[go_sem,h7,h8,h9,e,cR,KaC an]<;>rfl)|fail) only[go_sem,h7,h8,h9,e,cR,KaC an];rw[jL (f:=fun(x:Nat)=>.int .u16 x) (xs:=[D]) (ys:=qs) (n:=1) bd rfl (by omega) (by omega) (by omega)];refine Sz5 h7 h8 h9 e cR ?_;refine Qa hP (l7 (n:=D) (by omega)) rfl rfl rfl ?_;refine Sz4 h7 h8 h9 e ?_;refine Qa hP (xw (x:=y) (y:=D) (by unfold nl;omega) (by omega)) rfl rfl rfl ?_;refine Sz4 h7 h8 h9 e ?_;refine Qa hP (I5 (x:=r*65536+xi) (y:=y*D) (by omega) (by omega) (by omega)) rfl rfl rfl ?_;rw[FY];refine Sz4 h7 h8 h9 e ?_;refine IW 7 n rfl ?_ (by omega) ⟨D::qs,by omega,by simp;omega,?_,?_,?_⟩
   ·exact ob
   ·rw[e7];exact⟨an,lS⟩
   ·rw[val,aW.1]
   ·refine La aW.2 ?_;simp[KbO 1,Kaj]
  ·obtain rfl:k=0:=by omega
   rw[Kbq,mP]at nB h8;refine Sz2 h7 h8 ?_;refine Qa hP (ku lS (by omega)) rfl rfl rfl ?_;refine Sz2 h7 h8 ?_;exact o9 rfl rfl rfl rfl (oO (by rw[nB])) (bT _) (bT _)
theorem Qvo{x y:Nat}(hx:nl x<2^36)(hy:nl y<2^36)(h0:y≠0):Qd Tryz.prog 108 [PV.num x,PV.num y] (· = .aO [PV.num (x/y),PV.num (x%y),.int .i64 0]):=by
 have:=HI (Ql x) (Ql y) hx hy
 rwa[Qz,Qz,if_neg h0]at this
theorem Im{a b:List Nat}(ha:Qk a)(hb:Qk b)(bz:a.length<2^36)(dG:b.length<2^36):Qd Tryz.prog 48 [PV.nat a,PV.nat b] (· =PV.num (Nat.gcd (val a) (val b))):=by
 have eQ:=bS ha;have fP:=bS hb;refine Qf Qh Tryz.func48 rfl Xk (by simp[Ek]) fun C hP=>?_;simp only[Ek,Zo,Zg,Zm,Zc,Zf,Zl,Zh,Zs,Zi,Zb,Zk,Zn,Zu,Zq,Zr,Zz];refine Sz0 ?_;refine Qa hP (ku ha (by omega)) rfl rfl rfl ?_;refine Sz0 ?_;refine Qa hP (ku hb (by omega)) rfl rfl rfl ?_;refine Sz0 ?_;refine Q3 (by repeat (first|exact Qx|exact Qq|exact Qr|exact Qt|exact Qu|apply Qp|apply Qw|apply Q2|apply Q7|apply Q8|apply Qn|apply Q6)) [(0,1),(5,7),(12,23)] [] (fun m J hp=>∃x y,m=y/\Nat.gcd x y=Nat.gcd (val a) (val b)/\nl x<2^36/\nl y<2^36/\J 0=PV.num x/\J 1=PV.num y/\hp=au) (val b) ?_ ?_
 ·refine⟨val a,val b,rfl,rfl,by omega,by omega,?_⟩;exact Tz0
 rintro y J _ ⟨x,_,rfl,hg,hx,hy,h0,h1,rfl⟩;generalize Nat.gcd (val a) (val b)=g at *
 refine Sz2 h0 h1 ?_;refine Qb (fun hc=>?_) (fun hc=>?_)
 ·have cF:y≠0:=fun h=>by rw[h,eh]at hc;simp at hc
  have v3:=fm (Nat.le_of_lt (Kbn x (Ka9 cF)));refine Sz2 h0 h1 ?_;refine Qa hP (Qvo (x:=x) (y:=y) hx hy cF) rfl rfl rfl ?_;refine Sz2 h0 h1 ?_;refine Qm (x%y) (Kbn _ (Ka9 cF)) ⟨y,x%y,rfl,?_,hy,by omega,?_⟩
  ·rw[<-hg,Kcj x y,Nat.gcd_rec y x,Kcj]
  ·exact Tz0
 ·have cF:y=0:=iU.1 (l0 (by omega));subst cF;refine Sz1 h0 ?_;exact Qc (by rw[<-hg,Kcp]) rfl
theorem qc{n:Bool}{a:List Nat}(ha:Qk a)(bz:a.length<2^42):Qd Tryz.prog 137 [.bool n,PV.nat a] (· =PV.zz (zv n a)):=by
 refine Qf Qh Tryz.func137 rfl US (by simp[Dw]) fun C hP=>?_;simp only[Dw,Zo,Zg,Zm,Zc,Zf,Zl,Zh,Zs,Zi,Zb,Zk,Zn,Zu,Zq,Zr,Zz];refine Sz0 ?_;refine Qa hP (ku ha bz) rfl rfl rfl ?_;refine Sz0 ?_;refine rQ (fun hn=>?_) (fun hn=>?_)
 all_goals
  refine Sz0 ?_;refine cI ?_;refine Sz0 ?_;exact Qc (by have:=CC n (val a);rw[hn]at this;subst hn;simpa[zv]using this) rfl
theorem xe{n:Bool}{a:List Nat}(ha:Qk a)(bz:a.length<2^42):Qd Tryz.prog 136 [PV.zi n a] (· =PV.zz (zv n a)):=by refine Qf Qh Tryz.func136 rfl UT (by simp[Dv]) fun C hP=>?_;simp only[Dv,Zo,Zg,Zm,Zc,Zf,Zl,Zh,Zs,Zi,Zb,Zk,Zn,Zu,Zq,Zr,Zz];refine Sz0 ?_;refine Qa hP (qc ha bz) rfl rfl rfl ?_;refine Sz0 ?_;refine cI ?_;refine Sz0 ?_;exact Qc rfl rfl
theorem Io{n m:Bool}{a b:List Nat}(ha:Qk a)(hb:Qk b)(bz:a.length<2^40)(dG:b.length<2^40):Qd Tryz.prog 98 [PV.zi n a,PV.zi m b] (· =PV.zz (zv n a*zv m b)):=by
 have hr:nl (val a*val b)<2^42:=by have:=mh (val a) (val b);have:=bS ha;have:=bS hb;omega
 refine Qf Qh Tryz.func98 rfl Xp (by simp[EO]) fun C hP=>?_;simp only[EO,Zo,Zg,Zm,Zc,Zf,Zl,Zh,Zs,Zi,Zb,Zk,Zn,Zu,Zq,Zr,Zz];refine Sz0 ?_;refine Qa hP (Bm ha hb bz dG) rfl rfl rfl ?_;refine Sz0 ?_;refine Qa hP (qc (n:= !(n==m)) (Ql (val a*val b)) hr) rfl rfl rfl ?_;refine Sz0 ?_;refine cI ?_;refine Sz0 ?_;exact Qc (congrArg PV.zz (by rw[qp];unfold zv;cases n<;>cases m<;>simp[Int.neg_mul,Int.mul_neg])) rfl
theorem N8{x:Int}(h1: -9223372036854775808<=x)(h2:x<=9223372036854775807):Qd Tryz.prog 97 [.int .i64 x] (· =PV.zz x):=by
 refine Qf Qh Tryz.func97 rfl Xo (by simp[EN]) fun C hP=>?_;simp only[EN,Zo,Zg,Zm,Zc,Zf,Zl,Zh,Zs,Zi,Zb,Zk,Zn,Zu,Zq,Zr,Zz];refine Sz0 ?_;refine Qb (fun hc=>?_) (fun hc=>?_)
 ·obtain⟨y,hy⟩:∃y:Nat,x= -((y:Int)+1):=⟨(-(x+1)).toNat,by omega⟩
  have e1:IntKind.i64.wrap (x+1)= -(y:Int):=by rw[qh (by omega) (by omega)];omega
  have e2:IntKind.i64.wrap (0- -(y:Int))=(y:Int):=by rw[qh (by omega) (by omega)];omega
  have e3:IntKind.u64.wrap (y:Int)=(y:Int):=nO (by omega) (by omega);have ot:nl y<=4:=nP (by omega);have mI:nl (y+1)<=4:=nP (by omega);refine Sz3 e1 e2 e3 ?_;refine Qa hP (l7 (n:=y) (by omega)) rfl rfl rfl ?_;refine Sz0 ?_;refine Qa hP (l7 (n:=1) (by omega)) rfl rfl rfl ?_;refine Sz0 ?_;refine Qa hP (Ic (Ql y) (Ql 1) (show nl y<_ by omega) (show nl 1<_ by rw[u6];omega)) rfl rfl rfl ?_;refine Sz0 ?_;refine Qa hP (qc (n:=true) (Ql (val (ak y)+val (ak 1))) (show nl _<_ by rw[Qz,Qz];omega)) rfl rfl rfl ?_;refine Sz0 ?_;refine cI ?_;refine Sz0 ?_;exact Qc (congrArg PV.zz (by rw[qp,Qz,Qz];simp;omega)) rfl
 ·obtain⟨y,rfl⟩:∃y:Nat,x=y:=⟨x.toNat,by omega⟩
  have ot:nl y<=4:=nP (by omega);refine Sz0 ?_;refine Qa hP (l7 (by omega)) rfl rfl rfl ?_;refine Sz0 ?_;refine Qa hP (qc (n:=false) (Ql y) (show nl _<_ by omega)) rfl rfl rfl ?_;refine Sz0 ?_;refine cI ?_;refine Sz0 ?_;exact Qc (congrArg PV.zz (by rw[qp];simp)) rfl
theorem Qxs{n:Bool}{a:List Nat}(ha:Qk a)(bz:a.length<2^42):Qd Tryz.prog 147 [PV.zi n a] (· = .int .i64 (gR (zv n a))):=by
 refine Qf Qh Tryz.func147 rfl UU (by simp[DH]) fun C hP=>?_;simp only[DH,Zo,Zg,Zm,Zc,Zf,Zl,Zh,Zs,Zi,Zb,Zk,Zn,Zu,Zq,Zr,Zz];refine Sz0 ?_;refine Qa hP (xe ha bz) rfl rfl rfl ?_;generalize zv n a=z;refine Sz0 ?_;refine Qb (fun hz=>?_) (fun hz=>?_)
 ·have:z=0:=by have:=iU.1 (l0 (n:=z.natAbs) (by omega));omega
  subst this;refine Sz0 ?_;exact Qc rfl rfl
 ·have h0:z≠0:=fun h=>by subst h;exact hz (by simp[eh])
  refine Sz0 ?_;refine uf (fun hn=>?_) (fun hn=>?_)
  ·have hn:z<0:=by simpa using hn
   refine Sz0 ?_;exact Qc (by rw[gR,if_pos hn]) rfl
  ·have hn:¬z<0:=by simpa using hn
   refine Sz0 ?_;exact Qc (by rw[gR,if_neg hn,if_pos (by omega)]) rfl
theorem Qvp{n:Bool}{a:List Nat}(ha:Qk a)(bz:a.length<2^42):Qd Tryz.prog 45 [PV.zi n a] (· = .bool (lD n a)):=by
 refine Qf Qh Tryz.func45 rfl Xn (by simp[Eh]) fun C hP=>?_;simp only[Eh,Zo,Zg,Zm,Zc,Zf,Zl,Zh,Zs,Zi,Zb,Zk,Zn,Zu,Zq,Zr,Zz];refine Sz0 ?_;refine Qa hP (HT ha (by omega)) rfl rfl rfl ?_;refine Sz0 ?_;refine rQ (fun hv=>?_) (fun hv=>?_)
 ·refine Sz0 ?_;refine rQ (fun hn=>?_) (fun hn=>?_)
  ·refine Sz0 ?_;exact Qc (congrArg PV.bool (by unfold lD;subst hn;cases a<;>simp_all<;>omega)) rfl
  ·refine Sz0 ?_;exact Qc (congrArg PV.bool (by unfold lD;subst hn;cases a<;>simp_all)) rfl
 ·refine Sz0 ?_;exact Qc (congrArg PV.bool (by unfold lD;cases a<;>simp_all)) rfl
theorem Qy8{n m:Bool}{a b:List Nat}(ha:Qk a)(hb:Qk b)(bz:a.length<2^41)(dG:b.length<2^41):Qd Tryz.prog 103 [PV.zi n a,PV.zi m b] (· = .int .i64 (dW (zv n a) (zv m b))):=by
 have hx:nl (zv n a).natAbs<2^41:=by rw[iX];have:=bS ha;omega
 have hy:nl (zv m b).natAbs<2^41:=by rw[iX];have:=bS hb;omega
 refine Qf Qh Tryz.func103 rfl UW (by simp[Da]) fun C hP=>?_;simp only[Da,Zo,Zg,Zm,Zc,Zf,Zl,Zh,Zs,Zi,Zb,Zk,Zn,Zu,Zq,Zr,Zz];refine Sz0 ?_;refine Qa hP (xe ha (by omega)) rfl rfl rfl ?_;refine Sz0 ?_;refine Qa hP (xe hb (by omega)) rfl rfl rfl ?_;generalize zv n a=x at *
 generalize zv m b=y at *
 have lx:(ak x.natAbs).length<2^41:=hx;have ly:(ak y.natAbs).length<2^41:=hy;by_cases bf:x<0<;>by_cases cF:y<0
 ·refine Sz2 bf cF ?_;refine Qa hP (xp (Ql y.natAbs) (Ql x.natAbs) (by omega) (by omega)) rfl rfl rfl ?_;refine Sz0 ?_;exact Qc (congrArg (PV.int .i64) (by rw[Qz,Qz];unfold gk dW;split<;>split<;>(try split)<;>(try split)<;>omega)) rfl
 ·refine Sz2 bf cF ?_;exact Qc (congrArg (PV.int .i64) (by unfold dW;rw[if_pos (by omega)])) rfl
 ·refine Sz2 bf cF ?_;exact Qc (congrArg (PV.int .i64) (by unfold dW;rw[if_neg (by omega),if_pos (by omega)])) rfl
 ·refine Sz2 bf cF ?_;refine Qa hP (xp (Ql x.natAbs) (Ql y.natAbs) (by omega) (by omega)) rfl rfl rfl ?_;refine Sz0 ?_;exact Qc (congrArg (PV.int .i64) (by rw[Qz,Qz];unfold gk dW;split<;>split<;>(try split)<;>(try split)<;>omega)) rfl
theorem Qy9{n m:Bool}{a b:List Nat}(ha:Qk a)(hb:Qk b)(bz:a.length<2^40)(dG:b.length<2^40):Qd Tryz.prog 101 [PV.zi n a,PV.zi m b] (· =PV.zz (zv n a+zv m b)):=by
 have eQ:=bS ha;have fP:=bS hb;refine Qf Qh Tryz.func101 rfl UX (by simp[C8]) fun C hP=>?_;simp only[C8,Zo,Zg,Zm,Zc,Zf,Zl,Zh,Zs,Zi,Zb,Zk,Zn,Zu,Zq,Zr,Zz];refine Sz0 ?_;refine uf (fun eS=>?_) (fun eS=>?_)
 ·have eS:n=m:=by simpa using eS
  subst eS;have hr:=GP (val a) (val b);refine Sz0 ?_;refine Qa hP (Ic ha hb bz dG) rfl rfl rfl ?_;refine Sz0 ?_;refine Qa hP (qc (n:=n) (Ql (val a+val b)) (show nl _<_ by omega)) rfl rfl rfl ?_;refine Sz0 ?_;refine cI ?_;refine Sz0 ?_;exact Qc (congrArg PV.zz (by rw[qp];unfold zv;split<;>simp<;>omega)) rfl
 have eS:n= !m:=by cases n<;>cases m<;>simp_all
 subst eS;refine Sz0 ?_;refine Qa hP (Bl ha hb bz dG) rfl rfl rfl ?_;by_cases hc:val a<val b
 ·rw[if_pos hc];have hr:=fm (Nat.sub_le (val b) (val a));refine Sz0 ?_;refine Qa hP (Bl hb ha dG bz) rfl rfl rfl ?_;rw[if_neg (by omega)];refine Sz0 ?_;refine Qa hP (qc (n:=m) (Ql (val b-val a)) (show nl _<_ by omega)) rfl rfl rfl ?_;refine Sz0 ?_;refine cI ?_;refine Sz0 ?_;exact Qc (congrArg PV.zz (by rw[qp];unfold zv;cases m<;>simp<;>omega)) rfl
 ·rw[if_neg hc];have hr:=fm (Nat.sub_le (val a) (val b));refine Sz0 ?_;refine Qa hP (qc (n:= !m) (Ql (val a-val b)) (show nl _<_ by omega)) rfl rfl rfl ?_;refine Sz0 ?_;refine cI ?_;refine Sz0 ?_;exact Qc (congrArg PV.zz (by rw[qp];unfold zv;cases m<;>simp<;>omega)) rfl
theorem HZ{a:List Nat}{g:Nat}(ha:Qk a)(hx:a.length<2^36)(hy:nl g<2^36)(h0:g≠0):Qd Tryz.prog 108 [PV.nat a,PV.num g] (· = .aO [PV.num (val a/g),PV.num (val a%g),.int .i64 0]):=by
 have:=HI ha (Ql g) hx hy
 rwa[Qz,if_neg h0]at this
theorem Xw(n:Bool)(a:List Nat)(D:Nat):zv n (ak (val a/Nat.gcd (val a) D))=zv n a/(Nat.gcd (zv n a).natAbs D:Int):=by
 rw[iX,qp];unfold zv;cases n
 ·simp
 ·have hd:((Nat.gcd (val a) D:Nat):Int)∣(val a:Int):=Int.natCast_dvd_natCast.2 (Kcu _ _);simp only[if_true];rw[Int.neg_ediv_of_dvd hd,Int.natCast_ediv]
theorem H0{n:Bool}{a d:List Nat}(ha:Qk a)(hd:Qk d)(bz:a.length<2^36)(re:d.length<2^36):Qd Tryz.prog 96 [PV.zi n a,PV.nat d] (· =PV.rat (rv n a d)):=by
 have kS:=bS ha;have FO:=bS hd;refine Qf Qh Tryz.func96 rfl Xr (by simp[EM]) fun C hP=>?_;simp only[EM,Zo,Zg,Zm,Zc,Zf,Zl,Zh,Zs,Zi,Zb,Zk,Zn,Zu,Zq,Zr,Zz];refine Sz0 ?_;refine Qa hP (ku hd (by omega)) rfl rfl rfl ?_;refine Sz0 ?_;refine Qb (fun hz=>?_) (fun hz=>?_)
 ·have h0:val d=0:=iU.1 (l0 (n:=val d) (by omega));refine Sz0 ?_;refine Qa hP (l7 (n:=1) (by omega)) rfl rfl rfl ?_;refine Sz0 ?_;refine cI ?_;refine Sz0 ?_;exact(by unfold rv;rw[H4 (.inl h0),nQ];exact mc KS rfl)
 ·have h0:val d≠0:=fun h=>by rw[h,eh]at hz;exact hz rfl
  have lO:Nat.gcd (val a) (val d)≠0:=fun h=>h0 (Nat.gcd_eq_zero_iff.1 h).2;have hg:=fm (Kcw (val a) (Ka9 h0));have hq:=G6 (val a) (Nat.gcd (val a) (val d));refine Sz0 ?_;refine Qa hP (Im ha hd bz re) rfl rfl rfl ?_;refine Sz0 ?_;refine Qa hP (HZ ha bz (by omega) lO) rfl rfl rfl ?_;refine Sz0 ?_;refine Qa hP (HZ hd re (by omega) lO) rfl rfl rfl ?_;refine Sz0 ?_;refine Qa hP (xe (n:=n) (Ql (val a/Nat.gcd (val a) (val d))) (show nl _<_ by omega)) rfl rfl rfl ?_;rw[Xw];have hm:=uk (z:=zv n a) h0;refine Sz0 ?_;refine cI ?_;refine Sz0 ?_;exact Qc (by unfold rv;rw[PV.rat,hm.1,hm.2,iX]) rfl
theorem pY{n:Bool}{a d:List Nat}{k:Nat}(hp:Raw k n a d)(hk:k<2^36):Qd Tryz.prog 100 [PV.rr n a d] (· =PV.rat (rv n a d)):=by obtain⟨ha,hd,sa,sd,k1⟩:=hp;refine Qf Qh Tryz.func100 rfl UY (by simp[C7]) fun C hP=>?_;simp only[C7,Zo,Zg,Zm,Zc,Zf,Zl,Zh,Zs,Zi,Zb,Zk,Zn,Zu,Zq,Zr,Zz];refine Sz0 ?_;refine Qa hP (H0 (n:=n) ha hd (by omega) (by omega)) rfl rfl rfl ?_;refine Sz0 ?_;refine cI ?_;refine Sz0 ?_;exact Qc rfl rfl
theorem BG{z:Int}{D:Nat}(hz:nl z.natAbs<2^36)(hD:nl D<2^36):Qd Tryz.prog 96 [PV.zz z,PV.num D] (· =PV.rat (mkRat z D)):=by
 have:=H0 (n:=decide (z<0)) (Ql z.natAbs) (Ql D) hz hD
 rwa[rv,lC,Qz]at this
theorem I6{x:Int}(h1: -9223372036854775808<=x)(h2:x<=9223372036854775807):Qd Tryz.prog 38 [.int .i64 x] (· =PV.rat (x:Rat)):=by have ot:nl x.natAbs<=4:=nP (by omega);refine Qf Qh Tryz.func38 rfl Xs (by simp[Eb]) fun C hP=>?_;simp only[Eb,Zo,Zg,Zm,Zc,Zf,Zl,Zh,Zs,Zi,Zb,Zk,Zn,Zu,Zq,Zr,Zz];refine Sz0 ?_;refine Qa hP (N8 h1 h2) rfl rfl rfl ?_;refine Sz0 ?_;refine Qa hP (l7 (n:=1) (by omega)) rfl rfl rfl ?_;refine Sz0 ?_;refine Qa hP (BG (z:=x) (D:=1) (by omega) (by rw[u6];omega)) rfl rfl rfl ?_;refine Sz0 ?_;refine cI ?_;refine Sz0 ?_;exact Qc (congrArg PV.rat (Rat.mkRat_one x)) rfl
theorem xc(d:List Nat):Qd Tryz.prog 102 [PV.nat d] (· =PV.zi false d):=by refine Qf Qh Tryz.func102 rfl UZ (by simp[C9]) fun C hP=>?_;simp only[C9,Zo,Zg,Zm,Zc,Zf,Zl,Zh,Zs,Zi,Zb,Zk,Zn,Zu,Zq,Zr,Zz];refine Sz0 ?_;refine cI ?_;refine Sz0 ?_;exact Qc rfl rfl
theorem N9{x:Int}(hx:nl x.natAbs<2^42):Qd Tryz.prog 147 [PV.zz x] (· = .int .i64 (gR x)):=by
 have:=Qxs (n:=decide (x<0)) (Ql x.natAbs) hx
 rwa[lC]at this
theorem Bb{n:Bool}{a d:List Nat}{k:Nat}(hp:Raw k n a d)(hk:k<2^36):Qd Tryz.prog 109 [PV.rr n a d] (· = .int .i64 (pa (rv n a d))):=by have hs:=hp.rs;unfold FW.rs at hs;refine Qf Qh Tryz.func109 rfl U' (by simp[De]) fun C hP=>?_;simp only[De,Zo,Zg,Zm,Zc,Zf,Zl,Zh,Zs,Zi,Zb,Zk,Zn,Zu,Zq,Zr,Zz];refine Sz0 ?_;refine Qa hP (pY hp hk) rfl rfl rfl ?_;refine Sz0 ?_;refine Qa hP (N9 (x:=(rv n a d).num) (by omega)) rfl rfl rfl ?_;refine Sz0 ?_;exact Qc rfl rfl
theorem xE{x:Int}{d:Nat}(hx:nl x.natAbs<2^40)(hy:nl d<2^40):Qd Tryz.prog 98 [PV.zz x,PV.zi false (ak d)] (· =PV.zz (x*(d:Int))):=by
 have:=Io (n:=decide (x<0)) (m:=false) (Ql x.natAbs) (Ql d) hx hy
 rwa[lC,uB,Qz]at this
theorem PG{x y:Int}(hx:nl x.natAbs<2^40)(hy:nl y.natAbs<2^40):Qd Tryz.prog 101 [PV.zz x,PV.zz y] (· =PV.zz (x+y)):=by
 have:=Qy9 (n:=decide (x<0)) (m:=decide (y<0)) (Ql x.natAbs) (Ql y.natAbs) hx hy
 rwa[lC,lC]at this
theorem PH{x y:Int}(hx:nl x.natAbs<2^41)(hy:nl y.natAbs<2^41):Qd Tryz.prog 103 [PV.zz x,PV.zz y] (· = .int .i64 (dW x y)):=by
 have:=Qy8 (n:=decide (x<0)) (m:=decide (y<0)) (Ql x.natAbs) (Ql y.natAbs) hx hy
 rwa[lC,lC]at this
theorem Qza{n m:Bool}{a d b c:List Nat}{k:Nat}(hp:Raw k n a d)(hq:Raw k m b c)(hk:k<2^34):Qd Tryz.prog 39 [PV.rr n a d,PV.rr m b c] (· =PV.rat (rv n a d*rv m b c)):=by obtain⟨ha,hd,sa,sd,k1⟩:=hp;obtain⟨hb,hc,sb,sc,k2⟩:=hq;have h1:=kx (zv n a) (zv m b);have h2:=mh (val d) (val c);rw[iX,iX]at h1;have e1:=bS ha;have e2:=bS hd;have e3:=bS hb;have e4:=bS hc;refine Qf Qh Tryz.func39 rfl Xv (by simp[Ec]) fun C hP=>?_;simp only[Ec,Zo,Zg,Zm,Zc,Zf,Zl,Zh,Zs,Zi,Zb,Zk,Zn,Zu,Zq,Zr,Zz];refine Sz0 ?_;refine Qa hP (Io (n:=n) (m:=m) ha hb (by omega) (by omega)) rfl rfl rfl ?_;refine Sz0 ?_;refine Qa hP (Bm hd hc (by omega) (by omega)) rfl rfl rfl ?_;refine Sz0 ?_;refine Qa hP (BG (z:=zv n a*zv m b) (D:=val d*val c) (by omega) (by omega)) rfl rfl rfl ?_;refine Sz0 ?_;refine cI ?_;refine Sz0 ?_;exact Qc (congrArg PV.rat (Rat.mkRat_mul_mkRat _ _ _ _).symm) rfl
theorem Qzb{n m:Bool}{a d b c:List Nat}{k:Nat}(hp:Raw k n a d)(hq:Raw k m b c)(hk:k<2^34):Qd Tryz.prog 42 [PV.rr n a d,PV.rr m b c] (· = .int .i64 (qG (rv n a d) (rv m b c))):=by
 have hx:=hp.rs;have hy:=hq.rs;unfold FW.rs at hx hy;refine Qf Qh Tryz.func42 rfl Xt (by simp[Ee]) fun C hP=>?_;simp only[Ee,Zo,Zg,Zm,Zc,Zf,Zl,Zh,Zs,Zi,Zb,Zk,Zn,Zu,Zq,Zr,Zz];refine Sz0 ?_;refine Qa hP (pY hp (by omega)) rfl rfl rfl ?_;refine Sz0 ?_;refine Qa hP (pY hq (by omega)) rfl rfl rfl ?_;generalize rv n a d=p at *
 generalize rv m b c=q at *
 have h1:=kx p.num (q.den:Int);have h2:=kx q.num (p.den:Int);rw[KbP]at h1 h2;refine Sz0 ?_;refine Qa hP (xc (ak q.den)) rfl rfl rfl ?_;refine Sz0 ?_;refine Qa hP (xE (x:=p.num) (d:=q.den) (by omega) (by omega)) rfl rfl rfl ?_;refine Sz0 ?_;refine Qa hP (xc (ak p.den)) rfl rfl rfl ?_;refine Sz0 ?_;refine Qa hP (xE (x:=q.num) (d:=p.den) (by omega) (by omega)) rfl rfl rfl ?_;refine Sz0 ?_;refine Qa hP (PH (x:=p.num*(q.den:Int)) (y:=q.num*(p.den:Int)) (by omega) (by omega)) rfl rfl rfl ?_;refine Sz0 ?_;exact Qc (congrArg (PV.int .i64) (by rw[<-Ts p.den_nz q.den_nz,Kct,Kct])) rfl
theorem Ip{n m:Bool}{a d b c:List Nat}{k:Nat}(hp:Raw k n a d)(hq:Raw k m b c)(hk:k<2^34):Qd Tryz.prog 41 [PV.rr n a d,PV.rr m b c] (· =PV.rat (rv n a d+rv m b c)):=by
 have hx:=hp.rs;have hy:=hq.rs;unfold FW.rs at hx hy;refine Qf Qh Tryz.func41 rfl Xu (by simp[Ed]) fun C hP=>?_;simp only[Ed,Zo,Zg,Zm,Zc,Zf,Zl,Zh,Zs,Zi,Zb,Zk,Zn,Zu,Zq,Zr,Zz];refine Sz0 ?_;refine Qa hP (pY hp (by omega)) rfl rfl rfl ?_;refine Sz0 ?_;refine Qa hP (pY hq (by omega)) rfl rfl rfl ?_;generalize rv n a d=p at *
 generalize rv m b c=q at *
 have h1:=kx p.num (q.den:Int);have h2:=kx q.num (p.den:Int);have h3:=tN (p.num*(q.den:Int)) (q.num*(p.den:Int));have h4:=mh p.den q.den;rw[KbP]at h1 h2;refine Sz0 ?_;refine Qa hP (xc (ak q.den)) rfl rfl rfl ?_;refine Sz0 ?_;refine Qa hP (xE (x:=p.num) (d:=q.den) (by omega) (by omega)) rfl rfl rfl ?_;refine Sz0 ?_;refine Qa hP (xc (ak p.den)) rfl rfl rfl ?_;refine Sz0 ?_;refine Qa hP (xE (x:=q.num) (d:=p.den) (by omega) (by omega)) rfl rfl rfl ?_;refine Sz0 ?_;refine Qa hP (PG (x:=p.num*(q.den:Int)) (y:=q.num*(p.den:Int)) (by omega) (by omega)) rfl rfl rfl ?_;refine Sz0 ?_;refine Qa hP (xw (x:=p.den) (y:=q.den) (by omega) (by omega)) rfl rfl rfl ?_;refine Sz0 ?_;refine Qa hP (BG (z:=p.num*(q.den:Int)+q.num*(p.den:Int)) (D:=p.den*q.den) (by omega) (by omega)) rfl rfl rfl ?_;refine Sz0 ?_;refine cI ?_;refine Sz0 ?_;exact Qc (congrArg PV.rat (by rw[<-Rat.mkRat_add_mkRat _ _ p.den_nz q.den_nz,Kct,Kct])) rfl
theorem HV{n:Bool}{a d:List Nat}{k:Nat}(hp:Raw k n a d)(hk:k<2^36):Qd Tryz.prog 24 [PV.rr n a d] (· = .bool (iz n a d)):=by
 obtain⟨ha,hd,sa,sd,k1⟩:=hp;have qY:(ak (Nat.gcd (val a) (val d))).length<2^43:=by
  by_cases h0:val d=0
  ·rw[h0,Kcp];have h4:=bS ha;unfold nl at h4;omega
  ·have h3:=fm (Kcw (val a) (Ka9 h0));have h4:=bS hd;unfold nl at h3 h4;omega
 refine Qf Qh Tryz.func24 rfl Xq (by simp[DV]) fun C hP=>?_;simp only[DV,Zo,Zg,Zm,Zc,Zf,Zl,Zh,Zs,Zi,Zb,Zk,Zn,Zu,Zq,Zr,Zz];refine Sz0 ?_;refine Qa hP (Qvp ha (by omega)) rfl rfl rfl ?_;unfold iz;refine Sz0 ?_;cases hio:lD n a
 ·refine Sz0 ?_;exact Qc (by simp) rfl
 rw[Bool.true_and];refine Sz0 ?_;refine Qa hP (HT hd (by omega)) rfl rfl rfl ?_;refine Sz0 ?_;refine rQ (fun hv=>?_) (fun hv=>?_)
 ·refine Sz0 ?_;refine Qa hP (Im ha hd (by omega) (by omega)) rfl rfl rfl ?_;refine Sz0 ?_;refine Qa hP (l7 (n:=1) (by omega)) rfl rfl rfl ?_;refine Sz0 ?_;refine Qa hP (Qxr qY (by rw[nQ];decide)) rfl rfl rfl ?_;rw[nQ,decide_eq_decide.2 (Ib (Nat.gcd (val a) (val d)))];refine Sz0 ?_;refine eK (fun hg=>?_) (fun hg=>?_)
  ·refine Sz0 ?_;exact Qc (congrArg PV.bool (by cases d<;>simp_all)) rfl
  ·refine Sz0 ?_;exact Qc (congrArg PV.bool (by simp[hg])) rfl
 ·refine Sz0 ?_;exact Qc (congrArg PV.bool (by simp_all)) rfl
def DP:az:=⟨47,[.t 6],Zr (Zo (.mv 6 (.c .aa)) .nil)<|Zr (Zm 11 0<|
 Zn 12 11<|
 Zm 13 1<|
 Zn 14 13<|
 Zo (.mx 15 (.t 12) (.t 14))<|
 Zo (.mk 16 1 8 3 (Zz 0) (.t 15) (.t 15))<|
 Zm 7 16 .nil)<| .seq (Zr (Zm 17 7<|
 Zn 18 17<|
 Zc 19 0 .nil)<| .block 0<| .loop<|Zr (Zb 20 .lss 19 18 .nil)<| .seq (.cond (.t 20) .skip (.exit 0))<| .seq (.block 1<|Zr (Zm 21 19<|
 Zm 8 21 .nil)<|Zr (Zc 9 0<|
 Zc 10 0 .nil)<| .seq (Zr (Zm 22 8<|
 Zm 23 0<|
 Zn 24 23<|
 Zb 25 .lss 22 24 .nil)<| .cond (.t 25) (.rg (Zm 26 0<|
 Zm 27 8<|
 Zi 28 1 26 27<|
 Zl 29 1 28<|
 Zm 9 29 .nil)) .skip)<| .seq (Zr (Zm 30 8<|
 Zm 31 1<|
 Zn 32 31<|
 Zb 33 .lss 30 32 .nil)<| .cond (.t 33) (.rg (Zm 34 1<|
 Zm 35 8<|
 Zi 36 1 34 35<|
 Zl 37 1 36<|
 Zm 10 37 .nil)) .skip)<| .rg (Zm 38 7<|
 Zm 39 8<|
 Zm 40 2<|
 Zm 41 9<|
 Zm 42 10<|
 Zo (.call (some 43) false (.t 40) [.t 41,.t 42])<|
 Zi 44 1 38 39<|
 Zs 1 44 43 .nil))<| .rg (Zk 45 .add 19 1<|
 Zm 19 45 .nil))<|Zr (Zm 46 7<|
 Zm 6 46 .nil) .ret⟩
theorem Up:Qe Tryz.prog Tryz.f185=some DP:=by kernel_rfl
def DO:az:=⟨24,[.t 2],Zr (Zo (.mv 2 (.c .aa)) .nil)<|Zr (Zm 4 0<|
 Zn 5 4<|
 Zm 3 5 .nil)<| .seq (.block 0<| .loop<| .seq (Zr (Zm 6 3<|
 Zk 7 .gtr 6 0<|
 Zm 8 7<|
 Zg 8 true (.mv 9 (.t 0))<|
 Zg 8 true (.mv 10 (.t 3))<|
 Zg 8 true (.bin 11 .sub false (.t 10) (.c (Zz 1)))<|
 Zg 8 true (.idx 12 1 (.t 9) (.t 11))<|
 Zg 8 true (.ld 13 1 false (.t 12))<|
 Zg 8 true (.bin 14 .eql false (.t 13) (.c (Zz 0)))<|
 Zo (.pick 15 (.t 8) (.t 14) (.c (.bool false))) .nil)<| .cond (.t 15) .skip (.exit 0))<| .block 1<| .rg (Zm 16 3<|
 Zk 17 .sub 16 1<|
 Zm 3 17 .nil))<| .seq (Zr (Zm 18 3<|
 Zk 19 .eql 18 0 .nil)<| .cond (.t 19) (Zr (Zo (.mv 2 (.c .aa)) .nil) .ret) .skip)<|Zr (Zm 20 0<|
 Zm 21 3<|
 Zm 22 3<|
 Zo (.sl 23 1 (.t 20) none (some (.t 21)) (some (.t 22)))<|
 Zm 2 23 .nil) .ret⟩
theorem Uq:Qe Tryz.prog Tryz.f184=some DO:=by kernel_rfl
def DR:az:=⟨17,[.t 2],Zr (Zc 2 0 .nil)<|Zr (Zc 3 0 .nil)<| .seq (Zr (Zm 6 0<|
 Zn 7 6<|
 Zc 8 0 .nil)<| .block 0<| .loop<|Zr (Zb 9 .lss 8 7 .nil)<| .seq (.cond (.t 9) .skip (.exit 0))<| .seq (.block 1<|Zr (Zi 10 1 6 8<|
 Zl 11 1 10<|
 Zm 5 11 .nil)<| .rg (Zm 12 3<|
 Zm 13 5<|
 Zb 14 .add 12 13<|
 Zm 3 14 .nil))<| .rg (Zk 15 .add 8 1<|
 Zm 8 15 .nil))<|Zr (Zm 16 3<|
 Zm 2 16 .nil) .ret⟩
theorem Ur:Qe Tryz.prog Tryz.f188=some DR:=by kernel_rfl
def DS:az:=⟨17,[.t 4],Zr (Zc 4 0 .nil)<| .seq (Zr (Zm 5 1<|
 Zk 6 .lss 5 0<|
 Zm 7 6<|
 Zg 7 false (.mv 8 (.t 1))<|
 Zg 7 false (.mv 9 (.t 0))<|
 Zg 7 false (.len 10 (.t 9))<|
 Zg 7 false (.bin 11 .geq false (.t 8) (.t 10))<|
 Zo (.pick 12 (.t 7) (.c (.bool true)) (.t 11)) .nil)<| .cond (.t 12) (Zr (Zc 4 0 .nil) .ret) .skip)<|Zr (Zm 13 0<|
 Zm 14 1<|
 Zi 15 1 13 14<|
 Zl 16 1 15<|
 Zm 4 16 .nil) .ret⟩
theorem Us:Qe Tryz.prog Tryz.f189=some DS:=by kernel_rfl
def DM:az:=⟨9,[.t 4],Zr (Zo (.mv 4 (.c .aa)) .nil)<|Zr (Zm 5 0<|
 Zm 6 1<|
 Zq 7 false 185 [.t 5,.t 6,.c (.fn 186 [] [])]<|
 Zq 8 false 184 [.t 7]<|
 Zm 4 8 .nil) .ret⟩
theorem Ut:Qe Tryz.prog Tryz.f169=some DM:=by kernel_rfl
def DQ:az:=⟨8,[.t 4],Zr (Zc 4 0 .nil)<|Zr (Zm 5 0<|
 Zm 6 1<|
 Zb 7 .add 5 6<|
 Zm 4 7 .nil) .ret⟩
theorem Uu:Qe Tryz.prog Tryz.f186=some DQ:=by kernel_rfl
def DN:az:=⟨46,[.t 6],Zr (Zc 6 0 .nil)<| .seq (Zr (Zm 12 2<|
 Zk 13 .eql 12 1 .nil)<| .cond (.t 13) (Zr (Zm 14 0<|
 Zq 15 false 188 [.t 14]<|
 Zm 16 1<|
 Zq 17 false 188 [.t 16]<|
 Zm 7 15<|
 Zm 8 17 .nil)<|Zr (Zm 18 7<|
 Zm 19 8<|
 Zb 20 .neq 18 19 .nil)<| .cond (.t 20) (.seq (Zr (Zm 21 7<|
 Zm 22 8<|
 Zb 23 .lss 21 22 .nil)<| .cond (.t 23) (Zr (Zc 6 (-1) .nil) .ret) .skip)<|Zr (Zc 6 1 .nil) .ret) .skip) .skip)<| .seq (Zr (Zm 24 0<|
 Zn 25 24<|
 Zm 26 1<|
 Zn 27 26<|
 Zo (.mx 28 (.t 25) (.t 27))<|
 Zk 29 .sub 28 1<|
 Zm 9 29 .nil)<| .block 0<| .loop<| .seq (Zr (Zm 30 9<|
 Zk 31 .geq 30 0 .nil)<| .cond (.t 31) .skip (.exit 0))<| .seq (.block 1<|Zr (Zm 34 0<|
 Zm 35 9<|
 Zq 36 false 189 [.t 34,.t 35]<|
 Zm 37 1<|
 Zm 38 9<|
 Zq 39 false 189 [.t 37,.t 38]<|
 Zm 10 36<|
 Zm 11 39 .nil)<|Zr (Zm 40 10<|
 Zm 41 11<|
 Zb 42 .neq 40 41 .nil)<| .cond (.t 42) (.seq (Zr (Zm 43 10<|
 Zm 44 11<|
 Zb 45 .lss 43 44 .nil)<| .cond (.t 45) (Zr (Zc 6 (-1) .nil) .ret) .skip)<|Zr (Zc 6 1 .nil) .ret) .skip)<| .rg (Zm 32 9<|
 Zk 33 .sub 32 1<|
 Zm 9 33 .nil))<|Zr (Zc 6 0 .nil) .ret⟩
theorem Uv:Qe Tryz.prog Tryz.f172=some DN:=by kernel_rfl
theorem PI{n m:Bool}{a d b c:List Nat}{k:Nat}(hp:Raw k n a d)(hq:Raw k m b c)(hk:k<2^36):Qd Tryz.prog 168 [PV.rr n a d,PV.rr m b c] (· =PV.rat (rv n a d*rv m b c)):=by
 refine Qf Qh Tryz.func168 rfl TK (by simp[AO]) fun C hP=>?_;simp only[AO,Zo,Zg,Zm,Zc,Zf,Zl,Zh,Zs,Zi,Zb,Zk,Zn,Zu,Zq,Zr,Zz];refine Sz0 ?_;refine gz hP (tZ hp.la hp.ld hp.k1 hp.sa hp.sd (by omega)) rfl rfl rfl ?_;rintro _ ⟨n',a',d',rfl,g1,g2,g3,g4,g5,g6⟩;refine Sz0 ?_;refine gz hP (tZ hq.la hq.ld hq.k1 hq.sa hq.sd (by omega)) rfl rfl rfl ?_;rintro _ ⟨m',b',c',rfl,e1,e2,e3,e4,e5,e6⟩;refine Sz0 ?_;have hza:nl (zv n' a').natAbs<=k:=by rw[iX];exact KaZ (bS g1) g3
 have hzb:nl (zv m' b').natAbs<=k:=by rw[iX];exact KaZ (bS e1) e3
 have hvd:nl (val d')<=k:=KaZ (bS g2) g4;have wo:nl (val c')<=k:=KaZ (bS e2) e4;have h3:=kx (zv n' a') (zv m' b');have h6:=mh (val d') (val c');refine Qa hP (tY (n:=n') (m:=m') g1 e1 (by omega) (by omega)) rfl rfl rfl ?_;refine Sz0 ?_;refine Qa hP (xT g2 e2 (by omega) (by omega)) rfl rfl rfl ?_;refine Sz0 ?_;refine Qa hP (xu (z:=zv n' a'*zv m' b') (Ql _) (by omega) (by show nl _<_;omega)) rfl rfl rfl ?_;refine Sz0 ?_;refine cI ?_;refine Sz0 ?_;refine Qc ?_ rfl;rw[Qz,<-g6,<-e6];unfold rv;rw[Rat.mkRat_mul_mkRat]
theorem N'{n:Bool}{a d:List Nat}{k:Nat}(hp:Raw k n a d)(hk:k<2^36):Qd Tryz.prog 154 [PV.rr n a d] (· = .int .i64 (pa (rv n a d))):=by refine Qf Qh Tryz.func154 rfl TH (by simp[AL]) fun C hP=>?_;simp only[AL,Zo,Zg,Zm,Zc,Zf,Zl,Zh,Zs,Zi,Zb,Zk,Zn,Zu,Zq,Zr,Zz];refine Sz0 ?_;refine gz hP (tZ hp.la hp.ld hp.k1 hp.sa hp.sd (by omega)) rfl rfl rfl ?_;rintro _ ⟨n',a',d',rfl,g1,g2,g3,g4,g5,g6⟩;refine Sz0 ?_;refine Qa hP (Qy4 g1 (by omega)) rfl rfl rfl ?_;refine Sz0 ?_;exact Qc (by rw[<-g6];unfold rv;rw[Pj g5]) rfl
theorem PJ{x:Int}(h1: -9223372036854775808<=x)(h2:x<=9223372036854775807):Qd Tryz.prog 118 [.int .i64 x] (· =PV.zz x):=by
 refine Qf Qh Tryz.func118 rfl Ui (by simp[AB]) fun C hP=>?_;simp only[AB,Zo,Zg,Zm,Zc,Zf,Zl,Zh,Zs,Zi,Zb,Zk,Zn,Zu,Zq,Zr,Zz];refine Sz0 ?_;refine Qb (fun hc=>?_) (fun hc=>?_)
 ·obtain⟨y,hy⟩:∃y:Nat,x= -((y:Int)+1):=⟨(-(x+1)).toNat,by omega⟩
  have e1:IntKind.i64.wrap (x+1)= -(y:Int):=by rw[qh (by omega) (by omega)];omega
  have e2:IntKind.i64.wrap (0- -(y:Int))=(y:Int):=by rw[qh (by omega) (by omega)];omega
  have e3:IntKind.u64.wrap (y:Int)=(y:Int):=nO (by omega) (by omega);have e4:IntKind.u64.wrap ((y+1:Nat):Int)=((y+1:Nat):Int):=nO (by omega) (by omega);refine Sz4 e1 e2 e3 e4 ?_;refine Qa hP (yh (by omega)) rfl rfl rfl ?_;refine Sz0 ?_;refine Qa hP (rS true (y+1)) rfl rfl rfl ?_;refine Sz0 ?_;refine cI ?_;refine Sz0 ?_;exact Qc (congrArg PV.zz (by simp;omega)) rfl
 ·obtain⟨y,rfl⟩:∃y:Nat,x=y:=⟨x.toNat,by omega⟩
  refine Sz0 ?_;refine Qa hP (yh (by omega)) rfl rfl rfl ?_;refine Sz0 ?_;refine Qa hP (rS false y) rfl rfl rfl ?_;refine Sz0 ?_;refine cI ?_;refine Sz0 ?_;exact Qc (congrArg PV.zz (by simp)) rfl
theorem Jk{x:Int}(h1: -9223372036854775808<=x)(h2:x<=9223372036854775807):Qd Tryz.prog 65 [.int .i64 x] (· =PV.rat (x:Rat)):=by refine Qf Qh Tryz.func65 rfl WW (by simp[EB]) fun C hP=>?_;simp only[EB,Zo,Zg,Zm,Zc,Zf,Zl,Zh,Zs,Zi,Zb,Zk,Zn,Zu,Zq,Zr,Zz];refine Sz0 ?_;refine Qa hP (PJ h1 h2) rfl rfl rfl ?_;refine Sz0 ?_;refine Qa hP xD rfl rfl rfl ?_;refine Sz0 ?_;refine cI ?_;refine Sz0 ?_;exact Qc (by rw[PV.rat,Rat.num_intCast,Rat.den_intCast,PV.num,PV.num,nQ];rfl) rfl
theorem Qxt{n:Bool}{a:List Nat}(ha:Qk a)(bz:a.length<2^42):Qd Tryz.prog 111 [PV.zi n a] (· = .bool (lD n a)):=by
 refine Qf Qh Tryz.func111 rfl Ug (by simp[Az]) fun C hP=>?_;simp only[Az,Zo,Zg,Zm,Zc,Zf,Zl,Zh,Zs,Zi,Zb,Zk,Zn,Zu,Zq,Zr,Zz];refine Sz0 ?_;refine eK (fun h0=>?_) (fun h0=>?_)
 ·have:a=[]:=Kat.1 (by omega);subst this;refine Sz0 ?_;cases n
  ·refine Sz0 ?_;refine Qc (congrArg PV.bool ?_) rfl;simp[lD]
  ·refine Sz0 ?_;refine Qc (congrArg PV.bool ?_) rfl;simp[lD]
 ·obtain⟨k,hk⟩:∃k,a.length=k+1:=⟨a.length-1,by omega⟩
  have bh:a≠[]:=fun h=>by rw[h]at hk;simp at hk
  have hl:=H5 hk;have e:((k+1:Nat):Int)-1=k:=by omega
  generalize hx:a[k]'(by omega)=x at *
  refine Sz3 hk e hx ?_;refine eK (fun h=>?_) (fun h=>absurd (by omega) h);refine Sz3 hk e hx ?_;refine Qc (congrArg PV.bool ?_) rfl;unfold lD;rw[if_neg bh,hl];exact decide_eq_decide.2 ⟨fun h h'=>h (by injection h' with h';rw[h'];rfl),fun h h'=>h (by rw[show x=0 by omega])⟩
theorem Qzc{n:Bool}{a d:List Nat}{k:Nat}(hp:Raw k n a d)(hk:k<2^36):Qd Tryz.prog 60 [PV.rr n a d] (· = .bool (iz n a d)):=by
 obtain⟨ha,hd,sa,sd,k1⟩:=hp;refine Qf Qh Tryz.func60 rfl WV (by simp[Ev]) fun C hP=>?_;simp only[Ev,Zo,Zg,Zm,Zc,Zf,Zl,Zh,Zs,Zi,Zb,Zk,Zn,Zu,Zq,Zr,Zz];refine Sz0 ?_;refine Qa hP (Qxt ha (by omega)) rfl rfl rfl ?_;unfold iz;refine Sz0 ?_;cases hio:lD n a
 ·refine Sz1 @Bool.not_false ?_;exact Qc (by simp) rfl
 rw[Bool.true_and];refine Sz1 @Bool.not_true ?_;refine dA (fun h0=>?_) (fun h0=>?_)
 ·have:d=[]:=Kat.1 (by omega);subst this;refine Sz0 ?_;exact Qc (by simp) rfl
 obtain⟨k',dF⟩:∃k,d.length=k+1:=⟨d.length-1,by omega⟩
 have bh:d≠[]:=fun h=>by rw[h]at dF;simp at dF
 have hl:=H5 dF;have e:((k'+1:Nat):Int)-1=k':=by omega
 generalize hx:d[k']'(by omega)=x at *
 refine Sz3 dF e hx ?_;refine Qb (fun h1=>?_) (fun h1=>?_)
 ·refine Sz0 ?_;refine Qc (congrArg PV.bool ?_) rfl;rw[hl,show x=0 by omega];simp
 have bf:x≠0:=by omega
 refine Sz0 ?_;refine Qa hP (xU (by omega)) rfl rfl rfl ?_;refine Sz0 ?_;refine dA (fun h2=>?_) (fun h2=>?_)
 ·subst h2;refine Sz0 ?_;refine Qc (congrArg PV.bool ?_) rfl;simp[val]
 ·refine Sz0 ?_;refine Qa hP (KA ha hd (by omega) (by omega)) rfl rfl rfl ?_;have hD:0<val d:=by apply Ka9;intro h0;have LN:=uN hd (by rw[hl];simpa using bf);rw[h0,eh]at LN;exact bh LN.symm
  have qY:(ak (Nat.gcd (val a) (val d))).length<2^43:=by have h3:=fm (Kcw (val a) hD);have h4:=bS hd;unfold nl at h3 h4;omega
  refine Sz0 ?_;refine Qa hP (CH qY) rfl rfl rfl ?_;refine Sz0 ?_;refine Qc (congrArg PV.bool ?_) rfl;rw[hl];simp[bh,bf]
theorem Qzd{a:List Int}(hl:a.length<2^42):Qd Tryz.prog 184 [PV.mono a] (· =PV.mono (nY a)):=by
 refine Qf Qh Tryz.func184 rfl Uq (by simp[DO]) fun C hP=>?_;simp only[DO,Zo,Zg,Zm,Zc,Zf,Zl,Zh,Zs,Zi,Zb,Zk,Zn,Zu,Zq,Zr,Zz];refine Sz0 ?_;refine Q3 (by repeat (first|exact Qx|exact Qq|exact Qr|exact Qt|exact Qu|apply Qp|apply Qw|apply Q2|apply Q7|apply Q8|apply Qn)) [(3,3),(6,17)] [] (fun n J hp=>n<=a.length/\kG a n=nY a/\J 3= .int .i64 n/\hp=au) a.length ?_ ?_
 ·refine⟨Kag _,rfl,?_⟩;exact Tz0
 rintro n J _ ⟨hn,hc,h3,rfl⟩;refine Sz1 h3 ?_;refine eK (fun hg=>?_) (fun hg=>?_)
 ·obtain _|n:=n
  ·omega
  have e:((n+1:Nat):Int)-1=n:=by omega
  simp only[kG]at hc;simp+decide (disch:=try exact D2 h3 e) only[go_sem,h3,e];refine Qb (fun hz=>?_) (fun hz=>?_)
  ·rw[if_pos (by simp[hz,show n<a.length by omega])]at hc;refine Sz2 h3 e ?_;refine Qm n (by omega) ⟨by omega,hc,?_⟩;exact Tz0
  ·rw[if_neg (by simpa[show n<a.length by omega]using hz)]at hc;refine Sz2 h3 e ?_;refine Qb (fun h=>by omega) (fun h=>?_);refine Sz2 h3 e ?_;exact Qc (congrArg PV.mono hc) rfl
 ·obtain rfl:n=0:=by omega
  refine Sz1 h3 ?_;exact mc (Pk (by rw[<-hc];rfl)) rfl
theorem HW{a:List Int}(hl:a.length<=1048576)(hb:∀x∈a,0<=x/\x<=1099511627776):Qd Tryz.prog 188 [PV.mono a] (· = .int .i64 (iB a)):=by
 refine Qf Qh Tryz.func188 rfl Ur (by simp[DR]) fun C hP=>?_;simp only[DR,Zo,Zg,Zm,Zc,Zf,Zl,Zh,Zs,Zi,Zb,Zk,Zn,Zu,Zq,Zr,Zz];refine Sz0 ?_;refine Q3 (by repeat (first|exact Qx|exact Qq|exact Qr|exact Qt|exact Qu|apply Qp|apply Qw|apply Q2|apply Q7|apply Q8|apply Qn)) [(3,3),(5,5),(8,15)] [] (fun k J hp=>∃(i:Nat)(s:Int),k=a.length-i/\i<=a.length/\0<=s/\s<=1099511627776*i/\s+(a.drop i).sum=iB a/\J 8= .int .i64 (i:Nat)/\J 3= .int .i64 s/\hp=au) a.length ?_ ?_
 ·refine⟨0,0,rfl,by omega,by omega,by omega,by simp[iB],?_⟩;refine Sz0 ?_;simp
 rintro _ J _ ⟨i,s,rfl,hi,ru,ee,mM,h8,h3,rfl⟩;refine Sz2 h8 h3 ?_;refine Qb (fun hg=>?_) (fun hg=>?_)
 ·have aD:i<a.length:=by omega
  have hx:=hb _ (Kaq aD);rw[Kas aD,Kcy]at mM;generalize cR:a[i]=x at *
  refine Sz3 h8 h3 cR ?_;refine Qm (a.length-(i+1)) (by omega) ⟨i+1,s+x,rfl,by omega,by omega,by push_cast;omega,by omega,?_⟩;exact Tz0
 ·rw[Kal (by omega),List.sum_nil,Int.add_zero]at mM;refine Sz1 h3 ?_;exact Qc (by rw[mM]) rfl
theorem Oa{a:List Int}{v:Int}(hl:a.length<2^42):Qd Tryz.prog 189 [PV.mono a,.int .i64 v] (· = .int .i64 (if v<0 then 0 else eN a v.toNat)):=by
 refine Qf Qh Tryz.func189 rfl Us (by simp[DS]) fun C hP=>?_;simp only[DS,Zo,Zg,Zm,Zc,Zf,Zl,Zh,Zs,Zi,Zb,Zk,Zn,Zu,Zq,Zr,Zz];refine Sz0 ?_;refine dA (fun h1=>?_) (fun h1=>?_)
 ·refine Sz0 ?_;exact Qc (by rw[if_pos h1]) rfl
 ·obtain⟨n,rfl⟩:∃n:Nat,v=n:=⟨v.toNat,by omega⟩
  rw[if_neg h1];refine Sz0 ?_;refine Qb (fun h2=>?_) (fun h2=>?_)
  ·refine Sz0 ?_;exact Qc (by rw[iA (by omega)]) rfl
  ·have hn:n<a.length:=by omega
   refine Sz0 ?_;exact Qc (by rw[jc hn]) rfl
theorem xF{a:List Int}{i:Nat}(hl:a.length<2^42):Qd Tryz.prog 189 [PV.mono a,.int .i64 i] (· = .int .i64 (eN a i)):=by
 have:=Oa (v:=i) hl
 rwa[if_neg (by omega),KbW]at this
theorem ZO{a b:List Int}{f:Nat}{g:Int->Int->Int}(bz:a.length<2^40)(dG:b.length<2^40)(hf:∀i,Qd Tryz.prog f [.int .i64 (eN a i),.int .i64 (eN b i)] (· = .int .i64 (g (eN a i) (eN b i)))):
  Qd Tryz.prog 185 [PV.mono a,PV.mono b,.fn f [] []] (· =PV.mono (hZ g a b)):=by
 refine Qf Qh Tryz.func185 rfl Up (by simp[DP]) fun C hP=>?_;simp only[DP,Zo,Zg,Zm,Zc,Zf,Zl,Zh,Zs,Zi,Zb,Zk,Zn,Zu,Zq,Zr,Zz];refine Sz0 ?_;refine Q3 (by repeat (first|exact Qx|exact Qq|exact Qr|exact Qt|exact Qu|apply Qp|apply Qw|apply Q2|apply Q7|apply Q8|apply Qn)) [(8,10),(19,45)] [] (fun k J hp=>∃i,k=max a.length b.length-i/\i<=max a.length b.length/\J 19= .int .i64 (i:Nat)/\hp=Qi au 16 ⟨1,3,mo ((hZ g a b).take i++List.replicate (max a.length b.length-i) 0),false⟩) (max a.length b.length) ?_ ?_
 ·refine⟨0,rfl,by omega,?_⟩;refine Sz0 ?_;simp
 rintro _ J _ ⟨i,rfl,hi,iH,rfl⟩;refine Sz1 iH ?_;refine Qb (fun hg=>?_) (fun hg=>?_)
 ·have aD:i<max a.length b.length:=by omega
  have hfi:=hf i;have nE:((hZ g a b).take i).length=i:=by rw[Kav,l8];omega
  have ki:=fun v=>OV (v:=v) (z:=(0:Int)) nE (show 0<max a.length b.length-i by omega);have hlen:i<((hZ g a b).take i++List.replicate (max a.length b.length-i) (0:Int)).length:=by rw[KaJ,nE,List.length_replicate];omega
  have cE:=BQ (g:=g) aD;have fin:∀x y,x=eN a i->y=eN b i->Qd Tryz.prog f [.int .i64 x,.int .i64 y] (· = .int .i64 (g (eN a i) (eN b i))):=by rintro _ _ rfl rfl;exact hfi
  refine Sz1 iH ?_;refine Qb (fun h1=>?_) (fun h1=>?_)
  ·have gG:i<a.length:=by omega
   simp+decide (disch:=try exact D1 iH) only[go_sem,iH];refine Qb (fun h2=>?_) (fun h2=>?_)
   ·have jl:i<b.length:=by omega
    simp+decide (disch:=try exact D1 iH) only[go_sem,iH];refine Qa hP (fin _ _ (jc gG).symm (jc jl).symm) rfl rfl rfl ?_;simp+decide (disch:=first|omega|rfl|(simp+decide only[go_sem,iH,ki,<-cE]<;>rfl)|fail) only[go_sem,iH,ki,<-cE];refine Qm (max a.length b.length-(i+1)) (by omega) ⟨i+1,rfl,by omega,?_⟩;exact Tz1 @Nat.sub_sub
   ·refine Sz1 iH ?_;refine Qa hP (fin _ _ (jc gG).symm (iA (by omega)).symm) rfl rfl rfl ?_;simp+decide (disch:=first|omega|rfl|(simp+decide only[go_sem,iH,ki,<-cE]<;>rfl)|fail) only[go_sem,iH,ki,<-cE];refine Qm (max a.length b.length-(i+1)) (by omega) ⟨i+1,rfl,by omega,?_⟩;exact Tz1 @Nat.sub_sub
  ·refine Sz1 iH ?_;refine Qb (fun h2=>?_) (fun h2=>by omega);have jl:i<b.length:=by omega
   simp+decide (disch:=try exact D1 iH) only[go_sem,iH];refine Qa hP (fin _ _ (iA (by omega)).symm (jc jl).symm) rfl rfl rfl ?_;simp+decide (disch:=first|omega|rfl|(simp+decide only[go_sem,iH,ki,<-cE]<;>rfl)|fail) only[go_sem,iH,ki,<-cE];refine Qm (max a.length b.length-(i+1)) (by omega) ⟨i+1,rfl,by omega,?_⟩;exact Tz1 @Nat.sub_sub
 ·obtain rfl:i=max a.length b.length:=by omega
  refine dL ?_;exact Qc (by simp[Kaj,l8]) rfl
theorem Qze{x y:Int}(h1: -9223372036854775808<=x+y)(h2:x+y<=9223372036854775807):Qd Tryz.prog 186 [.int .i64 x,.int .i64 y] (· = .int .i64 (x+y)):=by refine Qf Qh Tryz.func186 rfl Uu (by simp[DQ]) fun C hP=>?_;simp only[DQ,Zo,Zg,Zm,Zc,Zf,Zl,Zh,Zs,Zi,Zb,Zk,Zn,Zu,Zq,Zr,Zz];refine Sz0 ?_;exact Qc rfl rfl
theorem Ob{k:Nat}{a b:List Int}(ha:MB k a)(hb:MB k b)(hk:k<=1099511627776):Qd Tryz.prog 169 [PV.mono a,PV.mono b] (· =PV.mono (cY a b)):=by have h1:=ha.len;have h2:=hb.len;have hz:=l8 (· + ·) a b;refine Qf Qh Tryz.func169 rfl Ut (by simp[DM]) fun C hP=>?_;simp only[DM,Zo,Zg,Zm,Zc,Zf,Zl,Zh,Zs,Zi,Zb,Zk,Zn,Zu,Zq,Zr,Zz];refine Sz0 ?_;refine Qa hP (ZO (f:=186) (g:=(· + ·)) (by omega) (by omega) (fun i=>Qze (by have:=ha.eN i;have:=hb.eN i;omega) (by have:=ha.eN i;have:=hb.eN i;omega))) rfl rfl rfl ?_;refine Sz0 ?_;refine Qa hP (Qzd (by omega)) rfl rfl rfl ?_;refine Sz0 ?_;exact Qc rfl rfl
theorem Oc{k:Nat}{a b:List Int}{o:Int}(ha:MB k a)(hb:MB k b)(hk:k<=1099511627776):Qd Tryz.prog 172 [PV.mono a,PV.mono b,.int .i64 o] (· = .int .i64 (iC o a b)):=by
 have h1:=ha.len;have h2:=hb.len;have eQ:∀x∈a,0<=x/\x<=1099511627776:=fun x hx=>by have:=ha.lo x hx;have:=ha.hi x hx;omega
 have fP:∀x∈b,0<=x/\x<=1099511627776:=fun x hx=>by have:=hb.lo x hx;have:=hb.hi x hx;omega
 refine Qf Qh Tryz.func172 rfl Uv (by simp[DN]) fun C hP=>?_;simp only[DN,Zo,Zg,Zm,Zc,Zf,Zl,Zh,Zs,Zi,Zb,Zk,Zn,Zu,Zq,Zr,Zz];refine Sz0 ?_;refine Qb (fun ho=>?_) (fun ho=>?_)
 ·refine Sz0 ?_;refine Qa hP (HW (by omega) eQ) rfl rfl rfl ?_;refine Sz0 ?_;refine Qa hP (HW (by omega) fP) rfl rfl rfl ?_;refine Sz0 ?_;refine Qb (fun hd=>?_) (fun hd=>?_)
  ·have gK:iC o a b=dW (iB a) (iB b):=by unfold iC;rw[if_pos ⟨ho,hd⟩]
   refine Sz0 ?_;refine Qb (fun h5=>?_) (fun h5=>?_)
   ·refine Sz0 ?_;exact Qc (by rw[gK,dW,if_pos h5]) rfl
   ·refine Sz0 ?_;exact Qc (by rw[gK,dW,if_neg h5,if_pos (by omega)]) rfl
  have gK:iC o a b=bp a b:=by unfold iC;rw[if_neg (fun h=>hd h.2)]
  refine Sz0 ?_;refine Q3 (by repeat (first|exact Qx|exact Qq|exact Qr|exact Qt|exact Qu|apply Qp|apply Qw|apply Q2|apply Q7|apply Q8|apply Qn)) [(6,6),(9,11),(30,45)] [] (fun n J hp=>n<=max a.length b.length/\dp a b n=bp a b/\J 9= .int .i64 ((n:Int)-1)/\hp=au) (max a.length b.length) ?_ ?_
  ·refine⟨by omega,rfl,?_⟩;exact Tz0
  rintro n J _ ⟨hn,hc,h9,rfl⟩;refine Sz1 h9 ?_;refine Qb (fun hg=>?_) (fun hg=>?_)
  ·obtain _|n:=n
   ·omega
   have e:((n+1:Nat):Int)-1=n:=by omega
   rw[dp]at hc;refine Sz2 h9 e ?_;refine Qa hP (xF (by omega)) rfl rfl rfl ?_;refine Sz2 h9 e ?_;refine Qa hP (xF (by omega)) rfl rfl rfl ?_;refine Sz2 h9 e ?_;refine Qb (fun h4=>?_) (fun h4=>?_)
   ·rw[if_neg h4]at hc;refine Sz2 h9 e ?_;refine Qb (fun h5=>?_) (fun h5=>?_)
    ·refine Sz2 h9 e ?_;exact Qc (by rw[gK,<-hc,dW,if_pos h5]) rfl
    ·refine Sz2 h9 e ?_;exact Qc (by rw[gK,<-hc,dW,if_neg h5,if_pos (by omega)]) rfl
   ·rw[if_pos (by omega)]at hc;refine Sz2 h9 e ?_;refine Qm n (by omega) ⟨by omega,hc,?_⟩;exact Tz0
  ·obtain rfl:n=0:=by omega
   refine Sz0 ?_;exact Qc (by rw[gK,<-hc];rfl) rfl
 ·have gK:iC o a b=bp a b:=by unfold iC;rw[if_neg (fun h=>ho h.1)]
  refine Sz0 ?_;refine Q3 (by repeat (first|exact Qx|exact Qq|exact Qr|exact Qt|exact Qu|apply Qp|apply Qw|apply Q2|apply Q7|apply Q8|apply Qn)) [(6,6),(9,11),(30,45)] [] (fun n J hp=>n<=max a.length b.length/\dp a b n=bp a b/\J 9= .int .i64 ((n:Int)-1)/\hp=au) (max a.length b.length) ?_ ?_
  ·refine⟨by omega,rfl,?_⟩;exact Tz0
  rintro n J _ ⟨hn,hc,h9,rfl⟩;refine Sz1 h9 ?_;refine Qb (fun hg=>?_) (fun hg=>?_)
  ·obtain _|n:=n
   ·omega
   have e:((n+1:Nat):Int)-1=n:=by omega
   rw[dp]at hc;refine Sz2 h9 e ?_;refine Qa hP (xF (by omega)) rfl rfl rfl ?_;refine Sz2 h9 e ?_;refine Qa hP (xF (by omega)) rfl rfl rfl ?_;refine Sz2 h9 e ?_;refine Qb (fun h4=>?_) (fun h4=>?_)
   ·rw[if_neg h4]at hc;refine Sz2 h9 e ?_;refine Qb (fun h5=>?_) (fun h5=>?_)
    ·refine Sz2 h9 e ?_;exact Qc (by rw[gK,<-hc,dW,if_pos h5]) rfl
    ·refine Sz2 h9 e ?_;exact Qc (by rw[gK,<-hc,dW,if_neg h5,if_pos (by omega)]) rfl
   ·rw[if_pos (by omega)]at hc;refine Sz2 h9 e ?_;refine Qm n (by omega) ⟨by omega,hc,?_⟩;exact Tz0
  ·obtain rfl:n=0:=by omega
   refine Sz0 ?_;exact Qc (by rw[gK,<-hc];rfl) rfl
theorem Bc(x:Int):Qd Tryz.prog 125 [.int .i64 x] (· = .int .i64 (gR x)):=by
 refine Qf Qh Tryz.func125 rfl UJ (by simp[Ds]) fun C hP=>?_;simp only[Ds,Zo,Zg,Zm,Zc,Zf,Zl,Zh,Zs,Zi,Zb,Zk,Zn,Zu,Zq,Zr,Zz];refine Sz0 ?_;refine Qb (fun h=>?_) (fun h=>?_)
 ·refine Sz0 ?_;exact Qc (by rw[gR,if_pos h]) rfl
 refine Sz0 ?_;refine Qb (fun h2=>?_) (fun h2=>?_)
 ·refine Sz0 ?_;exact Qc (by rw[gR,if_neg h,if_pos h2]) rfl
 ·refine Sz0 ?_;exact Qc (by rw[gR,if_neg h,if_neg h2]) rfl
theorem Qzf{a:List Int}{v:Int}(hl:a.length<2^42):Qd Tryz.prog 126 [PV.mono a,.int .i64 v] (· = .int .i64 (if v<0 then 0 else eN a v.toNat)):=by
 refine Qf Qh Tryz.func126 rfl UH (by simp[Dt]) fun C hP=>?_;simp only[Dt,Zo,Zg,Zm,Zc,Zf,Zl,Zh,Zs,Zi,Zb,Zk,Zn,Zu,Zq,Zr,Zz];refine Sz0 ?_;refine dA (fun h1=>?_) (fun h1=>?_)
 ·refine Sz0 ?_;exact Qc (by rw[if_pos h1]) rfl
 ·obtain⟨n,rfl⟩:∃n:Nat,v=n:=⟨v.toNat,by omega⟩
  rw[if_neg h1];refine Sz0 ?_;refine Qb (fun h2=>?_) (fun h2=>?_)
  ·refine Sz0 ?_;exact Qc (by rw[iA (by omega)]) rfl
  ·have hn:n<a.length:=by omega
   refine Sz0 ?_;exact Qc (by rw[jc hn]) rfl
theorem lu{a:List Int}{i:Nat}(hl:a.length<2^42):Qd Tryz.prog 126 [PV.mono a,.int .i64 i] (· = .int .i64 (eN a i)):=by
 have:=Qzf (v:=i) hl
 rwa[if_neg (by omega),KbW]at this
theorem wW{a:List Int}(hl:a.length<=1048576)(hb:∀x∈a,0<=x/\x<=1099511627776):Qd Tryz.prog 124 [PV.mono a] (· = .int .i64 (iB a)):=by
 refine Qf Qh Tryz.func124 rfl UG (by simp[Dr]) fun C hP=>?_;simp only[Dr,Zo,Zg,Zm,Zc,Zf,Zl,Zh,Zs,Zi,Zb,Zk,Zn,Zu,Zq,Zr,Zz];refine Sz0 ?_;refine Q3 (by repeat (first|exact Qx|exact Qq|exact Qr|exact Qt|exact Qu|apply Qp|apply Qw|apply Q2|apply Q7|apply Q8|apply Qn|apply Q6)) [(3,16)] [] (fun k J hp=>∃(i:Nat)(s:Int),k=a.length-i/\i<=a.length/\0<=s/\s<=1099511627776*i/\s+(a.drop i).sum=iB a/\J 4= .int .i64 (i:Nat)/\J 3= .int .i64 s/\hp=au) a.length ?_ ?_
 ·refine⟨0,0,rfl,by omega,by omega,by omega,by simp[iB],?_⟩;refine Sz0 ?_;simp
 rintro _ J _ ⟨i,s,rfl,hi,ru,ee,mM,h4,h3,rfl⟩;refine Sz2 h4 h3 ?_;refine Qb (fun hg=>?_) (fun hg=>?_)
 ·have aD:i<a.length:=by omega
  have hx:=hb _ (Kaq aD);rw[Kas aD,Kcy]at mM;generalize cR:a[i]=x at *
  refine Sz3 h4 h3 cR ?_;refine Qm (a.length-(i+1)) (by omega) ⟨i+1,s+x,rfl,by omega,by omega,by push_cast;omega,by omega,?_⟩;exact Tz0
 ·rw[Kal (by omega),List.sum_nil,Int.add_zero]at mM;refine Sz1 h3 ?_;exact Qc (by rw[mM]) rfl
theorem Qzg{k:Nat}{a b:List Int}(ha:MB k a)(hb:MB k b)(hk:k<=1099511627776):Qd Tryz.prog 110 [PV.mono a,PV.mono b] (· =PV.mono (hZ (· + ·) a b)):=by
 have h1:=ha.len;have h2:=hb.len;have hz:=l8 (· + ·) a b;refine Qf Qh Tryz.func110 rfl UI (by simp[Dg]) fun C hP=>?_;simp only[Dg,Zo,Zg,Zm,Zc,Zf,Zl,Zh,Zs,Zi,Zb,Zk,Zn,Zu,Zq,Zr,Zz];refine Sz0 ?_;refine mY 5 900 1 3 (by omega) Tz0 ?_;refine Q3 (by repeat (first|exact Qx|exact Qq|exact Qr|exact Qt|exact Qu|apply Qp|apply Qw|apply Q2|apply Q7|apply Q8|apply Qn|apply Q6)) [(5,28)] [27,28,900] (fun m J hp=>∃(i:Nat)(out:List Int),m=max a.length b.length-i/\i<=max a.length b.length/\out=(hZ (· + ·) a b).take i/\J 5= .ms 900 out.length/\J 6= .int .i64 i/\hp 900=some ⟨1,3,mo out,false⟩) (max a.length b.length) ?_ ?_
 ·refine⟨0,[],rfl,by omega,by simp,?_⟩;refine Sz0 ?_;simp
 rintro _ J h ⟨i,out,rfl,hi,jx,h5,h6,hh⟩;have eu:out.length=i:=by rw[jx,Kav,hz];omega
 refine Sz2 h5 h6 ?_;refine dA (fun hg=>?_) (fun hg=>?_)
 ·have an:i<max a.length b.length:=by omega
  have cE:=BQ (g:=(· + ·)) an;have ea:=ha.eN i;have eb:=hb.eN i;refine Sz2 h5 h6 ?_;refine Qa hP (lu (a:=a) (i:=i) (by omega)) rfl rfl rfl ?_;refine Sz2 h5 h6 ?_;refine Qa hP (lu (a:=b) (i:=i) (by omega)) rfl rfl rfl ?_;refine Sz2 h5 h6 ?_;rw[dB (f:=fun(x:Int)=>.int .i64 x) (y:=eN a i+eN b i) (xs:=out) (ty':=3) (fz:=false) (Tz1 hh) bd (by omega) rfl (by omega) (by omega)];refine Sz2 h5 h6 ?_;refine Qm (max a.length b.length-(i+1)) (by omega) ⟨i+1,out++[eN a i+eN b i],rfl,by omega,by rw[cE,jx],?_⟩;refine Sz0 ?_;simp
 refine Sz2 h5 h6 ?_;refine Qb (fun gI=>?_) (fun gI=>?_)
 ·have an:i<max a.length b.length:=by omega
  have cE:=BQ (g:=(· + ·)) an;have ea:=ha.eN i;have eb:=hb.eN i;refine Sz2 h5 h6 ?_;refine Qa hP (lu (a:=a) (i:=i) (by omega)) rfl rfl rfl ?_;refine Sz2 h5 h6 ?_;refine Qa hP (lu (a:=b) (i:=i) (by omega)) rfl rfl rfl ?_;refine Sz2 h5 h6 ?_;rw[dB (f:=fun(x:Int)=>.int .i64 x) (y:=eN a i+eN b i) (xs:=out) (ty':=3) (fz:=false) (Tz1 hh) bd (by omega) rfl (by omega) (by omega)];refine Sz2 h5 h6 ?_;refine Qm (max a.length b.length-(i+1)) (by omega) ⟨i+1,out++[eN a i+eN b i],rfl,by omega,by rw[cE,jx],?_⟩;refine Sz0 ?_;simp
 obtain rfl:i=max a.length b.length:=by omega
 rw[Kaj (by omega)]at jx;subst jx;refine vr h5 hh ?_;exact Qc (by rw[Kaj (by simp)]) rfl
theorem B3(x y:Int):gR (x-y)=dW x y:=by unfold gR dW;(repeat' split)<;>omega
theorem Qzh{k:Nat}{a b:List Int}{o:Int}(ha:MB k a)(hb:MB k b)(hk:k<=1099511627776):Qd Tryz.prog 75 [PV.mono a,PV.mono b,.int .i64 o] (· = .int .i64 (iC o a b)):=by
 have h1:=ha.len;have h2:=hb.len;have eQ:∀x∈a,0<=x/\x<=1099511627776:=fun x hx=>by have:=ha.lo x hx;have:=ha.hi x hx;omega
 have fP:∀x∈b,0<=x/\x<=1099511627776:=fun x hx=>by have:=hb.lo x hx;have:=hb.hi x hx;omega
 have da:=Gu ha;have db:=Gu hb;refine Qf Qh Tryz.func75 rfl Xh (by simp[EL]) fun C hP=>?_;simp only[EL,Zo,Zg,Zm,Zc,Zf,Zl,Zh,Zs,Zi,Zb,Zk,Zn,Zu,Zq,Zr,Zz];refine Sz0 ?_;refine eK (fun ho=>?_) (fun ho=>?_)
 ·refine Sz0 ?_;refine Qa hP (wW (by omega) eQ) rfl rfl rfl ?_;refine Sz0 ?_;refine Qa hP (wW (by omega) fP) rfl rfl rfl ?_;refine Sz0 ?_;refine Qb (fun hd=>?_) (fun hd=>?_)
  ·have gK:iC o a b=dW (iB a) (iB b):=by unfold iC;rw[if_pos ⟨ho,hd⟩]
   refine Sz0 ?_;refine Qa hP (wW (by omega) eQ) rfl rfl rfl ?_;refine Sz0 ?_;refine Qa hP (wW (by omega) fP) rfl rfl rfl ?_;refine Sz0 ?_;refine Qa hP (Bc _) rfl rfl rfl ?_;refine Sz0 ?_;exact Qc (by rw[gK,B3]) rfl
  have gK:iC o a b=bp a b:=by unfold iC;rw[if_neg (fun h=>hd h.2)]
  refine Sz0 ?_;refine Q3 (by repeat (first|exact Qx|exact Qq|exact Qr|exact Qt|exact Qu|apply Qp|apply Qw|apply Q2|apply Q7|apply Q8|apply Qn|apply Q6)) [(6,7),(29,47)] [] (fun n J hp=>n<=max a.length b.length/\dp a b n=bp a b/\J 7= .int .i64 ((n:Int)-1)/\hp=au) (max a.length b.length) ?_ ?_
  ·refine⟨by omega,rfl,?_⟩;exact Tz0
  rintro n J _ ⟨hn,hc,h7,rfl⟩;refine Sz1 h7 ?_;refine Qb (fun hg=>?_) (fun hg=>?_)
  ·obtain _|n:=n
   ·omega
   have e:((n+1:Nat):Int)-1=n:=by omega
   have ea:=ha.eN n;have eb:=hb.eN n;rw[dp]at hc;refine Sz2 h7 e ?_;refine Qa hP (lu (by omega)) rfl rfl rfl ?_;refine Sz2 h7 e ?_;refine Qa hP (lu (by omega)) rfl rfl rfl ?_;refine Sz2 h7 e ?_;refine Qb (fun h4=>?_) (fun h4=>?_)
   ·rw[if_neg h4]at hc;refine Sz2 h7 e ?_;refine Qa hP (lu (by omega)) rfl rfl rfl ?_;refine Sz2 h7 e ?_;refine Qa hP (lu (by omega)) rfl rfl rfl ?_;refine Sz2 h7 e ?_;refine Qa hP (Bc _) rfl rfl rfl ?_;refine Sz2 h7 e ?_;exact Qc (by rw[gK,<-hc,B3]) rfl
   ·rw[if_pos (by omega)]at hc;refine Sz2 h7 e ?_;refine Qm n (by omega) ⟨by omega,hc,?_⟩;exact Tz0
  ·obtain rfl:n=0:=by omega
   refine Sz0 ?_;exact Qc (by rw[gK,<-hc];rfl) rfl
 ·have gK:iC o a b=bp a b:=by unfold iC;rw[if_neg (fun h=>ho h.1)]
  refine Sz0 ?_;refine Q3 (by repeat (first|exact Qx|exact Qq|exact Qr|exact Qt|exact Qu|apply Qp|apply Qw|apply Q2|apply Q7|apply Q8|apply Qn|apply Q6)) [(6,7),(29,47)] [] (fun n J hp=>n<=max a.length b.length/\dp a b n=bp a b/\J 7= .int .i64 ((n:Int)-1)/\hp=au) (max a.length b.length) ?_ ?_
  ·refine⟨by omega,rfl,?_⟩;exact Tz0
  rintro n J _ ⟨hn,hc,h7,rfl⟩;refine Sz1 h7 ?_;refine Qb (fun hg=>?_) (fun hg=>?_)
  ·obtain _|n:=n
   ·omega
   have e:((n+1:Nat):Int)-1=n:=by omega
   have ea:=ha.eN n;have eb:=hb.eN n;rw[dp]at hc;refine Sz2 h7 e ?_;refine Qa hP (lu (by omega)) rfl rfl rfl ?_;refine Sz2 h7 e ?_;refine Qa hP (lu (by omega)) rfl rfl rfl ?_;refine Sz2 h7 e ?_;refine Qb (fun h4=>?_) (fun h4=>?_)
   ·rw[if_neg h4]at hc;refine Sz2 h7 e ?_;refine Qa hP (lu (by omega)) rfl rfl rfl ?_;refine Sz2 h7 e ?_;refine Qa hP (lu (by omega)) rfl rfl rfl ?_;refine Sz2 h7 e ?_;refine Qa hP (Bc _) rfl rfl rfl ?_;refine Sz2 h7 e ?_;exact Qc (by rw[gK,<-hc,B3]) rfl
   ·rw[if_pos (by omega)]at hc;refine Sz2 h7 e ?_;refine Qm n (by omega) ⟨by omega,hc,?_⟩;exact Tz0
  ·obtain rfl:n=0:=by omega
   refine Sz0 ?_;exact Qc (by rw[gK,<-hc];rfl) rfl
theorem R1{a b:Rat}{k:Nat}(ha:rs a<=k)(hb:rs b<=k)(hk:k<2^34):Qd Tryz.prog 41 [PV.rat a,PV.rat b] (· =PV.rat (a+b)):=by
 have:=Ip (jN ha) (jN hb) hk
 rwa[jP,jP]at this
theorem KH{a b:Rat}{k:Nat}(ha:rs a<=k)(hb:rs b<=k)(hk:k<2^34):Qd Tryz.prog 39 [PV.rat a,PV.rat b] (· =PV.rat (a*b)):=by
 have:=Qza (jN ha) (jN hb) hk
 rwa[jP,jP]at this
theorem R2{a b:Rat}{k:Nat}(ha:rs a<=k)(hb:rs b<=k)(hk:k<2^34):Qd Tryz.prog 42 [PV.rat a,PV.rat b] (· = .int .i64 (qG a b)):=by
 have:=Qzb (jN ha) (jN hb) hk
 rwa[jP,jP]at this
theorem BW{a:Rat}(ha:rs a<2^36):Qd Tryz.prog 109 [PV.rat a] (· = .int .i64 (pa a)):=by
 have:=Bb (jN (Kag (rs a))) ha
 rwa[jP]at this
theorem yy{k:Nat}{a b:List Int}(ha:MB k a)(hb:MB k b)(hk:k<=1099511627776):Qd Tryz.prog 75 [PV.mono a,PV.mono b,.int .i64 0] (· = .int .i64 (bp a b)):=by
 have:=Qzh (o:=0) ha hb hk
 rwa[GY]at this
theorem Qzi{p q:List Tm}{K E:Nat}(hp:PB K E p)(hq:PB K E q)(hK:K<=2^33)(hE:E<=2^38)(fE:p.length<=2^36)(lQ:q.length<=2^36):
  Qd Tryz.prog 32 [PV.ax p,PV.ax q] (· = .int .i64 (iD p q)):=by
 refine Qf Qh Tryz.func32 rfl Wz (by simp[Ea]) fun C hP=>?_;simp only[Ea,Zo,Zg,Zm,Zc,Zf,Zl,Zh,Zs,Zi,Zb,Zk,Zn,Zu,Zq,Zr,Zz];refine Sz0 ?_;refine Q3 (by repeat (first|exact Qx|exact Qq|exact Qr|exact Qt|exact Qu|apply Qp|apply Qw|apply Q2|apply Q7|apply Q8|apply Qn|apply Q6)) [(4,47)] [] (fun n J hp=>∃i,n=p.length-i/\i<=p.length/\i<=q.length/\iD (p.drop i) (q.drop i)=iD p q/\J 5= .int .i64 (i:Nat)) p.length ?_ ?_
 ·refine⟨0,rfl,by omega,by omega,rfl,?_⟩;refine Sz0 ?_;rfl
 rintro _ J h ⟨i,rfl,hi,kQ,kg,h5⟩;refine Sz1 h5 ?_;refine eK (fun hg=>?_) (fun hg=>?_)
 ·have aD:i<p.length:=by omega
  refine Sz1 h5 ?_;refine Qb (fun hk=>?_) (fun hk=>?_)
  ·have dF:i<q.length:=by omega
   have dN:=hp.get aD;have mN:=hq.get dF;have c1:=dN.c;have c2:=mN.c;rw[OW aD dF]at kg;generalize hx:p[i]=x at *
   generalize hy:q[i]=y at *
   refine Sz3 h5 hx hy ?_;refine Qa hP (yy dN.m mN.m (by omega)) rfl rfl rfl ?_;refine Sz3 h5 hx hy ?_;refine Qb (fun hc=>?_) (fun hc=>?_)
   ·refine Sz0 ?_;exact Qc (by rw[<-kg,if_pos (by rw[mq,if_pos hc];exact hc),mq,if_pos hc]) rfl
   ·refine Sz3 h5 hx hy ?_;refine Qa hP (R2 (a:=x.1) (b:=y.1) (k:=2^33) (by omega) (by omega) (by omega)) rfl rfl rfl ?_;refine Sz3 h5 hx hy ?_;refine Qb (fun eG=>?_) (fun eG=>?_)
    ·refine Sz0 ?_;exact Qc (by rw[<-kg,if_pos (by rw[mq,if_neg hc];exact eG),mq,if_neg hc]) rfl
    ·rw[if_neg (by rw[mq,if_neg hc];exact eG)]at kg;refine Sz1 h5 ?_;refine Qm (p.length-(i+1)) (by omega) ⟨i+1,rfl,by omega,by omega,kg,?_⟩;exact Tz0
  refine Sz0 ?_;refine Qb (fun hk=>?_) (fun hk=>?_)
  ·refine Sz0 ?_;exact Qc (by rw[<-kg,Kal (show p.length<=i by omega),xK,if_neg (by rw[KaY];omega)]) rfl
  ·refine Sz0 ?_;refine Qb (fun pL=>?_) (fun pL=>?_)
   ·refine Sz0 ?_;refine Qc ?_ rfl;rw[<-kg,Kas (show i<p.length by omega),Kal (show q.length<=i by omega),iD]
   ·refine Sz0 ?_;exact Qc (by rw[<-kg,Kal (show p.length<=i by omega),xK,if_pos (by rw[KaY];omega)]) rfl
 ·have aD:i=p.length:=by omega
  refine Sz0 ?_;refine Qb (fun hk=>?_) (fun hk=>?_)
  ·refine Sz0 ?_;exact Qc (by rw[<-kg,Kal (show p.length<=i by omega),xK,if_neg (by rw[KaY];omega)]) rfl
  ·refine Sz0 ?_;refine Qb (fun pL=>?_) (fun pL=>?_)
   ·refine Sz0 ?_;refine Qc ?_ rfl;rw[<-kg,Kas (show i<p.length by omega),Kal (show q.length<=i by omega),iD]
   ·refine Sz0 ?_;exact Qc (by rw[<-kg,Kal (show p.length<=i by omega),xK,if_pos (by rw[KaY];omega)]) rfl
theorem AY{p q:List Tm}{K E:Nat}(hp:PB K E p)(hq:PB K E q)(hK:K<=2^33)(hE:E<=2^38)(fE:p.length<=2^36)(lQ:q.length<=2^36):Qd Tryz.prog 13 [PV.ax p,PV.ax q] (· = .bool (decide (p=q))):=by refine Qf Qh Tryz.func13 rfl WC (by simp[Du]) fun C hP=>?_;simp only[Du,Zo,Zg,Zm,Zc,Zf,Zl,Zh,Zs,Zi,Zb,Zk,Zn,Zu,Zq,Zr,Zz];refine Sz0 ?_;refine Qa hP (Qzi hp hq hK hE fE lQ) rfl rfl rfl ?_;refine Sz0 ?_;exact Qc (congrArg PV.bool (decide_eq_decide.2 (Gt hp.last hq.last))) rfl
theorem Bn{p q:List Tm}{K E:Nat}(hp:PB K E p)(hq:PB K E q)(hK:K<=2^32)(hE:E<=2^38)(fE:p.length<=2^36)(lQ:q.length<=2^36):
  Qd Tryz.prog 50 [PV.ax p,PV.ax q] (· =PV.ax (Q4 p q)):=by
 refine Qf Qh Tryz.func50 rfl Wy (by simp[Em]) fun C hP=>?_;simp only[Em,Zo,Zg,Zm,Zc,Zf,Zl,Zh,Zs,Zi,Zb,Zk,Zn,Zu,Zq,Zr,Zz];refine Sz0 ?_;refine mY 5 900 4 104 (by omega) Tz0 ?_;refine Q3 (by repeat (first|exact Qx|exact Qq|exact Qr|exact Qt|exact Qu|apply Qp|apply Qw|apply Q2|apply Q7|apply Q8|apply Qn|apply Q6)) [(5,90)] [9,61,62,75,76,87,88,900] (fun n J hp=>∃i k out,n=(p.length-i)+(q.length-k)/\i<=p.length/\k<=q.length/\out.length<=i+k/\out++Q4 (p.drop i) (q.drop k)=Q4 p q/\
  J 5= .ms 900 out.length/\J 6= .int .i64 (i:Nat)/\J 7= .int .i64 (k:Nat)/\hp 900=some ⟨4,104,out.map PV.term,false⟩) (p.length+q.length) ?_ ?_
 ·refine⟨0,0,[],by omega,by omega,by omega,by simp,rfl,?_⟩;refine Sz0 ?_;simp
 rintro _ J h ⟨i,k,out,rfl,hi,hk,eu,de,h5,h6,h7,hh⟩;refine Sz3 h5 h6 h7 ?_;refine dA (fun hg=>?_) (fun hg=>?_)
 ·have aD:i<p.length:=by omega
  refine Sz3 h5 h6 h7 ?_;refine Qb (fun h=>by omega) (fun _=>?_);refine Sz3 h5 h6 h7 ?_;refine Qb (fun gI=>?_) (fun gI=>?_)
  ·have dF:k<q.length:=by omega
   have dN:=hp.get aD;have mN:=hq.get dF;rw[JE aD dF]at de;have c1:=dN.c;have c2:=mN.c;generalize hx:p[i]=x at *
   generalize hy:q[k]=y at *
   refine Sz5 h5 h6 h7 hx hy ?_;refine Qa hP (yy dN.m mN.m (by omega)) rfl rfl rfl ?_;refine Sz5 h5 h6 h7 hx hy ?_;refine Qb (fun hc=>?_) (fun hc=>?_)
   ·rw[if_pos hc]at de;refine Sz4 h5 h6 h7 hx ?_;rw[dB (f:=PV.term) (y:=x) (xs:=out) (ty':=104) (fz:=false) (Tz1 hh) bd (by omega) rfl (by omega) (by omega)];refine Sz4 h5 h6 h7 hx ?_;refine Qm ((p.length-(i+1))+(q.length-k)) (by omega) ⟨i+1,k,out++[x],rfl,by omega,hk,by simp;omega,by simpa using de,?_⟩;refine Sz3 h5 h6 h7 ?_;simp
   rw[if_neg hc]at de;refine Sz5 h5 h6 h7 hx hy ?_;refine Qb (fun eG=>?_) (fun eG=>?_)
   ·rw[if_pos eG]at de;refine Sz4 h5 h6 h7 hy ?_;rw[dB (f:=PV.term) (y:=y) (xs:=out) (ty':=104) (fz:=false) (Tz1 hh) bd (by omega) rfl (by omega) (by omega)];refine Sz4 h5 h6 h7 hy ?_;refine Qm ((p.length-i)+(q.length-(k+1))) (by omega) ⟨i,k+1,out++[y],rfl,by omega,by omega,by simp;omega,by simpa using de,?_⟩;refine Sz3 h5 h6 h7 ?_;simp
   rw[if_neg eG]at de;have FV:=yn x.1 y.1;refine Sz5 h5 h6 h7 hx hy ?_;refine eV ?_ ?_
   all_goals
    refine Sz5 h5 h6 h7 hx hy ?_;refine Qa hP (R1 (a:=x.1) (b:=y.1) (k:=2^32) (by omega) (by omega) (by omega)) rfl rfl rfl ?_;refine Sz5 h5 h6 h7 hx hy ?_;refine Qa hP (BW (a:=x.1+y.1) (by omega)) rfl rfl rfl ?_;refine Sz5 h5 h6 h7 hx hy ?_;refine Qb (fun hz=>?_) (fun hz=>?_)
    ·rw[if_neg (fun h=>hz (iY.2 h))]at de;refine Sz5 h5 h6 h7 hx hy ?_;rw[dB (f:=PV.term) (y:=(x.1+y.1,x.2)) (xs:=out) (ty':=104) (fz:=false) (Tz1 hh) bd (by omega) rfl (by omega) (by omega)];refine Sz5 h5 h6 h7 hx hy ?_;refine Qm ((p.length-(i+1))+(q.length-(k+1))) (by omega) ⟨i+1,k+1,out++[(x.1+y.1,x.2)],rfl,by omega,by omega,by simp;omega,by simpa using de,?_⟩;refine Sz3 h5 h6 h7 ?_;simp
    ·rw[if_pos (iY.1 (Decidable.not_not.1 hz))]at de;refine Sz5 h5 h6 h7 hx hy ?_;refine Qm ((p.length-(i+1))+(q.length-(k+1))) (by omega) ⟨i+1,k+1,out,rfl,by omega,by omega,by omega,de,?_⟩;exact Tz4 h5 h6 h7 hh
  ·rw[Kal (show q.length<=k by omega),jJ,Kas aD]at de;have de:out++p[i]::Q4 (p.drop (i+1)) (q.drop k)=Q4 p q:=by rw[Kal (show q.length<=k by omega),jJ];exact de
   generalize hx:p[i]=x at *
   refine Sz4 h5 h6 h7 hx ?_;rw[dB (f:=PV.term) (y:=x) (xs:=out) (ty':=104) (fz:=false) (Tz1 hh) bd (by omega) rfl (by omega) (by omega)];refine Sz4 h5 h6 h7 hx ?_;refine Qm ((p.length-(i+1))+(q.length-k)) (by omega) ⟨i+1,k,out++[x],rfl,by omega,hk,by simp;omega,by simpa using de,?_⟩;refine Sz3 h5 h6 h7 ?_;simp
 ·have aD:i=p.length:=by omega
  refine Sz3 h5 h6 h7 ?_;refine Qb (fun gI=>?_) (fun gI=>?_)
  ·have dF:k<q.length:=by omega
   rw[Kal (show p.length<=i by omega),qi,Kas dF]at de;have de:out++q[k]::Q4 (p.drop i) (q.drop (k+1))=Q4 p q:=by rw[Kal (show p.length<=i by omega),qi];exact de
   generalize hy:q[k]=y at *
   refine Sz4 h5 h6 h7 hy ?_;refine Qb (fun _=>?_) (fun h=>by omega);refine Sz4 h5 h6 h7 hy ?_;rw[dB (f:=PV.term) (y:=y) (xs:=out) (ty':=104) (fz:=false) (Tz1 hh) bd (by omega) rfl (by omega) (by omega)];refine Sz4 h5 h6 h7 hy ?_;refine Qm ((p.length-i)+(q.length-(k+1))) (by omega) ⟨i,k+1,out++[y],rfl,by omega,by omega,by simp;omega,by simpa using de,?_⟩;refine Sz3 h5 h6 h7 ?_;simp
  ·rw[Kal (show p.length<=i by omega),qi,Kal (show q.length<=k by omega),Kao]at de;refine Vz4 h5 h6 h7 hh ?_;exact Qc (by rw[Kaj (by simp),de]) rfl
def DJ:az:=⟨97,[.t 8],Zr (Zo (.mv 8 (.c .aa)) .nil)<|Zr (Zm 15 0<|
 Zn 16 15<|
 Zm 17 1<|
 Zn 18 17<|
 Zb 19 .add 16 18<|
 Zo (.mk 20 4 80 104 (.agg [.bool false,.aa,.aa,.aa]) (.c (Zz 0)) (.t 19))<|
 Zm 9 20 .nil)<|Zr (Zc 10 0<|
 Zc 11 0 .nil)<| .seq (.block 0<| .loop<| .seq (Zr (Zm 21 10<|
 Zm 22 0<|
 Zn 23 22<|
 Zb 24 .lss 21 23<|
 Zm 25 24<|
 Zg 25 true (.mv 26 (.t 11))<|
 Zg 25 true (.mv 27 (.t 1))<|
 Zg 25 true (.len 28 (.t 27))<|
 Zg 25 true (.bin 29 .lss false (.t 26) (.t 28))<|
 Zo (.pick 30 (.t 25) (.t 29) (.c (.bool false))) .nil)<| .cond (.t 30) .skip (.exit 0))<| .block 1<|Zr (Zm 31 2<|
 Zm 32 0<|
 Zm 33 10<|
 Zi 34 4 32 33<|
 Zh 35 4 34<|
 Zm 36 1<|
 Zm 37 11<|
 Zi 38 4 36 37<|
 Zh 39 4 38<|
 Zo (.call (some 40) false (.t 31) [.t 35,.t 39])<|
 Zm 12 40 .nil)<| .block 2<|Zr (Zm 64 12<|
 Zk 65 .gtr 64 0<|
 Zm 63 65 .nil)<| .cond (.t 63) (Zr (Zm 66 9<|
 Zm 67 0<|
 Zm 68 10<|
 Zi 69 4 67 68<|
 Zh 70 4 69<|
 Zo (.bs 71 4 104 [.t 70])<|
 Zo (.app 72 4 80 104 (.t 66) (.t 71))<|
 Zm 9 72 .nil)<| .rg (Zm 73 10<|
 Zk 74 .add 73 1<|
 Zm 10 74 .nil)) (Zr (Zm 76 12<|
 Zk 77 .lss 76 0<|
 Zm 75 77 .nil)<| .cond (.t 75) (Zr (Zm 78 9<|
 Zm 79 1<|
 Zm 80 11<|
 Zi 81 4 79 80<|
 Zh 82 4 81<|
 Zo (.bs 83 4 104 [.t 82])<|
 Zo (.app 84 4 80 104 (.t 78) (.t 83))<|
 Zm 9 84 .nil)<| .rg (Zm 85 11<|
 Zk 86 .add 85 1<|
 Zm 11 86 .nil)) (.seq (Zr (Zm 42 3<|
 Zm 43 0<|
 Zm 44 10<|
 Zi 45 4 43 44<|
 Zh 46 4 45<|
 Zm 47 1<|
 Zm 48 11<|
 Zi 49 4 47 48<|
 Zh 50 4 49<|
 .br (Zo (.call (some 51) true (.t 42) [.t 46,.t 50])<|
 Zm 41 51<|
 Zo (.ext 52 (.t 41) 0)<|
 Zo (.ext 53 (.t 41) 1)<|
 Zo (.alloc 13 4 104 (.agg [.bool false,.aa,.aa,.aa]))<|
 Zs 4 13 52<|
 Zm 14 53 .nil) (Zo (.alloc 13 4 104 (.agg [.bool false,.aa,.aa,.aa]))<|
 Zo (.call (some 51) true (.t 42) [.t 46,.t 50])<|
 Zm 41 51<|
 Zo (.ext 52 (.t 41) 0)<|
 Zo (.ext 53 (.t 41) 1)<|
 Zs 4 13 52<|
 Zm 14 53 .nil))<|Zr (Zm 54 14 .nil)<| .cond (.t 54) (.rg (Zm 55 9<|
 Zh 56 4 13<|
 Zo (.bs 57 4 104 [.t 56])<|
 Zo (.app 58 4 80 104 (.t 55) (.t 57))<|
 Zm 9 58 .nil)) .skip)<|Zr (Zm 59 10<|
 Zk 60 .add 59 1<|
 Zm 10 60 .nil)<| .rg (Zm 61 11<|
 Zk 62 .add 61 1<|
 Zm 11 62 .nil))))<|Zr (Zm 87 9<|
 Zm 88 0<|
 Zm 89 10<|
 Zo (.sl 90 4 (.t 88) (some (.t 89)) none none)<|
 Zo (.app 91 4 80 104 (.t 87) (.t 90))<|
 Zm 9 91 .nil)<|Zr (Zm 92 9<|
 Zm 93 1<|
 Zm 94 11<|
 Zo (.sl 95 4 (.t 93) (some (.t 94)) none none)<|
 Zo (.app 96 4 80 104 (.t 92) (.t 95))<|
 Zm 8 96 .nil) .ret⟩
theorem Uw:Qe Tryz.prog Tryz.f156=some DJ:=by kernel_rfl
def DK:az:=⟨10,[.t 4],Zr (Zo (.box 2 4 104 (.t 0))<|
 Zo (.box 3 4 104 (.t 1))<|
 Zc 4 0 .nil)<|Zr (Zf 5 3 2<|
 Zl 6 1 5<|
 Zf 7 3 3<|
 Zl 8 1 7<|
 Zq 9 false 172 [.t 6,.t 8,.c (Zz 0)]<|
 Zm 4 9 .nil) .ret⟩
theorem Ux:Qe Tryz.prog Tryz.f157=some DK:=by kernel_rfl
def DL:az:=⟨19,[.cell 4 4 true,.t 5],Zr (Zo (.box 2 4 104 (.t 0))<|
 Zo (.box 3 4 104 (.t 1))<|
 Zo (.alloc 4 4 104 (.agg [.bool false,.aa,.aa,.aa]))<|
 Zo (.mv 5 (.c (.bool false))) .nil)<|Zr (Zf 7 0 2<|
 Zh 8 3 7<|
 Zf 9 0 3<|
 Zh 10 3 9<|
 Zq 11 false 173 [.t 8,.t 10]<|
 Zo (.alloc 6 3 32 (.agg [.bool false,.aa,.aa]))<|
 Zs 3 6 11 .nil)<|Zr (Zh 12 3 6<|
 Zf 13 3 2<|
 Zl 14 1 13<|
 Zo (.cw 15 [.bool false,.aa,.aa,.aa] [(0,3,.t 12),(3,1,.t 14)])<|
 Zh 16 3 6<|
 Zq 17 true 154 [.t 16]<|
 Zk 18 .neq 17 0<|
 Zs 4 4 15<|
 Zm 5 18 .nil) .ret⟩
theorem Uy:Qe Tryz.prog Tryz.f158=some DL:=by kernel_rfl
def vp:az:=⟨25,[.t 2],Zr (Zo (.mv 2 (.c .aa)) .nil)<| .seq (Zr (Zm 4 0<|
 Zn 5 4 .nil)<| .block 0<|Zr (Zk 7 .eql 5 0<|
 Zm 6 7 .nil)<| .cond (.t 6) (Zr (Zo (.mv 2 (.c .aa)) .nil) .ret) (Zr (Zk 9 .eql 5 1<|
 Zm 8 9 .nil)<| .cond (.t 8) (Zr (Zm 10 0<|
 Zo (.idx 11 1 (.t 10) (.c (Zz 0)))<|
 Zl 12 1 11<|
 Zm 2 12 .nil) .ret) .skip))<|Zr (Zm 13 0<|
 Zn 14 13<|
 Zk 15 .quo 14 2<|
 Zm 3 15 .nil)<|Zr (Zm 16 0<|
 Zm 17 3<|
 Zo (.sl 18 1 (.t 16) none (some (.t 17)) none)<|
 Zm 20 0<|
 Zm 21 3<|
 Zo (.sl 22 1 (.t 20) (some (.t 21)) none none)<|
 Zq 19 false 153 [.t 18]<|
 Zq 23 false 153 [.t 22]<|
 Zq 24 false 120 [.t 19,.t 23]<|
 Zm 2 24 .nil) .ret⟩
theorem GB:Qe Tryz.prog Tryz.f153=some vp:=by kernel_rfl
def Dp:az:=⟨6,[.t 2],Zr (Zo (.mv 2 (.c .aa)) .nil)<|Zr (Zm 3 0<|
 Zq 4 false 65 [.c (Zz (-1))]<|
 Zq 5 false 117 [.t 3,.t 4]<|
 Zm 2 5 .nil) .ret⟩
theorem Vk:Qe Tryz.prog Tryz.f122=some Dp:=by kernel_rfl
def Dm:az:=⟨8,[.t 4],Zr (Zo (.mv 4 (.c .aa)) .nil)<|Zr (Zm 5 0<|
 Zm 6 1<|
 Zq 7 false 156 [.t 5,.t 6,.c (.fn 157 [] []),.c (.fn 158 [] [])]<|
 Zm 4 7 .nil) .ret⟩
theorem Vl:Qe Tryz.prog Tryz.f120=some Dm:=by kernel_rfl
def EE:az:=⟨9,[.t 4],Zr (Zo (.mv 4 (.c .aa)) .nil)<|Zr (Zm 5 0<|
 Zm 6 1<|
 Zq 7 false 122 [.t 6]<|
 Zq 8 false 120 [.t 5,.t 7]<|
 Zm 4 8 .nil) .ret⟩
theorem Xx:Qe Tryz.prog Tryz.f68=some EE:=by kernel_rfl
def DI:az:=⟨38,[.t 4],Zr (Zo (.box 3 4 104 (.t 1))<|
 Zo (.mv 4 (.c .aa)) .nil)<|Zr (Zm 9 0<|
 Zn 10 9<|
 Zo (.mk 11 4 80 104 (.agg [.bool false,.aa,.aa,.aa]) (.c (Zz 0)) (.t 10))<|
 Zm 5 11 .nil)<| .seq (Zr (Zm 12 0<|
 Zn 13 12<|
 Zc 14 0 .nil)<| .block 0<| .loop<|Zr (Zb 15 .lss 14 13 .nil)<| .seq (.cond (.t 15) .skip (.exit 0))<| .seq (.block 1<|Zr (Zi 16 4 12 14<|
 Zh 17 4 16<|
 Zo (.alloc 7 4 104 (.agg [.bool false,.aa,.aa,.aa]))<|
 Zs 4 7 17 .nil)<|Zr (Zf 18 0 7<|
 Zh 19 3 18<|
 Zf 20 0 3<|
 Zh 21 3 20<|
 Zq 22 false 168 [.t 19,.t 21]<|
 Zo (.alloc 8 3 32 (.agg [.bool false,.aa,.aa]))<|
 Zs 3 8 22 .nil)<|Zr (Zh 23 3 8<|
 Zq 24 false 154 [.t 23]<|
 Zk 25 .neq 24 0 .nil)<| .cond (.t 25) (.rg (Zm 26 5<|
 Zh 27 3 8<|
 Zf 28 3 7<|
 Zl 29 1 28<|
 Zf 30 3 3<|
 Zl 31 1 30<|
 Zq 32 true 169 [.t 29,.t 31]<|
 Zo (.cw 33 [.bool false,.aa,.aa,.aa] [(0,3,.t 27),(3,1,.t 32)])<|
 Zo (.bs 34 4 104 [.t 33])<|
 Zo (.app 35 4 80 104 (.t 26) (.t 34))<|
 Zm 5 35 .nil)) .skip)<| .rg (Zk 36 .add 14 1<|
 Zm 14 36 .nil))<|Zr (Zm 37 5<|
 Zm 4 37 .nil) .ret⟩
theorem Vm:Qe Tryz.prog Tryz.f152=some DI:=by kernel_rfl
def Di:az:=⟨33,[.t 4],Zr (Zo (.mv 4 (.c .aa)) .nil)<| .seq (Zr (Zm 8 0<|
 Zn 9 8<|
 Zm 10 1<|
 Zn 11 10<|
 Zb 12 .gtr 9 11 .nil)<| .cond (.t 12) (.rg (Zm 13 1<|
 Zm 14 0<|
 Zm 0 13<|
 Zm 1 14 .nil)) .skip)<|Zr (Zm 15 0<|
 Zn 16 15<|
 Zo (.mk 17 1 24 51 .aa (.c (Zz 0)) (.t 16))<|
 Zm 5 17 .nil)<| .seq (Zr (Zm 18 0<|
 Zn 19 18<|
 Zc 20 0 .nil)<| .block 0<| .loop<|Zr (Zb 21 .lss 20 19 .nil)<| .seq (.cond (.t 21) .skip (.exit 0))<| .seq (.block 1<|Zr (Zi 22 4 18 20<|
 Zh 23 4 22<|
 Zo (.alloc 7 4 104 (.agg [.bool false,.aa,.aa,.aa]))<|
 Zs 4 7 23 .nil)<| .rg (Zm 24 5<|
 Zm 25 1<|
 Zh 26 4 7<|
 Zq 27 false 152 [.t 25,.t 26]<|
 Zo (.bs 28 1 51 [.t 27])<|
 Zo (.app 29 1 24 51 (.t 24) (.t 28))<|
 Zm 5 29 .nil))<| .rg (Zk 30 .add 20 1<|
 Zm 20 30 .nil))<|Zr (Zm 31 5<|
 Zq 32 false 153 [.t 31]<|
 Zm 4 32 .nil) .ret⟩
theorem Vn:Qe Tryz.prog Tryz.f115=some Di:=by kernel_rfl
def Dk:az:=⟨12,[.t 4],Zr (Zo (.box 3 3 32 (.t 1))<|
 Zo (.mv 4 (.c .aa)) .nil)<| .seq (Zr (Zh 5 3 3<|
 Zq 6 false 154 [.t 5]<|
 Zk 7 .eql 6 0 .nil)<| .cond (.t 7) (Zr (Zo (.mv 4 (.c .aa)) .nil) .ret) .skip)<|Zr (Zm 8 0<|
 Zh 9 3 3<|
 Zo (.cw 10 [.bool false,.aa,.aa,.aa] [(0,3,.t 9)])<|
 Zq 11 false 152 [.t 8,.t 10]<|
 Zm 4 11 .nil) .ret⟩
theorem Vo:Qe Tryz.prog Tryz.f117=some Dk:=by kernel_rfl
theorem Yn{a b:Rat}{k:Nat}(ha:rs a<=k)(hb:rs b<=k)(hk:k<2^36):Qd Tryz.prog 173 [PV.rat a,PV.rat b] (· =PV.rat (a+b)):=by
 have:=Pz (jN ha) (jN hb) hk
 rwa[jP,jP]at this
theorem YQ{a b:Rat}{k:Nat}(ha:rs a<=k)(hb:rs b<=k)(hk:k<2^36):Qd Tryz.prog 168 [PV.rat a,PV.rat b] (· =PV.rat (a*b)):=by
 have:=PI (jN ha) (jN hb) hk
 rwa[jP,jP]at this
theorem CV{a:Rat}(ha:rs a<2^36):Qd Tryz.prog 154 [PV.rat a] (· = .int .i64 (pa a)):=by
 have:=N' (jN (Kag (rs a))) ha
 rwa[jP]at this
theorem Od{s t:Tm}{E:Nat}(hs:MB E s.2)(ht:MB E t.2)(hE:E<=2^38):Qd Tryz.prog 157 [PV.term s,PV.term t] (· = .int .i64 (bp s.2 t.2)):=by refine Qf Qh Tryz.func157 rfl Ux (by simp[DK]) fun C hP=>?_;simp only[DK,Zo,Zg,Zm,Zc,Zf,Zl,Zh,Zs,Zi,Zb,Zk,Zn,Zu,Zq,Zr,Zz];refine Sz0 ?_;refine Qa hP (Oc (o:=0) hs ht (by omega)) rfl rfl rfl ?_;refine Sz0 ?_;exact Qc (by rw[GY]) rfl
theorem Qxx{s t:Tm}{k:Nat}(hs:rs s.1<=k)(ht:rs t.1<=k)(hk:k<2^34):Qd Tryz.prog 158 [PV.term s,PV.term t] (· = .aO [PV.term (s.1+t.1,s.2),.bool (decide (¬s.1+t.1=0))]):=by have hr:=yn s.1 t.1;refine Qf Qh Tryz.func158 rfl Uy (by simp[DL]) fun C hP=>?_;simp only[DL,Zo,Zg,Zm,Zc,Zf,Zl,Zh,Zs,Zi,Zb,Zk,Zn,Zu,Zq,Zr,Zz];refine Sz0 ?_;refine Qa hP (Yn (a:=s.1) (b:=t.1) hs ht (by omega)) rfl rfl rfl ?_;refine Sz0 ?_;refine Qa hP (CV (a:=s.1+t.1) (by omega)) rfl rfl rfl ?_;refine Sz0 ?_;refine va ?_;refine Sz0 ?_;exact jR rfl rfl rfl (bT _) (oO (congrArg PV.bool (decide_eq_decide.2 (not_congr iY))))
theorem Qxy{p q:List Tm}{K E:Nat}(hp:PB K E p)(hq:PB K E q)(hK:K<=2^33)(hE:E<=2^38)(fE:p.length<=2^36)(lQ:q.length<=2^36):
  Qd Tryz.prog 156 [PV.ax p,PV.ax q,.fn 157 [] [],.fn 158 [] []] (· =PV.ax (Q4 p q)):=by
 refine Qf Qh Tryz.func156 rfl Uw (by simp[DJ]) fun C hP=>?_;simp only[DJ,Zo,Zg,Zm,Zc,Zf,Zl,Zh,Zs,Zi,Zb,Zk,Zn,Zu,Zq,Zr,Zz];refine Sz0 ?_;refine Q3 (by repeat (first|exact Qx|exact Qq|exact Qr|exact Qt|exact Qu|apply Qp|apply Qw|apply Q2|apply Q7|apply Q8|apply Qn)) [(9,14),(21,86)] [13,20,57,58,71,72,83,84] (fun n J hp=>∃i k out,n=(p.length-i)+(q.length-k)/\i<=p.length/\k<=q.length/\out.length<=i+k/\out++Q4 (p.drop i) (q.drop k)=Q4 p q/\
  J 9= .ms 20 out.length/\J 10= .int .i64 (i:Nat)/\J 11= .int .i64 (k:Nat)/\hp 20=some ⟨4,104,out.map PV.term,false⟩) (p.length+q.length) ?_ ?_
 ·refine⟨0,0,[],by omega,by omega,by omega,by simp,rfl,?_⟩;refine Sz0 ?_;simp
 rintro _ J h ⟨i,k,out,rfl,hi,hk,eu,de,h9,bC,cD,hh⟩;refine Sz3 h9 bC cD ?_;refine eK (fun hg=>?_) (fun hg=>?_)
 ·have aD:i<p.length:=by omega
  refine Sz3 h9 bC cD ?_;refine Qb (fun gI=>?_) (fun gI=>?_)
  ·have dF:k<q.length:=by omega
   have dN:=hp.get aD;have mN:=hq.get dF;rw[JE aD dF]at de;have c1:=dN.c;have c2:=mN.c;generalize hx:p[i]=x at *
   generalize hy:q[k]=y at *
   refine Sz5 h9 bC cD hx hy ?_;refine Qa hP (Od (s:=x) (t:=y) dN.m mN.m hE) rfl rfl rfl ?_;refine Sz5 h9 bC cD hx hy ?_;refine Qb (fun hc=>?_) (fun hc=>?_)
   ·rw[if_pos hc]at de;refine Sz5 h9 bC cD hx hy ?_;rw[dB (f:=PV.term) (y:=x) (xs:=out) (ty':=104) (fz:=false) (Tz1 hh) bd (by omega) rfl (by omega) (by omega)];refine Sz5 h9 bC cD hx hy ?_;refine Qm ((p.length-(i+1))+(q.length-k)) (by omega) ⟨i+1,k,out++[x],rfl,by omega,hk,by simp;omega,by simpa using de,?_⟩;refine Sz3 h9 bC cD ?_;simp
   rw[if_neg hc]at de;refine Sz5 h9 bC cD hx hy ?_;refine Qb (fun eG=>?_) (fun eG=>?_)
   ·rw[if_pos eG]at de;refine Sz5 h9 bC cD hx hy ?_;rw[dB (f:=PV.term) (y:=y) (xs:=out) (ty':=104) (fz:=false) (Tz1 hh) bd (by omega) rfl (by omega) (by omega)];refine Sz5 h9 bC cD hx hy ?_;refine Qm ((p.length-i)+(q.length-(k+1))) (by omega) ⟨i,k+1,out++[y],rfl,hi,by omega,by simp;omega,by simpa using de,?_⟩;refine Sz3 h9 bC cD ?_;simp
   rw[if_neg eG]at de;refine Sz5 h9 bC cD hx hy ?_;refine eV ?_ ?_
   all_goals
    refine Sz5 h9 bC cD hx hy ?_;refine Qa hP (Qxx (s:=x) (t:=y) (k:=2^33) (by omega) (by omega) (by omega)) rfl rfl rfl ?_;refine Sz5 h9 bC cD hx hy ?_;refine Qb (fun hz=>?_) (fun hz=>?_)
    ·rw[if_neg hz]at de;refine Sz5 h9 bC cD hx hy ?_;rw[dB (f:=PV.term) (y:=(x.1+y.1,x.2)) (xs:=out) (ty':=104) (fz:=false) (Tz1 hh) bd (by omega) rfl (by omega) (by omega)];refine Sz5 h9 bC cD hx hy ?_;refine Qm ((p.length-(i+1))+(q.length-(k+1))) (by omega) ⟨i+1,k+1,out++[(x.1+y.1,x.2)],rfl,by omega,by omega,by simp;omega,by simpa using de,?_⟩;refine Sz3 h9 bC cD ?_;simp
    ·rw[if_pos (Decidable.not_not.1 hz)]at de;refine Sz5 h9 bC cD hx hy ?_;refine Qm ((p.length-(i+1))+(q.length-(k+1))) (by omega) ⟨i+1,k+1,out,rfl,by omega,by omega,by omega,de,?_⟩;exact Tz4 h9 bC cD hh
  ·have cU:(out++p.drop i++q.drop k).take (out.length+(p.drop i).length+(q.drop k).length)=Q4 p q:=by rw[Kaj (by simp;omega),<-de,Kal (by omega:q.length<=k),jJ,Kao]
   refine Sz3 h9 bC cD ?_;rw[jL (f:=PV.term) (xs:=out) (ys:=p.drop i) (Tz1 hh) rfl (by omega) (by simp;omega) (by simp;omega)];refine Sz3 h9 bC cD ?_;rw[jL (f:=PV.term) (xs:=out++p.drop i) (ys:=q.drop k) Tz0 (by simp) (by omega) (by simp;omega) (by simp;omega)];refine yK h9 bC cD ?_;exact Qc (by rw[<-List.map_take,cU]) rfl
 ·have cU:(out++p.drop i++q.drop k).take (out.length+(p.drop i).length+(q.drop k).length)=Q4 p q:=by rw[Kaj (by simp;omega),<-de,Kal (by omega:p.length<=i),qi,Kao]
  refine Sz3 h9 bC cD ?_;rw[jL (f:=PV.term) (xs:=out) (ys:=p.drop i) (Tz1 hh) rfl (by omega) (by simp;omega) (by simp;omega)];refine Sz3 h9 bC cD ?_;rw[jL (f:=PV.term) (xs:=out++p.drop i) (ys:=q.drop k) Tz0 (by simp) (by omega) (by simp;omega) (by simp;omega)];refine yK h9 bC cD ?_;exact Qc (by rw[<-List.map_take,cU]) rfl
theorem BH{p q:List Tm}{K E:Nat}(hp:PB K E p)(hq:PB K E q)(hK:K<=2^33)(hE:E<=2^38)(fE:p.length<=2^36)(lQ:q.length<=2^36):
  Qd Tryz.prog 120 [PV.ax p,PV.ax q] (· =PV.ax (Q4 p q)):=by
 refine Qf Qh Tryz.func120 rfl Vl (by simp[Dm]) fun C hP=>?_;simp only[Dm,Zo,Zg,Zm,Zc,Zf,Zl,Zh,Zs,Zi,Zb,Zk,Zn,Zu,Zq,Zr,Zz];refine Sz0 ?_;refine Qa hP (Qxy hp hq hK hE fE lQ) rfl rfl rfl ?_;refine Sz0 ?_;exact Qc rfl rfl
theorem I7{K E:Nat}(hE:E<=2^38):∀(n:Nat)(l:List (List Tm)),l.length<=n->(∀p∈l,PB K E p)->l.length*K<=2^33->l.length<=2^36->n1 l<=2^36->Qd Tryz.prog 153 [PV.nK l] (· =PV.ax (dD l)):=by
 intro n;induction n with
 |zero=>intro l hl _ _ _ _;have:l=[]:=Kat.1 (by omega);subst this;refine Qf Qh Tryz.func153 rfl GB (by simp[vp]) fun C hP=>?_;simp only[vp,Zo,Zg,Zm,Zc,Zf,Zl,Zh,Zs,Zi,Zb,Zk,Zn,Zu,Zq,Zr,Zz];simp+decide (disch:=first|omega|rfl|(simp+decide only[go_sem,Kby,Kbg]<;>rfl)|fail) only[go_sem,Kby,Kbg];exact mc (BR (by rw[dD])) rfl
 | succ n ih=>
  intro l hl hb hK tl cJ;refine Qf Qh Tryz.func153 rfl GB (by simp[vp]) fun C hP=>?_;simp only[vp,Zo,Zg,Zm,Zc,Zf,Zl,Zh,Zs,Zi,Zb,Zk,Zn,Zu,Zq,Zr,Zz];refine Sz0 ?_;refine Qb (fun h0=>?_) (fun h0=>?_)
  ·have:l=[]:=Kat.1 (by omega);subst this;refine Sz0 ?_;exact mc (BR (by rw[dD])) rfl
  refine Sz0 ?_;refine Qb (fun h1=>?_) (fun h1=>?_)
  ·obtain⟨p,rfl⟩:∃p,l=[p]:=Kcf.1 (by omega);simp+decide (disch:=first|omega|rfl|(simp+decide only[go_sem,Kbs,Kby]<;>rfl)|fail) only[go_sem,Kbs,Kby];exact Qc (by rw[dD];rfl) rfl
  have h2:2<=l.length:=by omega
  have hs:=IV l (l.length/2);have e:(2:Int)=((2:Nat):Int):=rfl;have hq:∀d fr hp K,bG .quo false (.int .i64 (l.length:Int)) (.int .i64 2) d fr hp K=K (ae fr d (.int .i64 ((l.length/2:Nat):Int))) hp:=fun d fr hp K=>by rw[e,Cx (by omega) (by omega)]
  have b1:=Bq (K:=K) (E:=E) _ (l.take (l.length/2)) (Kag _) (fun p hp=>hb p (Ka4 hp));have b2:=Bq (K:=K) (E:=E) _ (l.drop (l.length/2)) (Kag _) (fun p hp=>hb p (KbB hp));have l1:(l.take (l.length/2)).length*K<=l.length*K:=Kam _ (by rw[Kav];omega);have l2:(l.drop (l.length/2)).length*K<=l.length*K:=Kam _ (by rw[KaY];omega);refine Sz1 hq ?_;refine Qa hP (ih (l.take (l.length/2)) (by rw[Kav];omega) (fun p hp=>hb p (Ka4 hp)) (by omega) (by rw[Kav];omega) (by omega)) rfl rfl rfl ?_;refine Sz1 hq ?_;refine Qa hP (ih (l.drop (l.length/2)) (by rw[KaY];omega) (fun p hp=>hb p (KbB hp)) (by omega) (by rw[KaY];omega) (by omega)) rfl rfl rfl ?_;refine Sz1 hq ?_;refine Qa hP (BH (b1.1.mono (K':=l.length*K) l1 (Kag _)) (b2.1.mono l2 (Kag _)) hK hE (by omega) (by omega)) rfl rfl rfl ?_;refine Sz0 ?_;exact Qc (by rw[uo h2]) rfl
theorem Bo{p:List Tm}{t:Tm}{i:Nat}(h:i<p.length):Q9 (p.take (i+1)) t=Q9 (p.take i) t++(if p[i].1*t.1=0 then []else [(p[i].1*t.1,cY p[i].2 t.2)]):=by rw[KaG h,Q9,List.filterMap_append,Q9];congr 1;simp only[List.filterMap_cons,List.filterMap_nil];split<;>split<;>simp_all
theorem Bd{p:List Tm}{t:Tm}{K E:Nat}(hp:PB K E p)(ht:TB K E t)(hK:K<=2^33)(hE:E<=2^38)(fE:p.length<=2^36):
  Qd Tryz.prog 152 [PV.ax p,PV.term t] (· =PV.ax (Q9 p t)):=by
 refine Qf Qh Tryz.func152 rfl Vm (by simp[DI]) fun C hP=>?_;simp only[DI,Zo,Zg,Zm,Zc,Zf,Zl,Zh,Zs,Zi,Zb,Zk,Zn,Zu,Zq,Zr,Zz];refine Sz0 ?_;refine Q3 (by repeat (first|exact Qx|exact Qq|exact Qr|exact Qt|exact Qu|apply Qp|apply Qw|apply Q2|apply Q7|apply Q8|apply Qn)) [(5,5),(7,8),(14,36)] [7,8,11,34,35] (fun n J hp=>∃i,n=p.length-i/\i<=p.length/\J 5= .ms 11 (Q9 (p.take i) t).length/\J 14= .int .i64 (i:Nat)/\hp 3=some ⟨4,104,[PV.term t],false⟩/\hp 11=some ⟨4,104,(Q9 (p.take i) t).map PV.term,false⟩) p.length ?_ ?_
 ·refine⟨0,rfl,by omega,?_⟩;refine Sz0 ?_;simp[Q9]
 rintro _ J h ⟨i,rfl,hi,h5,gH,bq,zf⟩;refine Sz2 h5 gH ?_;refine Qb (fun hg=>?_) (fun hg=>?_)
 ·have aD:i<p.length:=by omega
  have dN:=hp.get aD;have cE:=Bo (t:=t) aD;have hlen:=qb (p.take i) t;rw[Kav]at hlen;have c1:=dN.c;have c2:=ht.c;have hrm:=G8 p[i].1 t.1;generalize hx:p[i]=x at *
  refine Sz4 h5 gH bq hx ?_;refine Qa hP (YQ (a:=x.1) (b:=t.1) (k:=2^33) (by omega) (by omega) (by omega)) rfl rfl rfl ?_;refine Sz4 h5 gH bq hx ?_;refine Qa hP (CV (a:=x.1*t.1) (by omega)) rfl rfl rfl ?_;refine Sz4 h5 gH bq hx ?_;refine Qb (fun hz=>?_) (fun hz=>?_)
  ·rw[if_neg (fun h=>hz (iY.2 h))]at cE;refine Sz4 h5 gH bq hx ?_;refine Qa hP (Ob dN.m ht.m (by omega)) rfl rfl rfl ?_;refine Sz4 h5 gH bq hx ?_;rw[dB (f:=PV.term) (y:=(x.1*t.1,cY x.2 t.2)) (xs:=Q9 (p.take i) t) (ty':=104) (fz:=false) (Tz1 zf) bd (by omega) rfl (by omega) (by omega)];rw[<-cE];refine Sz4 h5 gH bq hx ?_;refine Qm (p.length-(i+1)) (by omega) ⟨i+1,rfl,by omega,?_⟩;rw[cE];simp+decide (disch:=first|omega|rfl|(simp+decide only[go_sem,h5,gH,bq,KaJ]<;>rfl)|fail) only[go_sem,h5,gH,bq,KaJ]
  ·rw[if_pos (iY.1 (Decidable.not_not.1 hz)),Kao]at cE;refine Sz4 h5 gH bq hx ?_;refine Qm (p.length-(i+1)) (by omega) ⟨i+1,rfl,by omega,?_⟩;rw[cE];exact Tz4 h5 gH bq zf
 ·obtain rfl:i=p.length:=by omega
  rw[Kbp]at h5 zf;refine vr h5 zf ?_;exact Qc (by simp[Kaj]) rfl
theorem Oe{p q:List Tm}{K E:Nat}(hp:PB K E p)(hq:PB K E q)(hE:E<=2^37)(fE:p.length<=2^30)(lQ:q.length<=2^30)(FH:p.length*q.length<=2^36)(hK:min p.length q.length*(K+K)<=2^33)(pE:K<=2^33):
  Qd Tryz.prog 115 [PV.ax p,PV.ax q] (· =PV.ax (cz p q)):=by
 have main:∀(p q:List Tm),PB K E p->PB K E q->p.length<=2^30->q.length<=2^30->p.length*q.length<=2^36->p.length*(K+K)<=2^33->p.length<=q.length->True:=fun _ _ _ _ _ _ _ _ _=>trivial;refine Qf Qh Tryz.func115 rfl Vn (by simp[Di]) fun C hP=>?_;simp only[Di,Zo,Zg,Zm,Zc,Zf,Zl,Zh,Zs,Zi,Zb,Zk,Zn,Zu,Zq,Zr,Zz];refine Sz0 ?_;refine Qb (fun hg=>?_) (fun hg=>?_)
 ·have cU:nh q p=cz p q:=by rw[cz,if_pos (by omega)]
  have hK3:q.length*(K+K)<=2^33:=by rw[Kcv (by omega)]at hK;exact hK
  have aeX:q.length*p.length<=2^36:=by rw[KaS];exact FH
  refine Sz0 ?_;refine Q3 (by repeat (first|exact Qx|exact Qq|exact Qr|exact Qt|exact Qu|apply Qp|apply Qw|apply Q2|apply Q7|apply Q8|apply Qn)) [(5,5),(7,7),(20,30)] [7,17,28,29] (fun n J hp=>∃i,n=q.length-i/\i<=q.length/\J 5= .ms 17 i/\J 20= .int .i64 (i:Nat)/\hp 17=some ⟨1,51,((q.take i).map (Q9 p)).map PV.ax,false⟩) q.length ?_ ?_
  ·refine⟨0,rfl,by omega,?_⟩;refine Sz0 ?_;simp
  rintro _ J h ⟨i,rfl,hi,h5,mu,hh⟩;refine Sz2 h5 mu ?_;refine Qb (fun gI=>?_) (fun gI=>?_)
  ·have aD:i<q.length:=by omega
   have dN:=hq.get aD;have cE:(q.take (i+1)).map (Q9 p)=(q.take i).map (Q9 p)++[Q9 p q[i]]:=by rw[KaG aD,List.map_append];rfl
   generalize hx:q[i]=x at *
   refine Sz3 h5 mu hx ?_;refine Qa hP (Bd (t:=x) hp dN pE (by omega) (by omega)) rfl rfl rfl ?_;refine Sz3 h5 mu hx ?_;rw[dB (f:=PV.ax) (y:=Q9 p x) (xs:=(q.take i).map (Q9 p)) (ty':=51) (fz:=false) (Tz1 hh) bd (by omega) (by simp;omega) (by omega) (by omega)];rw[<-cE];refine Sz3 h5 mu hx ?_;refine Qm (q.length-(i+1)) (by omega) ⟨i+1,rfl,by omega,?_⟩;exact Tz2 h5 mu
  ·obtain rfl:i=q.length:=by omega
   rw[Kbp]at hh;have cJ:=AQ q p;refine Sz2 h5 hh ?_;refine ix hP (I7 (K:=K+K) (E:=E+E) (by omega) _ (q.map (Q9 p)) (Kag _) (fun x hx=>by obtain⟨t,ht,rfl⟩:=KaL.1 hx;exact rY hp (hq t ht)) (by rw[Ka3];omega) (by rw[Ka3];omega) (by omega)) (by simp+decide (disch:=try exact E1 hh) only[go_sem,hh,eU,Kay,KaI,KaA,KaK,Kao];simp[Kaj]) rfl ?_;refine Sz0 ?_;exact Qc (congrArg PV.ax cU) rfl
 ·have cU:nh p q=cz p q:=by rw[cz,if_neg (by omega)]
  have hK3:p.length*(K+K)<=2^33:=by rw[KbJ (by omega)]at hK;exact hK
  refine Sz0 ?_;refine Q3 (by repeat (first|exact Qx|exact Qq|exact Qr|exact Qt|exact Qu|apply Qp|apply Qw|apply Q2|apply Q7|apply Q8|apply Qn)) [(5,5),(7,7),(20,30)] [7,17,28,29] (fun n J hp=>∃i,n=p.length-i/\i<=p.length/\J 5= .ms 17 i/\J 20= .int .i64 (i:Nat)/\hp 17=some ⟨1,51,((p.take i).map (Q9 q)).map PV.ax,false⟩) p.length ?_ ?_
  ·refine⟨0,rfl,by omega,?_⟩;refine Sz0 ?_;simp
  rintro _ J h ⟨i,rfl,hi,h5,mu,hh⟩;refine Sz2 h5 mu ?_;refine Qb (fun gI=>?_) (fun gI=>?_)
  ·have aD:i<p.length:=by omega
   have dN:=hp.get aD;have cE:(p.take (i+1)).map (Q9 q)=(p.take i).map (Q9 q)++[Q9 q p[i]]:=by rw[KaG aD,List.map_append];rfl
   generalize hx:p[i]=x at *
   refine Sz3 h5 mu hx ?_;refine Qa hP (Bd (t:=x) hq dN pE (by omega) (by omega)) rfl rfl rfl ?_;refine Sz3 h5 mu hx ?_;rw[dB (f:=PV.ax) (y:=Q9 q x) (xs:=(p.take i).map (Q9 q)) (ty':=51) (fz:=false) (Tz1 hh) bd (by omega) (by simp;omega) (by omega) (by omega)];rw[<-cE];refine Sz3 h5 mu hx ?_;refine Qm (p.length-(i+1)) (by omega) ⟨i+1,rfl,by omega,?_⟩;exact Tz2 h5 mu
  ·obtain rfl:i=p.length:=by omega
   rw[Kbp]at hh;have cJ:=AQ p q;refine Sz2 h5 hh ?_;refine ix hP (I7 (K:=K+K) (E:=E+E) (by omega) _ (p.map (Q9 q)) (Kag _) (fun x hx=>by obtain⟨t,ht,rfl⟩:=KaL.1 hx;exact rY hq (hp t ht)) (by rw[Ka3];omega) (by rw[Ka3];omega) (by omega)) (by simp+decide (disch:=try exact E1 hh) only[go_sem,hh,eU,Kay,KaI,KaA,KaK,Kao];simp[Kaj]) rfl ?_;refine Sz0 ?_;exact Qc (congrArg PV.ax cU) rfl
theorem PK{k l:Nat}{a b:List Int}(ha:MB k a)(hb:MB l b)(h1:a.getLast? ≠some 0)(h2:b.getLast? ≠some 0):hZ (· + ·) a b=cY a b:=by
 rw[cY,RE];rw[Ka7,l8];intro h;obtain⟨hl,hv⟩:=Kad.1 h;rw[<-jc hl,KV (by simp)]at hv;rw[l8]at hl;have p1:=(ha.eN (max a.length b.length-1)).1;have p2:=(hb.eN (max a.length b.length-1)).1;by_cases hc:b.length<=a.length
 ·apply h1;have e:max a.length b.length-1=a.length-1:=by omega
  rw[e]at hv p1 p2;rw[Ka7,Kaf (by omega),<-jc (by omega)];congr 1;omega
 ·apply h2;have e:max a.length b.length-1=b.length-1:=by omega
  rw[e]at hv p1 p2;rw[Ka7,Kaf (by omega),<-jc (by omega)];congr 1;omega
theorem Qvq{p:List Tm}{t:Tm}{K E:Nat}(hp:PB K E p)(ht:TB K E t)(kU:NZ p)(ht0:t.1≠0)(hK:K<=2^33)(hE:E<=2^38)(fE:p.length<=2^36):
  Qd Tryz.prog 51 [PV.ax p,PV.term t] (· =PV.ax (Q9 p t)):=by
 refine Qf Qh Tryz.func51 rfl Xg (by simp[En]) fun C hP=>?_;simp only[En,Zo,Zg,Zm,Zc,Zf,Zl,Zh,Zs,Zi,Zb,Zk,Zn,Zu,Zq,Zr,Zz];refine Sz0 ?_;refine mY 5 900 4 104 (by omega) Tz0 ?_;refine Q3 (by repeat (first|exact Qx|exact Qq|exact Qr|exact Qt|exact Qu|apply Qp|apply Qw|apply Q2|apply Q7|apply Q8|apply Qn|apply Q6)) [(5,32)] [31,32,900] (fun n J hp=>∃i,n=p.length-i/\i<=p.length/\J 5= .ms 900 (Q9 (p.take i) t).length/\J 6= .int .i64 (i:Nat)/\hp 3=some ⟨4,104,[PV.term t],false⟩/\hp 900=some ⟨4,104,(Q9 (p.take i) t).map PV.term,false⟩) p.length ?_ ?_
 ·refine⟨0,rfl,by omega,?_⟩;refine Sz0 ?_;simp[Q9]
 rintro _ J h ⟨i,rfl,hi,h5,h6,bq,hh⟩;refine Sz2 h5 h6 ?_;refine Qb (fun hg=>?_) (fun hg=>?_)
 ·have aD:i<p.length:=by omega
  have dN:=hp.get aD;have cE:=Bo (t:=t) aD;have hlen:=qb (p.take i) t;rw[Kav]at hlen;have c1:=dN.c;have c2:=ht.c;have gJ:=kU _ (Kaq aD);generalize hx:p[i]=x at *
  have hzz:=PK dN.m ht.m dN.l ht.l;rw[if_neg (fun h=>by rcases Rat.mul_eq_zero.1 h with h|h<;>contradiction)]at cE;refine Sz4 h5 h6 bq hx ?_;refine Qa hP (KH (a:=x.1) (b:=t.1) (k:=2^33) (by omega) (by omega) (by omega)) rfl rfl rfl ?_;refine Sz4 h5 h6 bq hx ?_;refine Qa hP (Qzg dN.m ht.m (by omega)) rfl rfl rfl ?_;rw[hzz];refine Sz4 h5 h6 bq hx ?_;rw[dB (f:=PV.term) (y:=(x.1*t.1,cY x.2 t.2)) (xs:=Q9 (p.take i) t) (ty':=104) (fz:=false) (Tz1 hh) bd (by omega) rfl (by omega) (by omega)];rw[<-cE];refine Sz4 h5 h6 bq hx ?_;refine Qm (p.length-(i+1)) (by omega) ⟨i+1,rfl,by omega,?_⟩;rw[cE];simp+decide (disch:=first|omega|rfl|(simp+decide only[go_sem,h5,h6,bq,KaJ]<;>rfl)|fail) only[go_sem,h5,h6,bq,KaJ]
 ·obtain rfl:i=p.length:=by omega
  rw[Kbp]at h5 hh;refine vr h5 hh ?_;exact Qc (by simp[Kaj]) rfl
theorem Of{p q:List Tm}{i:Nat}(h:i<q.length):lE p (q.take (i+1))=Q4 (lE p (q.take i)) (Q9 p q[i]):=by rw[KaG h,lE,List.foldl_append,lE];rfl
theorem Iq{K E:Nat}{p:List Tm}(hp:PB K E p):∀(q out:List Tm)(L:Nat),PB K E q->PB L (E+E) out->PB (q.length*(K+K)+L) (E+E) (q.foldl (fun out t=>Q4 out (Q9 p t)) out)/\(q.foldl (fun out t=>Q4 out (Q9 p t)) out).length<=q.length*p.length+out.length
 | [],out,L,_,ho=>⟨by simpa using ho,by simp⟩
 |t::q,out,L,hq,ho=>by obtain⟨h1,h2⟩:=Iq hp q (Q4 out (Q9 p t)) (L+(K+K)) (PB.cons.1 hq).2 (CE _ _ ho (rY hp (PB.cons.1 hq).1));have h3:=Bg out (Q9 p t);have h4:=qb p t;refine⟨h1.mono (by rw[KaU,Kaz];omega) (Kag _),KaZ h2 ?_⟩;rw[KaU,Kaz];omega
theorem Sh{K E:Nat}{p q:List Tm}(hp:PB K E p)(hq:PB K E q):PB (q.length*(K+K)) (E+E) (lE p q)/\(lE p q).length<=q.length*p.length:=by have:=Iq hp q [] 0 hq (PB.nil _ _);simpa[lE]using this
theorem Qzj{p q:List Tm}{K E:Nat}(hp:PB K E p)(hq:PB K E q)(hnp:NZ p)(wa:NZ q)(hE:E<=2^37)(fE:p.length<=2^30)(lQ:q.length<=2^30)(FH:q.length*p.length<=2^36)(hK:q.length*(K+K)+(K+K)<=2^32):
  Qd Tryz.prog 26 [PV.ax p,PV.ax q] (· =PV.ax (lE p q)):=by
 refine Qf Qh Tryz.func26 rfl Xc (by simp[DX]) fun C hP=>?_;simp only[DX,Zo,Zg,Zm,Zc,Zf,Zl,Zh,Zs,Zi,Zb,Zk,Zn,Zu,Zq,Zr,Zz];refine Sz0 ?_;refine uH 5 4 Tz0 ?_;refine Q3 (by repeat (first|exact Qx|exact Qq|exact Qr|exact Qt|exact Qu|apply Qp|apply Qw|apply Q2|apply Q7|apply Q8|apply Qn|apply Q6)) [(5,20)] [] (fun n J hp=>∃i,n=q.length-i/\i<=q.length/\J 5=PV.ax (lE p (q.take i))/\J 6= .int .i64 (i:Nat)) q.length ?_ ?_
 ·refine⟨0,rfl,by omega,?_⟩;refine Sz0 ?_;simp[lE]
 rintro _ J h ⟨i,rfl,hi,h5,h6⟩;refine Sz2 h5 h6 ?_;refine Qb (fun hg=>?_) (fun hg=>?_)
 ·have aD:i<q.length:=by omega
  have mN:=hq.get aD;have cE:=Of (p:=p) aD;have gJ:=wa _ (Kaq aD);obtain⟨ba,cq⟩:=Sh hp (hq.take i);have te:=rY hp mN;have an:=qb p q[i];generalize hx:q[i]=x at *
  have e1:(q.take i).length=i:=by rw[Kav];omega
  rw[e1]at ba cq;have e2:i*(K+K)<=q.length*(K+K):=Kam _ hi;have e3:i*p.length<=q.length*p.length:=Kam _ hi;refine Sz3 h5 h6 hx ?_;refine Qa hP (Qvq (t:=x) hp mN hnp gJ (by omega) (by omega) (by omega)) rfl rfl rfl ?_;refine Sz3 h5 h6 hx ?_;refine Qa hP (Bn (K:=q.length*(K+K)+(K+K)) (E:=E+E) (ba.mono (by omega) (by omega)) (te.mono (by omega) (by omega)) hK (by omega) (by omega) (by omega)) rfl rfl rfl ?_;refine Sz3 h5 h6 hx ?_;refine Qm (q.length-(i+1)) (by omega) ⟨i+1,rfl,by omega,?_⟩;rw[cE];exact Tz0
 ·obtain rfl:i=q.length:=by omega
  rw[Kbp]at h5;refine Sz1 h5 ?_;exact Qc rfl rfl
theorem HX{p:List Tm}{a:Rat}{K E:Nat}(hp:PB K E p)(kU:NZ p)(ha:rs a+1<=K)(hK:K<=2^33)(hE:E<=2^38)(fE:p.length<=2^36):
  Qd Tryz.prog 74 [PV.ax p,PV.rat a] (· =PV.ax (eC p a)):=by
 refine Qf Qh Tryz.func74 rfl Xd (by simp[EK]) fun C hP=>?_;simp only[EK,Zo,Zg,Zm,Zc,Zf,Zl,Zh,Zs,Zi,Zb,Zk,Zn,Zu,Zq,Zr,Zz];refine Sz0 ?_;refine mY 5 900 4 104 (by omega) Tz0 ?_;refine Q3 (by repeat (first|exact Qx|exact Qq|exact Qr|exact Qt|exact Qu|apply Qp|apply Qw|apply Q2|apply Q7|apply Q8|apply Qn|apply Q6)) [(5,33)] [32,33,900] (fun n J hp=>∃i,n=p.length-i/\i<=p.length/\J 5= .ms 900 (Q9 (p.take i) (a,[])).length/\J 6= .int .i64 (i:Nat)/\hp 3=some ⟨3,32,[PV.rat a],false⟩/\hp 900=some ⟨4,104,(Q9 (p.take i) (a,[])).map PV.term,false⟩) p.length ?_ ?_
 ·refine⟨0,rfl,by omega,?_⟩;refine Sz0 ?_;simp[Q9]
 rintro _ J h ⟨i,rfl,hi,h5,h6,bq,hh⟩;refine Sz2 h5 h6 ?_;refine eK (fun hg=>?_) (fun hg=>?_)
 ·have aD:i<p.length:=by omega
  have dN:=hp.get aD;have cE:=Bo (t:=(a,[])) aD;have hlen:=qb (p.take i) (a,[]);rw[Kav]at hlen;have c1:=dN.c;have gJ:=kU _ (Kaq aD);generalize hx:p[i]=x at *
  refine Sz4 h5 h6 bq hx ?_;refine Qa hP (BW (a:=a) (by omega)) rfl rfl rfl ?_;refine Sz4 h5 h6 bq hx ?_;refine Qb (fun hz=>?_) (fun hz=>?_)
  ·rw[if_neg (fun h=>by rcases Rat.mul_eq_zero.1 h with h|h;exact gJ h;exact hz (iY.2 h)),J7 dN.l]at cE;refine Sz4 h5 h6 bq hx ?_;refine Qa hP (KH (a:=x.1) (b:=a) (k:=2^33) (by omega) (by omega) (by omega)) rfl rfl rfl ?_;refine Sz4 h5 h6 bq hx ?_;rw[dB (f:=PV.term) (y:=(x.1*a,x.2)) (xs:=Q9 (p.take i) (a,[])) (ty':=104) (fz:=false) (Tz1 hh) bd (by omega) rfl (by omega) (by omega)];rw[<-cE];refine Sz4 h5 h6 bq hx ?_;refine Qm (p.length-(i+1)) (by omega) ⟨i+1,rfl,by omega,?_⟩;rw[cE];simp+decide (disch:=first|omega|rfl|(simp+decide only[go_sem,h5,h6,bq,KaJ]<;>rfl)|fail) only[go_sem,h5,h6,bq,KaJ]
  ·have my:=iY.1 (Decidable.not_not.1 hz);have e0:∀l:List Tm,Q9 l (a,[])=[]:=fun l=>by rw[my];simp[Q9]
   refine yK h5 hh bq ?_;refine Qc ?_ rfl;rw[e0,eC,if_pos my];rfl
 ·obtain rfl:i=p.length:=by omega
  rw[Kbp]at h5 hh;refine yK h5 hh bq ?_;refine Qc ?_ rfl;rw[Kaj (by simp),eC];split
  ·rename_i my;rw[my];simp[Q9]
  ·rfl
theorem Qzk{p:List Tm}{K E:Nat}(hp:PB K E p)(kU:NZ p)(pE:2<=K)(hK:K<=2^33)(hE:E<=2^38)(fE:p.length<=2^36):Qd Tryz.prog 123 [PV.ax p] (· =PV.ax (wR p)):=by have h1:=yI;refine Qf Qh Tryz.func123 rfl UF (by simp[Dq]) fun C hP=>?_;simp only[Dq,Zo,Zg,Zm,Zc,Zf,Zl,Zh,Zs,Zi,Zb,Zk,Zn,Zu,Zq,Zr,Zz];refine Sz0 ?_;refine Qa hP (I6 (x:= -1) (by omega) (by omega)) rfl rfl rfl ?_;refine Sz0 ?_;refine Qa hP (HX (a:=((-1:Int):Rat)) hp kU (by have:((-1:Int):Rat)= -1:=rfl;rw[this];omega) hK hE fE) rfl rfl rfl ?_;refine Sz0 ?_;exact Qc rfl rfl
theorem Qzl{p q:List Tm}{K E:Nat}(hp:PB K E p)(hq:PB K E q)(kU:NZ q)(pE:2<=K)(hK:K<=2^31)(hE:E<=2^38)(fE:p.length<=2^36)(lQ:q.length<=2^36):Qd Tryz.prog 71 [PV.ax p,PV.ax q] (· =PV.ax (cH p q)):=by have hl:=AX q (-1);refine Qf Qh Tryz.func71 rfl Xe (by simp[EH]) fun C hP=>?_;simp only[EH,Zo,Zg,Zm,Zc,Zf,Zl,Zh,Zs,Zi,Zb,Zk,Zn,Zu,Zq,Zr,Zz];refine Sz0 ?_;refine Qa hP (Qzk hq kU pE (by omega) hE lQ) rfl rfl rfl ?_;refine Sz0 ?_;refine Qa hP (Bn (hp.mono (K':=K+2) (by omega) (Kag _)) (KX hq) (by omega) hE fE (by show(eC q (-1)).length<=_;omega)) rfl rfl rfl ?_;refine Sz0 ?_;exact Qc rfl rfl
theorem H2{p:List Tm}{a:Rat}{K E:Nat}(hp:PB K E p)(ha:rs a+1<=K)(hK:K<=2^33)(hE:E<=2^38)(fE:p.length<=2^36):Qd Tryz.prog 117 [PV.ax p,PV.rat a] (· =PV.ax (eC p a)):=by
 refine Qf Qh Tryz.func117 rfl Vo (by simp[Dk]) fun C hP=>?_;simp only[Dk,Zo,Zg,Zm,Zc,Zf,Zl,Zh,Zs,Zi,Zb,Zk,Zn,Zu,Zq,Zr,Zz];refine Sz0 ?_;refine Qa hP (CV (a:=a) (by omega)) rfl rfl rfl ?_;refine Sz0 ?_;refine Qb (fun h0=>?_) (fun h0=>?_)
 ·refine Sz0 ?_;exact mc (BR (by rw[eC,if_pos (iY.1 h0)])) rfl
 ·refine Sz0 ?_;refine Qa hP ((Bd (t:=(a,[])) hp (TB.num ha) hK hE fE).le (args':=[PV.ax p,.agg [.bool (decide (a.num<0)),PV.num a.num.natAbs,PV.num a.den,.aa]]) ⟨bT _,⟨rfl,uw _,uw _,trivial,trivial⟩,trivial⟩) rfl rfl rfl ?_;refine Sz0 ?_;exact Qc (by rw[eC,if_neg (fun h=>h0 (iY.2 h))]) rfl
theorem Og{p:List Tm}{K E:Nat}(hp:PB K E p)(pE:2<=K)(hK:K<=2^33)(hE:E<=2^38)(fE:p.length<=2^36):Qd Tryz.prog 122 [PV.ax p] (· =PV.ax (wR p)):=by have h1:=yI;refine Qf Qh Tryz.func122 rfl Vk (by simp[Dp]) fun C hP=>?_;simp only[Dp,Zo,Zg,Zm,Zc,Zf,Zl,Zh,Zs,Zi,Zb,Zk,Zn,Zu,Zq,Zr,Zz];refine Sz0 ?_;refine Qa hP (Jk (x:= -1) (by omega) (by omega)) rfl rfl rfl ?_;refine Sz0 ?_;refine Qa hP (H2 (a:=((-1:Int):Rat)) hp (by have:((-1:Int):Rat)= -1:=rfl;rw[this];omega) hK hE fE) rfl rfl rfl ?_;refine Sz0 ?_;exact Qc rfl rfl
theorem Oh{p q:List Tm}{K E:Nat}(hp:PB K E p)(hq:PB K E q)(pE:2<=K)(hK:K<=2^32)(hE:E<=2^38)(fE:p.length<=2^36)(lQ:q.length<=2^36):Qd Tryz.prog 68 [PV.ax p,PV.ax q] (· =PV.ax (cH p q)):=by have hl:=AX q (-1);refine Qf Qh Tryz.func68 rfl Xx (by simp[EE]) fun C hP=>?_;simp only[EE,Zo,Zg,Zm,Zc,Zf,Zl,Zh,Zs,Zi,Zb,Zk,Zn,Zu,Zq,Zr,Zz];refine Sz0 ?_;refine Qa hP (Og hq pE (by omega) hE lQ) rfl rfl rfl ?_;refine Sz0 ?_;refine Qa hP (BH (hp.mono (K':=K+2) (by omega) (Kag _)) (KX hq) (by omega) hE fE (by show(eC q (-1)).length<=_;omega)) rfl rfl rfl ?_;refine Sz0 ?_;exact Qc rfl rfl
def DY:az:=⟨19,[.t 2],Zr (Zo (.mv 2 (.c .aa)) .nil)<| .seq (Zr (Zm 4 0<|
 Zk 5 .lss 4 0<|
 Zm 6 5<|
 Zg 6 false (.mv 7 (.t 0))<|
 Zg 6 false (.bin 8 .geq false (.t 7) (.c (Zz 64)))<|
 Zo (.pick 9 (.t 6) (.c (.bool true)) (.t 8)) .nil)<| .cond (.t 9) (Zr (Zo (.mv 2 (.c .aa)) .nil) .ret) .skip)<|Zr (Zm 10 0<|
 Zk 11 .add 10 1<|
 Zo (.mk 12 1 8 3 (Zz 0) (.t 11) (.t 11))<|
 Zm 3 12 .nil)<|Zr (Zm 13 3<|
 Zm 14 0<|
 Zi 15 1 13 14<|
 Zo (.st 1 (.t 15) (.c (Zz 1))) .nil)<|Zr (Zq 16 false 38 [.c (Zz 1)]<|
 Zm 17 3<|
 Zq 18 false 52 [.c .aa,.t 16,.t 17]<|
 Zm 2 18 .nil) .ret⟩
theorem Xy:Qe Tryz.prog Tryz.f27=some DY:=by kernel_rfl
end Go.Proofs.YtonjiljafkiikaaGreat
namespace Go.FW
open Go
variable {C : Ctx} {ρ : Nat -> Option Nat} {fr aw : Fr} {hp : HP} {w : World} {K R : Qg}
theorem xx {P : Program} {f : FuncId} {fn : Func} {sf : az} {args : List PV} {Rr : PV -> Prop} (hm : P.follows .mixedOrders = true) (hf : P.funcs[f]? = some fn) (kT : (fn.name != "runtime.NumGoroutine") = true) (hc : Qe P fn = some sf.strip) (hn : args.length <= sf.n /\ sf.n <= 1000000)
  (hv:∀C:Ctx,C.P=P->C.N=sf.n->vc C (n4 (eE sf.rs Rr)) [.c sf.body] (fe args) au):Qd P f args Rr:=by
 simp only[Qe,Kab,Kaa]at hc;obtain⟨c,hb,sb,fY,rs,cr,we⟩:=hc;obtain⟨n,Gi,body⟩:=sf;simp only[az.strip,az.mk.injEq]at we;obtain⟨rfl,rfl,rfl⟩:=we;refine⟨by simp[lI,hf,hb];simpa using kT,fun w X aU hX dI eA=>?_⟩
 let C:Ctx:=Ctx.plain P fn.ntmps w X hX hn.2
 refine calls_of_wp hf hb ?_;have nD:(aU++Array.replicate (fn.ntmps-aU.size) undef).size=fn.ntmps:=by simp at hn ⊢;omega
 have kW:cT C (fe args) au (aU++Array.replicate (fn.ntmps-aU.size) undef) w:=by
  refine⟨fun _=>none,nD,Ext.refl _ _,(fun _ _ h=>by cases h),by simp[au],by simp[au],fun i=>?_⟩;unfold fe;cases hi:args[i]? with
  |none=>trivial
  | some p=>
   simp only[Kbo];have eH:i<aU.size:=by rw[dI];exact(Kad.1 hi).1
   have hr:=eA i p hi;have e:(aU++Array.replicate (fn.ntmps-aU.size) undef).getD i undef=aU.getD i undef:=by rw[gV,if_pos eH]
   rw[e];refine Qj.iT (hr.mono (fun _ _ _=>rfl) (fun b _ hn hx=>?_) (Kag _));rcases hx with hx|⟨_,_,h1,_⟩
   ·exact hn hx
   ·simp[au]at h1
 have fin:∀(fr:Fr)(hp:HP)(a:Act)(w':World),a.defers=[]->cT C fr hp a.tmps w'->n4 (eE rs Rr) fr hp->
   a.defers=[]/\∃v,(results fn a.tmps).run P w'= .ok v w'/\∃v' r,Ending.returned v= .returned v'/\Ext bW w w'/\dC w' X r v'/\Rr r:=by
  rintro fr hp a w' hd ru ⟨jk,ew,hw,hr⟩;obtain⟨ρ,hs⟩:=hw C _ _ ru;obtain⟨v,r,h1,h2,h3⟩:=Jr (C:=C) rfl cr hs hr;exact⟨hd,v,h1,v,r,rfl,Ctx.Gg hs.ext,h2,h3⟩
 exact Be (C:=C) (R:=n4 (eE rs Rr)) hm c body [] _ (fe args) au _ w fY ⟨fun fr hp a w' hd hs hv=>(by rw[oW]at hv;exact fin fr hp a w' hd hs hv),fun id dm he=>(by simp[FW.bJ]at he),fin⟩ rfl kW (hv C rfl rfl)
theorem Jl {P : Program} {f : FuncId} {fn : Func} {sf : az} {args : List PV} {Rr : PV -> Prop} (hm : P.follows .mixedOrders = true) (hf : P.funcs[f]? = some fn) (kT : (fn.name != "runtime.NumGoroutine") = true) (hc : Qe P fn = some sf.strip) (hn : args.length <= sf.n /\ sf.n <= 1000000)
  (hv:∀C:Ctx,C.P=P->vc C (n4 (eE sf.rs Rr)) [.c sf.body] (fe args) au):Qd P f args Rr:=
 xx hm hf kT hc hn fun C h _=>hv C h
theorem Vp{ty w i d:Nat}{fz:Bool}{f:Nat->Rat}(h:i<w):gw (some ⟨3,ty,jW PV.rat f w,fz⟩) 3 true i 0 d fr hp K=K (ae fr d (PV.rat (f i))) hp:=by rw[mg (by rw[Bk];exact h) (by omega) (by simp),BY];rfl
theorem Xz:(qA (.aO [])=True)/\(∀(k:IntKind)(n:Int),qA (.int k n)=True)/\(∀b:Bool,qA (.bool b)=True)/\(∀(e:Nat)(xs:List PV),qA (.sl e xs)=True)/\(∀cs:List PV,qA (.agg cs)=True)/\(∀cs:List PV,qA (.aO cs)=True):=by refine⟨?_,?_,?_,?_,?_,?_⟩<;>intros<;>simp[qA,PV.refs,PV.aJ,cc,cB]
attribute [go_sem] Xz Vp
end Go.FW
namespace Go.FW
open Go
variable {C : Ctx} {ρ : Nat -> Option Nat} {fr aw : Fr} {hp : HP} {w : World} {K R : Qg}
def tB(p:PV)(γ n:Nat)(ag:Bool)(i o d:Nat)(fr:Fr)(hp:HP)(K:Qg):Prop:=match p with
 |.aC aS e _ xs=>aS=γ/\∃h:i<xs.length,o+n<=e/\(ag=false->n=1)/\K (ae fr d (nG ag n o (xs[i]'h))) hp
 |_=>False
theorem XA{γ n i o d:Nat}{ag:Bool}:bb n ag (.np γ i o) d fr hp K=tB (fr γ) γ n ag i o d fr hp K:=by simp only[bb,tB];cases fr γ<;>rfl
def tH(p:PV)(h:Option HB)(v:Option (List PV))(γ n i o:Nat)(fr:Fr)(hp:HP)(K:Qg):Prop:=match p with
 |.aC aS e ty xs=>aS=γ/\(∃hb,h=some hb/\hb.fz=false)/\∃h:i<xs.length,o+n<=e/\match v with
   |some cs=>cs.length=n/\K (ae (fL γ fr) γ (.aC γ e ty (xs.set i (ep (mm (xs[i]'h).aQ o cs))))) hp
   |none=>False
 |_=>False
theorem XB{γ n i o:Nat}{v:PV}:kt n (.np γ i o) v fr hp K=tH (fr γ) (hp γ) (df v) γ n i o fr hp K:=by simp only[kt,tH];cases fr γ<;>rfl
theorem YR{γ e ty n o d:Nat}{ag:Bool}{x:PV}(h1:o+n<=e)(h2:ag=true∨n=1):tB (.aC γ e ty [x]) γ n ag 0 o d fr hp K=K (ae fr d (nG ag n o x)) hp:=by have:(ag=false->n=1):=fun h=>h2.resolve_left (by simp[h]);simp[tB,h1];exact fun _=>this
theorem YS{γ e ty n o e0 Gk:Nat}{x:PV}{Gn cs:List PV}(h1:o+n<=e)(h2:cs.length=n):tH (.aC γ e ty [x]) (some ⟨e0,Gk,Gn,false⟩) (some cs) γ n 0 o fr hp K=K (ae (fL γ fr) γ (.aC γ e ty [ep (mm x.aQ o cs)])) hp:=by simp[tH,h1,h2]
theorem YT{γ ty B n w r d:Nat}{π:Nat->Nat}(h:r<n):tB (.aC γ 1 ty (gA (ff B n w π))) γ 1 false r 0 d fr hp K=K (ae fr d (.ms (B+π r) w)) hp:=by
 have hl:r<(gA (ff B n w π)).length:=by simpa[gA,ff]using h
 simp only[tB,hl,exists_true_left,true_and,Kag,Ka2,implies_true];simp[nG,gA,ff,PV.aQ,PV.cells]
theorem YU{γ ty B n w r m e0 Gk:Nat}{π:Nat->Nat}{Gn:List PV}(h:r<n):tH (.aC γ 1 ty (gA (ff B n w π))) (some ⟨e0,Gk,Gn,false⟩) (some [.ms (B+m) w]) γ 1 r 0 fr hp K=K (ae (fL γ fr) γ (.aC γ 1 ty (gA (ff B n w fun x=>if x=r then m else π x)))) hp:=by
 have hl:r<(gA (ff B n w π)).length:=by simpa[gA,ff]using h
 have e:(ff B n w π).set r (B+m,w)=ff B n w fun x=>if x=r then m else π x:=by
  refine List.ext_getElem (by simp[ff]) fun j h1 h2=>?_;rw[List.getElem_set,KC,KC];split
  ·rename_i e;subst e;simp
  ·rename_i e;rw[if_neg fun e2=>e e2.symm]
 rw[<-e];simp only[tH,hl,exists_true_left,true_and,Kag,Ka2,Kar,exists_eq_left',KaU,Kbg];simp[ep,mm,gA,PV.aQ,PV.cells,List.map_set]
theorem ad9:
  (∀(γ o n:Nat),df (.aE γ o n)=some [.aE γ o n])/\
  (∀(k:IntKind)(n:Int),df (.int k n)=some [.int k n])/\
  (∀(b:Bool),df (.bool b)=some [.bool b])/\
  (df .aa=some [.aa])/\
  (∀(e:Nat)(xs:List PV),df (.sl e xs)=some [.sl e xs])/\
  (∀(cs:List PV),df (.pt cs)=some [.pt cs])/\
  (∀(cs:List PV),df (.agg cs)=some cs):=by
 refine⟨?_,?_,?_,?_,?_,?_,?_⟩<;>intros<;>rfl
theorem W2{β o n:Nat}(h:1000000<=β):df (.aq β o n)=some [.aq β o n]:=by simp[df,bm,h]
theorem Vq{cs:List PV}:df (.aH cs)=if cs.all PV.eY then some cs else none:=rfl
theorem YV:(∀(k:IntKind)(n:Int),(PV.int k n).eY=true)/\(∀b:Bool,(PV.bool b).eY=true)/\(PV.aa.eY=true)/\(∀(e:Nat)(xs:List PV),(PV.sl e xs).eY=true)/\(∀(β o n:Nat),(PV.aq β o n).eY=true)/\(∀(β o n:Nat),(PV.aE β o n).eY=true)/\(∀cs:List PV,(PV.pt cs).eY=true)/\(PV.undef.eY=false):=by refine⟨?_,?_,?_,?_,?_,?_,?_,?_⟩<;>intros<;>rfl
theorem YW:(∀(k:IntKind)(n:Int),(PV.int k n).lg=false)/\(∀b:Bool,(PV.bool b).lg=false)/\(PV.aa.lg=false)/\(∀(e:Nat)(xs:List PV),(PV.sl e xs).lg=false)/\(∀(β o n:Nat),(PV.aq β o n).lg=true)/\(∀(β o n:Nat),(PV.aE β o n).lg=true)/\(∀cs:List PV,(PV.pt cs).lg=false)/\(PV.undef.lg=true):=by refine⟨?_,?_,?_,?_,?_,?_,?_,?_⟩<;>intros<;>rfl
theorem PL{cs:List PV}(h:cs.any PV.lg=true):kE cs= .aH cs:=by simp[kE,h]
theorem PM{cs:List PV}(h:cs.any PV.lg=false):kE cs= .agg cs:=by simp[kE,h]
theorem W3{a b:PV}{cs:List PV}:ep (a::b::cs)=kE (a::b::cs):=rfl
theorem W4{a:PV}:ep [a]=a:=rfl
theorem YX{n o:Nat}{x:PV}:nG true n o x=kE ((x.aQ.drop o).take n):=rfl
theorem YY{n o:Nat}{x:PV}:nG false n o x=(x.aQ.drop o).headD .undef:=rfl
theorem Vs{l cs:List PV}{o:Nat}:mm l o cs=l.take o++cs++l.drop (o+cs.length):=rfl
theorem Oi{cs:List PV}:(PV.aH cs).aQ=cs:=rfl
theorem Oj{cs:List PV}:(PV.agg cs).aQ=cs:=rfl
theorem YZ{z:List PV}{ps:List (Nat×Nat×PV)}{d:Nat}(h:ps.any (fun p=>p.2.2.iR)=true):gZ z ps d fr hp K=(oP z.length ps/\K (ae fr d (.aH (fa z (ps.map fun p=>(p.1,(df p.2.2).getD []))))) hp):=by simp only[gZ,if_pos h]
theorem Qzm{len:Nat}:oP len []=True:=by simp[oP]
theorem Qxz{len o n:Nat}{v:PV}{ps:List (Nat×Nat×PV)}:oP len ((o,n,v)::ps)=((∃cs,df v=some cs/\cs.length=n/\o+n<=len)/\oP len ps):=by simp[oP]
theorem W5:(∀(γ o n:Nat),(PV.aE γ o n).iR=true)/\(∀(cs:List PV),(PV.aH cs).iR=true)/\(∀(β o n:Nat),(PV.aq β o n).iR=decide (2000000<=β))/\(∀(cs:List PV),(PV.agg cs).iR=false)/\(∀(k:IntKind)(n:Int),(PV.int k n).iR=false)/\(∀b:Bool,(PV.bool b).iR=false)/\(PV.aa.iR=false)/\(∀(e:Nat)(xs:List PV),(PV.sl e xs).iR=false):=by refine⟨?_,?_,?_,?_,?_,?_,?_,?_⟩<;>intros<;>rfl
theorem Vt:(∀(β:Nat)(k:IntKind)(n:Int),fu β (.int k n)= .int k n)/\(∀(β:Nat)(b:Bool),fu β (.bool b)= .bool b)/\(∀β:Nat,fu β .aa= .aa)/\(∀(β e:Nat)(xs:List PV),fu β (.sl e xs)= .sl e xs)/\(∀(β γ o n:Nat),fu β (.aq γ o n)=if γ=β then .undef else .aq γ o n)/\(∀(β γ o n:Nat),fu β (.aE γ o n)=if γ=β then .undef else .aE γ o n):=by refine⟨?_,?_,?_,?_,?_,?_⟩<;>intros<;>rfl
theorem Vu{β γ e ty:Nat}{x:PV}(h:γ≠β):cu β (.aC γ e ty [x])= .aC γ e ty [ep (x.aQ.map (fu β))]:=by simp[cu,h]
theorem Vv{β γ ty B n w:Nat}{π:Nat->Nat}(h:γ≠β)(h2:β<B):cu β (.aC γ 1 ty (gA (ff B n w π)))= .aC γ 1 ty (gA (ff B n w π)):=by
 simp only[cu,if_neg h];congr 1;conv=>rhs;rw[<-List.map_id (gA (ff B n w π))]
 refine KaV fun x hx=>?_;obtain⟨y,hy,rfl⟩:=KaL.1 hx;obtain⟨r,hr,rfl⟩:=KaL.1 hy;simp only[PV.aQ,PV.cells,Kbs,Kby,fu,ep];rw[if_neg (by omega)];rfl
theorem adO{β δ γ ty B n w:Nat}{π:Nat->Nat}(aj:β<1000000)(hB:2000000<=B)(ah:2000000<=γ):cc (lh β δ) (.aC γ 1 ty (gA (ff B n w π)))= .aC γ 1 ty (gA (ff B n w π)):=by
 have e1:lh β δ γ=γ:=by unfold lh;rw[if_neg (by omega)]
 simp only[cc,e1];congr 1;conv=>rhs;rw[<-List.map_id (gA (ff B n w π))]
 refine KaV fun x hx=>?_;obtain⟨y,hy,rfl⟩:=KaL.1 hx;obtain⟨r,hr,rfl⟩:=KaL.1 hy;refine UC (.inr ⟨_,_,rfl⟩) fun bo n' h=>?_;cases h;unfold lh;rw[if_neg (by omega)]
theorem Za{δ γ ty B n w:Nat}{π:Nat->Nat}(h:γ≠δ)(ko:δ<B):cL δ (.aC γ 1 ty (gA (ff B n w π)))= .aC γ 1 ty (gA (ff B n w π)):=by
 simp only[cL,if_neg h];congr 1;conv=>rhs;rw[<-List.map_id (gA (ff B n w π))]
 refine KaV fun x hx=>?_;obtain⟨y,hy,rfl⟩:=KaL.1 hx;obtain⟨r,hr,rfl⟩:=KaL.1 hy;simp only[PV.aQ,PV.cells,Kbs,Kby,dE,ep];rw[if_neg (by omega)];rfl
theorem Pm{β:Nat}{cs:List PV}:bl β (.aH cs)= .aH cs:=rfl
theorem Si{γ:Nat}{cs:List PV}:cL γ (.aH cs)= .aH (cs.map (dE γ)):=rfl
theorem Pn{β:Nat}{cs:List PV}:cu β (.aH cs)= .aH (cs.map (fu β)):=rfl
theorem Zd:(∀(γ:Nat)(k:IntKind)(n:Int),dE γ (.int k n)= .int k n)/\(∀(γ:Nat)(b:Bool),dE γ (.bool b)= .bool b)/\(∀γ:Nat,dE γ .aa= .aa)/\(∀(γ e:Nat)(xs:List PV),dE γ (.sl e xs)= .sl e xs)/\(∀(γ β o n:Nat),dE γ (.aq β o n)=if β=γ then .aE γ o n else .aq β o n)/\(∀(γ β o n:Nat),dE γ (.aE β o n)= .aE β o n):=by refine⟨?_,?_,?_,?_,?_,?_⟩<;>intros<;>rfl
theorem W6{γ i o off d:Nat}:nr off (.np γ i o) d fr hp K=K (ae fr d (.np γ i (o+off))) hp:=rfl
theorem Po{γ aS e ty:Nat}{xs:List PV}:fS γ (.aC aS e ty xs)=if aS=γ then .undef else .aC aS e ty xs:=rfl
theorem Pp{γ:Nat}{cs:List PV}:fS γ (.aH cs)= .aH cs:=rfl
attribute [go_sem] W6 Po Pp false_and List.all_cons List.all_nil Pm Si Pn Zd exists_eq_left' XA XB YR YS YT YU ad9 W2 Vq YV YW PL PM W3 W4 YX YY Vs Oi Oj YZ Qzm Qxz W5 Vt Vu Vv adO Za
theorem Vw{γ e ty:Nat}{cs cs':List PV}(δ e' ty':Nat)(pI:fr γ= .aC γ e ty [.aH cs])(h1:hp δ=none)(h2:2000000<=δ)(h3:0<e')(hl:cs'.length=cs.length)(hc:∀p∈cs.zip cs',p.2=p.1∨(p.1= .aa/\p.2= .aq δ 0 0)):
  Wk fr hp (ae fr γ (.aC γ e ty [.aH cs'])) (Qi hp δ ⟨e',ty',[],false⟩):=by
 have h:=Kx (fr:=fr) (hp:=hp) (γ:=γ) (e:=e) (ty:=ty) (xs:=[.aH cs]) (xs':=[.aH cs']) (fun x=>if x=δ then some (e',ty')else none) pI (fun x y h=>?_) rfl (fun i x x' k1 k2=>?_)
 ·refine cast (congrArg (Wk fr hp (ae fr γ (.aC γ e ty [.aH cs']))) (funext fun x=>?_)) h;unfold Qi;by_cases hx:x=δ
  ·subst hx;simp
  ·simp[hx]
 ·split at h
  ·rename_i hx;subst hx;cases h;exact⟨h1,h2,h3⟩
  ·cases h
 ·cases i with
  |succ i=>cases k1
  | zero=>
   cases k1;cases k2;refine⟨hl,fun j y y' q1 q2=>?_⟩;have hz:(y,y')∈cs.zip cs':=by refine Kah (i:=j) ?_;rw[List.getElem?_zip_eq_some];exact⟨q1,q2⟩
   rcases hc _ hz with h|⟨h,h'⟩
   ·exact .inl h
   ·exact .inr ⟨h,δ,(e',ty'),by simp,h'⟩
theorem Ok{l:List Nat}{x:Nat}(hl:∀y∈l,2000000<=y)(hx:x<2000000):bw hp l x=hp x:=by
 have:x ∉ l:=fun h=>by have:=hl x h;omega
 unfold bw;cases hp x<;>simp[this]
theorem W7{sk:List It}{r:RT}(s k:Nat){p D:PV}(h0:fr s=p)(ho:MS fr k p/\Ac fr hp k p=D/\∀x∈wU fr k p,2000000<=x)(hv:∀l,(∀x∈l,2000000<=x)->vc C R (.o r::sk) (ae fr s D) (bw hp l)):vc C R (.o (.wk r)::sk) fr hp:=by subst h0;obtain⟨h1,h2,h3⟩:=ho;refine cO (WU s k h1) ?_;rw[h2];exact hv _ h3
theorem Pq{γ:Nat}{F:Fr}:fL γ (qI F)=qI F:=by have:=JM (γ:=γ) (B:=[]) (F:=F);simpa only[dM,ln]using this
theorem Pr{β:Nat}{F:Fr}(h:2000000<=β):dU β (qI F)=qI F:=by have:=JL (B:=[]) (F:=F) h;simpa only[dM,ln]using this
attribute [go_sem] Pq Pr
theorem Ze:(∀(k:IntKind)(n:Int),(PV.int k n).aJ=[])/\(∀b:Bool,(PV.bool b).aJ=[])/\(PV.aa.aJ=[])/\(PV.undef.aJ=[])/\(∀(e:Nat)(xs:List PV),(PV.sl e xs).aJ=[])/\(∀cs:List PV,(PV.agg cs).aJ=[])/\(∀cs:List PV,(PV.aO cs).aJ=[])/\(∀cs:List PV,(PV.pt cs).aJ=[])/\
  (∀(β o n:Nat),(PV.aq β o n).aJ=[])/\(∀(β o n:Nat),(PV.mp β o n).aJ=[])/\(∀(β o n:Nat),(PV.aE β o n).aJ=[β])/\(∀(β o n:Nat),(PV.np β o n).aJ=[β]):=by
 refine⟨?_,?_,?_,?_,?_,?_,?_,?_,?_,?_,?_,?_⟩<;>intros<;>rfl
attribute [go_sem] Ze
theorem Sj{d w i:Nat}{k:IntKind}{f:Nat->Rat}(h:i<w):aK 3 (.sl 3 (jW PV.rat f w)) (.int k (i:Nat)) d fr hp K=K (ae fr d (.pt (PV.rat (f i)).cells)) hp:=by unfold jW;rw[ql (by omega) (by simp;omega)];simp
theorem Sk{α:Type}{p:α->PV}{f:Nat->α}{w d e:Nat}:lH (.sl e (jW p f w)) d fr hp K=K (ae fr d (.int .i64 (w:Nat))) hp:=by simp[lH,jW]
attribute [go_sem] Sj Sk
theorem Vx{i c:Nat}(h:c<1600000):(1600000+i=c)=False:=by simp;omega
attribute [go_sem] Vx
end Go.FW
namespace Go.FW
open Go
variable {C C' : Ctx} {ρ ρ' : Nat -> Option Nat} {fr aw : Fr} {hp hp' : HP} {w : World} {K R : Qg}
theorem Sl{γ e ty:Nat}{cs cs':List PV}(δ e' ty':Nat)(pI:fr γ= .aC γ e ty [.agg cs])(h1:hp δ=none)(h2:2000000<=δ)(h3:0<e')(hl:cs'.length=cs.length)(hc:∀p∈cs.zip cs',p.2=p.1∨(p.1= .aa/\p.2= .aq δ 0 0)):
  Wk fr hp (ae fr γ (.aC γ e ty [.aH cs'])) (Qi hp δ ⟨e',ty',[],false⟩):=by
 have h:=Kx (fr:=fr) (hp:=hp) (γ:=γ) (e:=e) (ty:=ty) (xs:=[.agg cs]) (xs':=[.aH cs']) (fun x=>if x=δ then some (e',ty')else none) pI (fun x y h=>?_) rfl (fun i x x' k1 k2=>?_)
 ·refine cast (congrArg (Wk fr hp (ae fr γ (.aC γ e ty [.aH cs']))) (funext fun x=>?_)) h;unfold Qi;by_cases hx:x=δ
  ·subst hx;simp
  ·simp[hx]
 ·split at h
  ·rename_i hx;subst hx;cases h;exact⟨h1,h2,h3⟩
  ·cases h
 ·cases i with
  |succ i=>cases k1
  | zero=>
   cases k1;cases k2;refine⟨hl,fun j y y' q1 q2=>?_⟩;have hz:(y,y')∈cs.zip cs':=by refine Kah (i:=j) ?_;rw[List.getElem?_zip_eq_some];exact⟨q1,q2⟩
   rcases hc _ hz with h|⟨h,h'⟩
   ·exact .inl h
   ·exact .inr ⟨h,δ,(e',ty'),by simp,h'⟩
end Go.FW
namespace Go.FW
open Go
abbrev LF:=Rat×(Nat->Rat)
variable {C : Ctx} {fr : Fr} {hp : HP} {w : World} {K R : Qg}
abbrev PV.oG(w:Nat)(f:Nat->Rat):PV:=.sl 3 (jW PV.rat f w)
theorem Vy{ty w n i d:Nat}{fz:Bool}{M:MF}(h:i<n):gw (some ⟨1,ty,jW (PV.oG w) M n,fz⟩) 1 false i 0 d fr hp K=K (ae fr d (PV.oG w (M i))) hp:=by rw[mg (by rw[Bk];exact h) (by omega) (by simp),BY];rfl
theorem Sm{d w n i:Nat}{k:IntKind}{M:MF}(h:i<n):aK 1 (.sl 1 (jW (PV.oG w) M n)) (.int k (i:Nat)) d fr hp K=K (ae fr d (.pt [PV.oG w (M i)])) hp:=by
 have hl:i<(jW (PV.oG w) M n).length:=by rw[Bk];exact h
 simp only[aK];simp[hl,BY];rfl
attribute [go_sem] Vy Sm
theorem Sn{ty i d:Nat}{fz:Bool}{α:Type}{p:α->PV}{L:List α}(h:i<L.length):gw (some ⟨1,ty,L.map p,fz⟩) 1 false i 0 d fr hp K=K (ae fr d (di false 1 0 (p (L[i]'h)))) hp:=by rw[mg (by rw[Ka3];exact h) (by omega) (by simp),KbQ]
theorem So{ty i d:Nat}{fz:Bool}{L:List LF}(h:i<L.length):gw (some ⟨3,ty,L.map (fun f=>PV.rat f.1),fz⟩) 3 true i 0 d fr hp K=K (ae fr d (PV.rat (L[i]'h).1)) hp:=by rw[mg (by rw[Ka3];exact h) (by omega) (by simp),KbQ];rfl
theorem Sp{ty i d w:Nat}{fz:Bool}{L:List LF}(h:i<L.length):gw (some ⟨1,ty,L.map (fun f=>PV.oG w f.2),fz⟩) 1 false i 0 d fr hp K=K (ae fr d (PV.oG w (L[i]'h).2)) hp:=by rw[Sn h];rfl
attribute [go_sem] So Sp
def nm1(x:Nat):Bool:=decide (x=2000000)
theorem W8:nm1 2000000=true:=decide_eq_true rfl
attribute [go_sem] W8
theorem W9{p:PV}{ps:List PV}{d:Nat}{fr:Fr}{hp:HP}{K:Qg}:jf (.dk (p::ps)) 0 d fr hp K=K (ae fr d p) hp:=rfl
theorem Xa{p q:PV}{ps:List PV}{d:Nat}{fr:Fr}{hp:HP}{K:Qg}:jf (.dk (p::q::ps)) 1 d fr hp K=K (ae fr d q) hp:=rfl
attribute [go_sem] W9 Xa
end Go.FW
namespace Go.FW
open Go
variable {C : Ctx} {fr : Fr} {hp : HP} {w : World} {K R : Qg}
theorem r9{γ e ty:Nat}{cs:List PV}(h:fr γ= .aC γ e ty [.aH cs]):Wk fr hp (ae fr γ (.aC γ e ty [.aH (cs.map fun _=>.undef)])) hp:=by
 rintro C tmps w ⟨ρ,hs⟩;refine⟨ρ,hs.sz,hs.ext,hs.dK,hs.own,hs.inj,fun i=>?_⟩;unfold ae;split
 ·rename_i hi;subst hi;have a9:=hs.cd i;rw[h]at a9;obtain⟨h0,he,b,hb,cur,cap,h1,h2,h3,h4,h5,h6,h7,h8,h9,bC,cD⟩:=a9;refine⟨h0,he,b,hb,cur,cap,h1,h2,h3,h4,h5,h6,h7,h8,h9,fun k x hx=>?_,fun k x hx j y hy=>?_⟩
  ·match k,hx with
   |0,hx=>simp at hx;subst hx;have:=bC 0 _ rfl;simpa[PV.aQ]using this
   |k+1,hx=>simp at hx
  ·match k,hx with
   |0,hx=>simp at hx;subst hx;simp only[PV.aQ,Kap,Kaa]at hy;obtain⟨_,_,rfl⟩:=hy;trivial
   |k+1,hx=>simp at hx
 ·exact hs.cd i
def iq(x:Nat):Bool:=decide (x=2000000)||decide (x=2000001)
theorem ss{x:Nat}:iq x=true↔x=2000000∨x=2000001:=by simp[iq]
abbrev acS(A B:HB):HP:=Qi (Qi au 2000000 A) 2000001 B
abbrev wV(n m:Nat):PV:=.aH [.ms 2000000 n,.ms 2000001 m]
theorem Xb{P:Program}(hP:C.P=P){g:FuncId}{args:List PV}{d n m:Nat}{A B A' B':HB}{q:PV}(h:sr P g args (fun _=>.undef) (acS A B) fun r _ H=>r= .cm [.ms 2000000 n,.ms 2000001 m] q/\H 2000000=some A'/\H 2000001=some B')
  (hA:hp 2000000=some A) (hB:hp 2000001=some B) (fA:A.fz=false) (fB:B.fz=false)
  (aW:∀x∈args,∀γ e ty xs,x≠ .aC γ e ty xs) (kS:∀γ∈args.flatMap (fun x=>x.refs++x.aJ),iq γ=true) (cJ:args.length<=1000000)
  (hK:K (ae (ft iq fr) d (.cm [.ms 2000000 n,.ms 2000001 m] q)) (Qi (Qi hp 2000000 A') 2000001 B')):eD C false (.fn g [] []) args (some d) fr hp K:=by
 refine WZ hP h iq iq [] (fun x hx=>?_) (fun x=>?_) rfl cJ aW kS (fun s _=>.inl rfl) (fun x hx=>⟨.inr hx,?_⟩) (fun h=>by cases h) (fun r F H fj=>?_)
 ·rcases ss.1 hx with rfl|rfl
  ·exact⟨A,hA,fA,by omega⟩
  ·exact⟨B,hB,fB,by omega⟩
 ·by_cases e1:x=2000001
  ·subst e1;simp[iq,Qi,hB]
  ·by_cases e0:x=2000000
   ·subst e0;simp[iq,Qi,hA]
   ·simp[iq,Qi,e0,e1,au]
 ·rcases ss.1 hx with rfl|rfl<;>omega
 ·obtain⟨rfl,h1,h2⟩:=fj;refine⟨fun x hx=>?_,(fun γ e ty xs h=>by cases h),fun β aj=>?_,(fun s hs=>by cases hs),?_⟩
  ·rcases ss.1 hx with rfl|rfl
   ·rw[h1];simp
   ·rw[h2];simp
  ·simp[PV.refs,PV.aJ,PV.cG]at aj;exact ss.2 aj
  ·have e1:s0 [] F (eO (ft iq fr) (some d) (.cm [.ms 2000000 n,.ms 2000001 m] q))=ae (ft iq fr) d (.cm [.ms 2000000 n,.ms 2000001 m] q):=by funext s;simp[s0,eO]
   have e2:pz iq iq H hp=Qi (Qi hp 2000000 A') 2000001 B':=by
    funext x;unfold pz Qi;by_cases e1:x=2000001
    ·subst e1;simp[iq,h2]
    ·by_cases e0:x=2000000
     ·subst e0;simp[iq,h1]
     ·simp[iq,e0,e1]
   rw[e1,e2];exact hK
theorem XM{cs:List PV}{q:PV}{d:Nat}:jf (.cm cs q) 0 d fr hp K=K (ae fr d (.aH cs)) hp:=rfl
theorem XN{cs:List PV}{q:PV}{d:Nat}:jf (.cm cs q) 1 d fr hp K=K (ae fr d q) hp:=rfl
theorem Zj{n ty d:Nat}{cs:List PV}(h:cs.length=n)(h0:0<n)(hU:cs.all PV.eY=true)(mK:cs.all (fun x=> !(x.cG.contains (4000000+d)))=true):
  dO n ty (.aH cs) d fr hp K=K (ae (ae (dU (4000000+d) fr) (4000000+d) (.aC (4000000+d) n ty [.aH cs])) d (.np (4000000+d) 0 0)) (Qi hp (4000000+d) ⟨n,ty,[],false⟩):=by
 show o6 n ty cs d fr hp K=_;unfold o6 ct;simp only[eq_iff_iff,and_iff_right_iff_imp];exact fun _=>⟨h,h0,hU,mK⟩
theorem ad5{σ:Nat->Nat}{γ e ty:Nat}{cs:List PV}:cc σ (.aC γ e ty [.aH cs])= .aC (σ γ) e ty [ep (cs.map (cB σ))]:=rfl
theorem Zp{γ aS e ty:Nat}{cs:List PV}(h:aS≠γ):cL γ (.aC aS e ty [.aH cs])= .aC aS e ty [ep (cs.map (dE γ))]:=by simp[cL,h,PV.aQ]
theorem Zt{γ e ty:Nat}{cs:List PV}{nm:Nat->Bool}:lJ nm (.aC γ e ty [.aH cs])=if(γ::cs.flatMap PV.cG).any nm then .undef else .aC γ e ty [.aH cs]:=by simp[lJ,PV.refs,PV.aJ,PV.aQ]
attribute [go_sem] XM XN Zj ad5 Zp Zt
end Go.FW
