/- Part 5 of the proof of CertcheckPowers: CS3, CS2, CS, S1, S2, S3, S4, S5, S6, S7, S8, S9, CM, R3, R4, M1, M2, T1, T1b, T1c, T1d, U1, CP, P1, P2, U2, P3, P4, U3, CL, U4, U5, CU, CJ, FwUD, FwUE, FwUF, FwUI, FwUJ, FwWA. Own lemmas; no conditions. -/
import Derived.Test.YtdacdnoebgcjhaaGreatCertcheckPowersPart4
set_option linter.unusedSimpArgs false
set_option linter.unnecessarySimpa false
set_option linter.unusedVariables false
namespace Go.Proofs.YtdacdnoebgcjhaaGreat
open Go Go.FW
set_option maxRecDepth 100000
def c36:SFn:=⟨92,[.t 4],Zr (Zo (.mv 4 (.c .nilS)) .nil)<|Zr (Zo (.mv 5 (.c .nilS)) .nil)<|Zr (Zc 6 0<|
 Zc 7 0 .nil)<| .seq (.block 0<| .loop<| .seq (Zr (Zm 10 6<|
 Zm 11 0<|
 Zn 12 11<|
 Zb 13 .lss 10 12<|
 Zm 14 13<|
 Zg 14 false (.mv 15 (.t 7))<|
 Zg 14 false (.mv 16 (.t 1))<|
 Zg 14 false (.len 17 (.t 16))<|
 Zg 14 false (.bin 18 .lss false (.t 15) (.t 17))<|
 Zo (.pick 19 (.t 14) (.c (.bool true)) (.t 18)) .nil)<| .cond (.t 19) .skip (.exit 0))<| .block 1<|Zr (Zc 8 1 .nil)<| .seq (Zr (Zm 20 6<|
 Zm 21 0<|
 Zn 22 21<|
 Zb 23 .eql 20 22 .nil)<| .cond (.t 23) (.rg (Zc 8 (-1) .nil)) (Zr (Zm 24 7<|
 Zm 25 1<|
 Zn 26 25<|
 Zb 27 .lss 24 26 .nil)<| .cond (.t 27) (.rg (Zm 28 0<|
 Zm 29 6<|
 Zi 30 4 28 29<|
 Zf 31 3 30<|
 Zl 32 1 31<|
 Zm 33 1<|
 Zm 34 7<|
 Zi 35 4 33 34<|
 Zf 36 3 35<|
 Zl 37 1 36<|
 Zq 38 false 60 [.t 32,.t 37,.c (Zz 0)]<|
 Zm 8 38 .nil)) .skip))<| .block 2<|Zr (Zm 68 8<|
 Zk 69 .gtr 68 0<|
 Zm 67 69 .nil)<| .cond (.t 67) (Zr (Zm 70 5<|
 Zm 71 0<|
 Zm 72 6<|
 Zi 73 4 71 72<|
 Zh 74 4 73<|
 Zo (.bs 75 4 74 [.t 74])<|
 Zo (.app 76 4 80 74 (.t 70) (.t 75))<|
 Zm 5 76 .nil)<| .rg (Zm 77 6<|
 Zk 78 .add 77 1<|
 Zm 6 78 .nil)) (Zr (Zm 80 8<|
 Zk 81 .lss 80 0<|
 Zm 79 81 .nil)<| .cond (.t 79) (Zr (Zm 82 5<|
 Zm 83 1<|
 Zm 84 7<|
 Zi 85 4 83 84<|
 Zh 86 4 85<|
 Zo (.bs 87 4 74 [.t 86])<|
 Zo (.app 88 4 80 74 (.t 82) (.t 87))<|
 Zm 5 88 .nil)<| .rg (Zm 89 7<|
 Zk 90 .add 89 1<|
 Zm 7 90 .nil)) (.seq (Zr (Zm 39 0<|
 Zm 40 6<|
 Zi 41 4 39 40<|
 Zf 42 0 41<|
 Zh 43 3 42<|
 Zm 44 1<|
 Zm 45 7<|
 Zi 46 4 44 45<|
 Zf 47 0 46<|
 Zh 48 3 47<|
 .br (Zq 49 true 53 [.t 43,.t 48]<|
 Zo (.alloc 9 3 50 (.agg [.bool false,.nilS,.nilS]))<|
 Zs 3 9 49 .nil) (Zo (.alloc 9 3 50 (.agg [.bool false,.nilS,.nilS]))<|
 Zq 49 true 53 [.t 43,.t 48]<|
 Zs 3 9 49 .nil))<|Zr (Zh 50 3 9<|
 Zq 51 false 27 [.t 50]<|
 Zk 52 .neq 51 0 .nil)<| .cond (.t 52) (.rg (Zm 53 5<|
 Zh 54 3 9<|
 Zm 55 0<|
 Zm 56 6<|
 Zi 57 4 55 56<|
 Zf 58 3 57<|
 Zl 59 1 58<|
 Zo (.bld 60 [.bool false,.nilS,.nilS,.nilS] [(0,3,.t 54),(3,1,.t 59)])<|
 Zo (.bs 61 4 74 [.t 60])<|
 Zo (.app 62 4 80 74 (.t 53) (.t 61))<|
 Zm 5 62 .nil)) .skip)<|Zr (Zm 63 6<|
 Zk 64 .add 63 1<|
 Zm 6 64 .nil)<| .rg (Zm 65 7<|
 Zk 66 .add 65 1<|
 Zm 7 66 .nil))))<|Zr (Zm 91 5<|
 Zm 4 91 .nil) .ret⟩
theorem Qae2:Qe Tryz.prog Tryz.f36=some c36:=by kernel_rfl
def c56:SFn:=⟨58,[.t 4],Zr (Zc 4 0 .nil)<| .seq (Zr (Zc 5 0 .nil)<| .block 0<| .loop<| .seq (Zr (Zm 8 5<|
 Zm 9 0<|
 Zn 10 9<|
 Zb 11 .lss 8 10<|
 Zm 12 11<|
 Zg 12 true (.mv 13 (.t 5))<|
 Zg 12 true (.mv 14 (.t 1))<|
 Zg 12 true (.len 15 (.t 14))<|
 Zg 12 true (.bin 16 .lss false (.t 13) (.t 15))<|
 Zo (.pick 17 (.t 12) (.t 16) (.c (.bool false))) .nil)<| .cond (.t 17) .skip (.exit 0))<| .seq (.block 1<| .seq (Zr (Zm 20 0<|
 Zm 21 5<|
 Zi 22 4 20 21<|
 Zf 23 3 22<|
 Zl 24 1 23<|
 Zm 25 1<|
 Zm 26 5<|
 Zi 27 4 25 26<|
 Zf 28 3 27<|
 Zl 29 1 28<|
 Zq 30 false 60 [.t 24,.t 29,.c (Zz 0)]<|
 Zm 6 30 .nil)<|Zr (Zm 31 6<|
 Zk 32 .neq 31 0 .nil)<| .cond (.t 32) (Zr (Zm 33 6<|
 Zm 4 33 .nil) .ret) .skip)<|Zr (Zm 34 0<|
 Zm 35 5<|
 Zi 36 4 34 35<|
 Zf 37 0 36<|
 Zh 38 3 37<|
 Zm 39 1<|
 Zm 40 5<|
 Zi 41 4 39 40<|
 Zf 42 0 41<|
 Zh 43 3 42<|
 Zq 44 false 89 [.t 38,.t 43]<|
 Zm 7 44 .nil)<|Zr (Zm 45 7<|
 Zk 46 .neq 45 0 .nil)<| .cond (.t 46) (Zr (Zm 47 7<|
 Zm 4 47 .nil) .ret) .skip)<| .rg (Zm 18 5<|
 Zk 19 .add 18 1<|
 Zm 5 19 .nil))<| .seq (Zr (Zm 48 0<|
 Zn 49 48<|
 Zm 50 1<|
 Zn 51 50<|
 Zb 52 .lss 49 51 .nil)<| .cond (.t 52) (Zr (Zc 4 (-1) .nil) .ret) .skip)<| .seq (Zr (Zm 53 0<|
 Zn 54 53<|
 Zm 55 1<|
 Zn 56 55<|
 Zb 57 .gtr 54 56 .nil)<| .cond (.t 57) (Zr (Zc 4 1 .nil) .ret) .skip)<|Zr (Zc 4 0 .nil) .ret⟩
theorem Qae3:Qe Tryz.prog Tryz.f56=some c56:=by kernel_rfl
def c21:SFn:=⟨5,[.t 2],Zr (Zo (.box 1 3 50 (.t 0))<|
 Zo (.mv 2 (.c .nilS)) .nil)<|Zr (Zh 3 3 1<|
 Zq 4 false 35 [.c .nilS,.t 3,.c .nilS]<|
 Zm 2 4 .nil) .ret⟩
theorem Qae4:Qe Tryz.prog Tryz.f21=some c21:=by kernel_rfl
def c28:SFn:=⟨9,[.t 4],Zr (Zo (.mv 4 (.c (.bool false))) .nil)<|Zr (Zm 5 0<|
 Zm 6 1<|
 Zq 7 false 56 [.t 5,.t 6]<|
 Zk 8 .eql 7 0<|
 Zm 4 8 .nil) .ret⟩
theorem Qae5:Qe Tryz.prog Tryz.f28=some c28:=by kernel_rfl
def c18:SFn:=⟨22,[.t 4],Zr (Zo (.mv 4 (.c .nilS)) .nil)<|Zr (Zo (.mv 5 (.c .nilS)) .nil)<| .seq (Zr (Zc 6 0 .nil)<| .block 0<| .loop<| .seq (Zr (Zm 7 6<|
 Zm 8 1<|
 Zn 9 8<|
 Zb 10 .lss 7 9 .nil)<| .cond (.t 10) .skip (.exit 0))<| .seq (.block 1<| .rg (Zm 13 5<|
 Zm 14 0<|
 Zm 15 1<|
 Zm 16 6<|
 Zi 17 4 15 16<|
 Zh 18 4 17<|
 Zq 19 false 37 [.t 14,.t 18]<|
 Zq 20 false 36 [.t 13,.t 19]<|
 Zm 5 20 .nil))<| .rg (Zm 11 6<|
 Zk 12 .add 11 1<|
 Zm 6 12 .nil))<|Zr (Zm 21 5<|
 Zm 4 21 .nil) .ret⟩
theorem Qae6:Qe Tryz.prog Tryz.f18=some c18:=by kernel_rfl
def c32:SFn:=⟨52,[.t 2],Zr (Zo (.mv 2 (.c (.bool false))) .nil)<| .seq (Zr (Zc 3 0 .nil)<| .block 0<| .loop<| .seq (Zr (Zm 4 3<|
 Zm 5 0<|
 Zn 6 5<|
 Zb 7 .lss 4 6 .nil)<| .cond (.t 7) .skip (.exit 0))<| .seq (.block 1<| .seq (Zr (Zm 10 0<|
 Zm 11 3<|
 Zi 12 4 10 11<|
 Zf 13 0 12<|
 Zh 14 3 13<|
 Zq 15 false 34 [.t 14]<|
 Zu 16 15<|
 Zm 17 16<|
 Zg 17 false (.mv 18 (.t 0))<|
 Zg 17 false (.mv 19 (.t 3))<|
 Zg 17 false (.idx 20 4 (.t 18) (.t 19))<|
 Zg 17 false (.fld 21 0 (.t 20))<|
 Zg 17 false (.ld 22 3 true (.t 21))<|
 Zg 17 false (.call (some 23) false (.c (.fn 27 [] [])) [.t 22])<|
 Zg 17 false (.bin 24 .eql false (.t 23) (.c (Zz 0)))<|
 Zo (.pick 25 (.t 17) (.c (.bool true)) (.t 24))<|
 Zm 26 25<|
 Zg 26 false (.mv 27 (.t 0))<|
 Zg 26 false (.mv 28 (.t 3))<|
 Zg 26 false (.idx 29 4 (.t 27) (.t 28))<|
 Zg 26 false (.fld 30 3 (.t 29))<|
 Zg 26 false (.ld 31 1 false (.t 30))<|
 Zg 26 false (.call (some 32) false (.c (.fn 59 [] [])) [.t 31])<|
 Zg 26 false (.un 33 .not (.t 32))<|
 Zo (.pick 34 (.t 26) (.c (.bool true)) (.t 33)) .nil)<| .cond (.t 34) (Zr (Zo (.mv 2 (.c (.bool false))) .nil) .ret) .skip)<|Zr (Zm 35 3<|
 Zk 36 .gtr 35 0<|
 Zm 37 36<|
 Zg 37 true (.mv 38 (.t 0))<|
 Zg 37 true (.mv 39 (.t 3))<|
 Zg 37 true (.bin 40 .sub false (.t 39) (.c (Zz 1)))<|
 Zg 37 true (.idx 41 4 (.t 38) (.t 40))<|
 Zg 37 true (.fld 42 3 (.t 41))<|
 Zg 37 true (.ld 43 1 false (.t 42))<|
 Zg 37 true (.mv 44 (.t 0))<|
 Zg 37 true (.mv 45 (.t 3))<|
 Zg 37 true (.idx 46 4 (.t 44) (.t 45))<|
 Zg 37 true (.fld 47 3 (.t 46))<|
 Zg 37 true (.ld 48 1 false (.t 47))<|
 Zg 37 true (.call (some 49) false (.c (.fn 60 [] [])) [.t 43,.t 48,.c (Zz 0)])<|
 Zg 37 true (.bin 50 .leq false (.t 49) (.c (Zz 0)))<|
 Zo (.pick 51 (.t 37) (.t 50) (.c (.bool false))) .nil)<| .cond (.t 51) (Zr (Zo (.mv 2 (.c (.bool false))) .nil) .ret) .skip)<| .rg (Zm 8 3<|
 Zk 9 .add 8 1<|
 Zm 3 9 .nil))<|Zr (Zo (.mv 2 (.c (.bool true))) .nil) .ret⟩
theorem Qae7:Qe Tryz.prog Tryz.f32=some c32:=by kernel_rfl
def c19:SFn:=⟨35,[.t 4],Zr (Zo (.box 3 3 50 (.t 1))<|
 Zo (.mv 4 (.c .nilS)) .nil)<|Zr (Zo (.mv 5 (.c .nilS)) .nil)<| .seq (Zr (Zc 6 0 .nil)<| .block 0<| .loop<| .seq (Zr (Zm 7 6<|
 Zm 8 0<|
 Zn 9 8<|
 Zb 10 .lss 7 9<|
 Zm 11 10<|
 Zg 11 true (.ld 12 3 true (.t 3))<|
 Zg 11 true (.call (some 13) false (.c (.fn 27 [] [])) [.t 12])<|
 Zg 11 true (.bin 14 .neq false (.t 13) (.c (Zz 0)))<|
 Zo (.pick 15 (.t 11) (.t 14) (.c (.bool false))) .nil)<| .cond (.t 15) .skip (.exit 0))<| .seq (.block 1<| .rg (Zm 18 5<|
 Zm 19 0<|
 Zm 20 6<|
 Zi 21 4 19 20<|
 Zf 22 0 21<|
 Zh 23 3 22<|
 Zh 24 3 3<|
 Zm 26 0<|
 Zm 27 6<|
 Zi 28 4 26 27<|
 Zf 29 3 28<|
 Zl 30 1 29<|
 Zq 25 true 38 [.t 23,.t 24]<|
 Zo (.bld 31 [.bool false,.nilS,.nilS,.nilS] [(0,3,.t 25),(3,1,.t 30)])<|
 Zo (.bs 32 4 74 [.t 31])<|
 Zo (.app 33 4 80 74 (.t 18) (.t 32))<|
 Zm 5 33 .nil))<| .rg (Zm 16 6<|
 Zk 17 .add 16 1<|
 Zm 6 17 .nil))<|Zr (Zm 34 5<|
 Zm 4 34 .nil) .ret⟩
theorem Qae8:Qe Tryz.prog Tryz.f19=some c19:=by kernel_rfl
def c35:SFn:=⟨88,[.t 6],Zr (Zo (.box 4 3 50 (.t 1))<|
 Zo (.mv 6 (.c .nilS)) .nil)<|Zr (Zm 10 0<|
 Zn 11 10<|
 Zm 7 11 .nil)<| .seq (.block 0<| .loop<| .seq (Zr (Zm 12 7<|
 Zk 13 .gtr 12 0<|
 Zm 14 13<|
 Zg 14 true (.mv 15 (.t 0))<|
 Zg 14 true (.mv 16 (.t 7))<|
 Zg 14 true (.bin 17 .sub false (.t 16) (.c (Zz 1)))<|
 Zg 14 true (.idx 18 4 (.t 15) (.t 17))<|
 Zg 14 true (.fld 19 3 (.t 18))<|
 Zg 14 true (.ld 20 1 false (.t 19))<|
 Zg 14 true (.mv 21 (.t 2))<|
 Zg 14 true (.call (some 22) false (.c (.fn 60 [] [])) [.t 20,.t 21,.c (Zz 0)])<|
 Zg 14 true (.bin 23 .lss false (.t 22) (.c (Zz 0)))<|
 Zo (.pick 24 (.t 14) (.t 23) (.c (.bool false))) .nil)<| .cond (.t 24) .skip (.exit 0))<| .block 1<| .rg (Zm 25 7<|
 Zk 26 .sub 25 1<|
 Zm 7 26 .nil))<|Zr (Zo (.mv 8 (.c .nilS)) .nil)<| .seq (Zr (Zm 27 7<|
 Zk 28 .gtr 27 0<|
 Zm 29 28<|
 Zg 29 true (.mv 30 (.t 0))<|
 Zg 29 true (.mv 31 (.t 7))<|
 Zg 29 true (.bin 32 .sub false (.t 31) (.c (Zz 1)))<|
 Zg 29 true (.idx 33 4 (.t 30) (.t 32))<|
 Zg 29 true (.fld 34 3 (.t 33))<|
 Zg 29 true (.ld 35 1 false (.t 34))<|
 Zg 29 true (.mv 36 (.t 2))<|
 Zg 29 true (.call (some 37) false (.c (.fn 60 [] [])) [.t 35,.t 36,.c (Zz 0)])<|
 Zg 29 true (.bin 38 .eql false (.t 37) (.c (Zz 0)))<|
 Zo (.pick 39 (.t 29) (.t 38) (.c (.bool false))) .nil)<| .cond (.t 39) (Zr (Zm 40 8<|
 Zm 41 0<|
 Zm 42 7<|
 Zk 43 .sub 42 1<|
 Zo (.sl 44 4 (.t 41) none (some (.t 43)) none)<|
 Zo (.app 45 4 80 74 (.t 40) (.t 44))<|
 Zm 8 45 .nil)<| .seq (Zr (Zm 46 0<|
 Zm 47 7<|
 Zk 48 .sub 47 1<|
 Zi 49 4 46 48<|
 Zf 50 0 49<|
 Zh 51 3 50<|
 Zh 52 3 4<|
 .br (Zq 53 true 53 [.t 51,.t 52]<|
 Zo (.alloc 9 3 50 (.agg [.bool false,.nilS,.nilS]))<|
 Zs 3 9 53 .nil) (Zo (.alloc 9 3 50 (.agg [.bool false,.nilS,.nilS]))<|
 Zq 53 true 53 [.t 51,.t 52]<|
 Zs 3 9 53 .nil))<|Zr (Zh 54 3 9<|
 Zq 55 false 27 [.t 54]<|
 Zk 56 .neq 55 0 .nil)<| .cond (.t 56) (.rg (Zm 57 8<|
 Zh 58 3 9<|
 Zm 59 2<|
 Zo (.bld 60 [.bool false,.nilS,.nilS,.nilS] [(0,3,.t 58),(3,1,.t 59)])<|
 Zo (.bs 61 4 74 [.t 60])<|
 Zo (.app 62 4 80 74 (.t 57) (.t 61))<|
 Zm 8 62 .nil)) .skip)<|Zr (Zm 63 8<|
 Zm 64 0<|
 Zm 65 7<|
 Zo (.sl 66 4 (.t 64) (some (.t 65)) none none)<|
 Zo (.app 67 4 80 74 (.t 63) (.t 66))<|
 Zm 6 67 .nil) .ret) .skip)<|Zr (Zm 68 8<|
 Zm 69 0<|
 Zm 70 7<|
 Zo (.sl 71 4 (.t 69) none (some (.t 70)) none)<|
 Zo (.app 72 4 80 74 (.t 68) (.t 71))<|
 Zm 8 72 .nil)<| .seq (Zr (Zh 73 3 4<|
 Zq 74 false 27 [.t 73]<|
 Zk 75 .neq 74 0 .nil)<| .cond (.t 75) (.rg (Zm 76 8<|
 Zh 77 3 4<|
 Zq 78 false 55 [.t 77]<|
 Zm 79 2<|
 Zo (.bld 80 [.bool false,.nilS,.nilS,.nilS] [(0,3,.t 78),(3,1,.t 79)])<|
 Zo (.bs 81 4 74 [.t 80])<|
 Zo (.app 82 4 80 74 (.t 76) (.t 81))<|
 Zm 8 82 .nil)) .skip)<|Zr (Zm 83 8<|
 Zm 84 0<|
 Zm 85 7<|
 Zo (.sl 86 4 (.t 84) (some (.t 85)) none none)<|
 Zo (.app 87 4 80 74 (.t 83) (.t 86))<|
 Zm 6 87 .nil) .ret⟩
theorem Qae9:Qe Tryz.prog Tryz.f35=some c35:=by kernel_rfl
def c37:SFn:=⟨34,[.t 4],Zr (Zo (.box 3 4 74 (.t 1))<|
 Zo (.mv 4 (.c .nilS)) .nil)<|Zr (Zo (.mv 5 (.c .nilS)) .nil)<| .seq (Zr (Zc 6 0 .nil)<| .block 0<| .loop<| .seq (Zr (Zm 7 6<|
 Zm 8 0<|
 Zn 9 8<|
 Zb 10 .lss 7 9 .nil)<| .cond (.t 10) .skip (.exit 0))<| .seq (.block 1<| .rg (Zm 13 5<|
 Zm 14 0<|
 Zm 15 6<|
 Zi 16 4 14 15<|
 Zf 17 0 16<|
 Zh 18 3 17<|
 Zf 19 0 3<|
 Zh 20 3 19<|
 Zm 22 0<|
 Zm 23 6<|
 Zi 24 4 22 23<|
 Zf 25 3 24<|
 Zl 26 1 25<|
 Zf 27 3 3<|
 Zl 28 1 27<|
 Zq 21 true 38 [.t 18,.t 20]<|
 Zq 29 true 65 [.t 26,.t 28]<|
 Zo (.bld 30 [.bool false,.nilS,.nilS,.nilS] [(0,3,.t 21),(3,1,.t 29)])<|
 Zo (.bs 31 4 74 [.t 30])<|
 Zo (.app 32 4 80 74 (.t 13) (.t 31))<|
 Zm 5 32 .nil))<| .rg (Zm 11 6<|
 Zk 12 .add 11 1<|
 Zm 6 12 .nil))<|Zr (Zm 33 5<|
 Zm 4 33 .nil) .ret⟩
theorem Qafa:Qe Tryz.prog Tryz.f37=some c37:=by kernel_rfl
end Go.Proofs.YtdacdnoebgcjhaaGreat
namespace Go.Proofs.YtdacdnoebgcjhaaGreat
open Go Go.FW
set_option maxRecDepth 100000
def c59:SFn:=⟨39,[.t 2],Zr (Zo (.mv 2 (.c (.bool false))) .nil)<| .seq (Zr (Zm 4 0<|
 Zn 5 4<|
 Zk 6 .gtr 5 64<|
 Zm 7 6<|
 Zg 7 false (.mv 8 (.t 0))<|
 Zg 7 false (.len 9 (.t 8))<|
 Zg 7 false (.bin 10 .gtr false (.t 9) (.c (Zz 0)))<|
 Zg 7 false (.mv 11 (.t 10))<|
 Zg 11 true (.mv 12 (.t 0))<|
 Zg 11 true (.mv 13 (.t 0))<|
 Zg 11 true (.len 14 (.t 13))<|
 Zg 11 true (.bin 15 .sub false (.t 14) (.c (Zz 1)))<|
 Zg 11 true (.idx 16 1 (.t 12) (.t 15))<|
 Zg 11 true (.ld 17 1 false (.t 16))<|
 Zg 11 true (.bin 18 .eql false (.t 17) (.c (Zz 0)))<|
 Zg 7 false (.pick 19 (.t 11) (.t 18) (.c (.bool false)))<|
 Zo (.pick 20 (.t 7) (.c (.bool true)) (.t 19)) .nil)<| .cond (.t 20) (Zr (Zo (.mv 2 (.c (.bool false))) .nil) .ret) .skip)<| .seq (Zr (Zc 3 0 .nil)<| .block 0<| .loop<| .seq (Zr (Zm 21 3<|
 Zm 22 0<|
 Zn 23 22<|
 Zb 24 .lss 21 23 .nil)<| .cond (.t 24) .skip (.exit 0))<| .seq (.block 1<|Zr (Zm 27 0<|
 Zm 28 3<|
 Zi 29 1 27 28<|
 Zl 30 1 29<|
 Zk 31 .lss 30 0<|
 Zm 32 31<|
 Zg 32 false (.mv 33 (.t 0))<|
 Zg 32 false (.mv 34 (.t 3))<|
 Zg 32 false (.idx 35 1 (.t 33) (.t 34))<|
 Zg 32 false (.ld 36 1 false (.t 35))<|
 Zg 32 false (.bin 37 .gtr false (.t 36) (.c (Zz 1048576)))<|
 Zo (.pick 38 (.t 32) (.c (.bool true)) (.t 37)) .nil)<| .cond (.t 38) (Zr (Zo (.mv 2 (.c (.bool false))) .nil) .ret) .skip)<| .rg (Zm 25 3<|
 Zk 26 .add 25 1<|
 Zm 3 26 .nil))<|Zr (Zo (.mv 2 (.c (.bool true))) .nil) .ret⟩
theorem Qafb:Qe Tryz.prog Tryz.f59=some c59:=by kernel_rfl
def c94:SFn:=⟨18,[.t 2],Zr (Zc 2 0 .nil)<|Zr (Zc 3 0 .nil)<| .seq (Zr (Zc 4 0 .nil)<| .block 0<| .loop<| .seq (Zr (Zm 5 4<|
 Zm 6 0<|
 Zn 7 6<|
 Zb 8 .lss 5 7 .nil)<| .cond (.t 8) .skip (.exit 0))<| .seq (.block 1<| .rg (Zm 11 3<|
 Zm 12 0<|
 Zm 13 4<|
 Zi 14 1 12 13<|
 Zl 15 1 14<|
 Zb 16 .add 11 15<|
 Zm 3 16 .nil))<| .rg (Zm 9 4<|
 Zk 10 .add 9 1<|
 Zm 4 10 .nil))<|Zr (Zm 17 3<|
 Zm 2 17 .nil) .ret⟩
theorem Qafc:Qe Tryz.prog Tryz.f94=some c94:=by kernel_rfl
def c96:SFn:=⟨17,[.t 4],Zr (Zc 4 0 .nil)<| .seq (Zr (Zm 5 1<|
 Zk 6 .lss 5 0<|
 Zm 7 6<|
 Zg 7 false (.mv 8 (.t 1))<|
 Zg 7 false (.mv 9 (.t 0))<|
 Zg 7 false (.len 10 (.t 9))<|
 Zg 7 false (.bin 11 .geq false (.t 8) (.t 10))<|
 Zo (.pick 12 (.t 7) (.c (.bool true)) (.t 11)) .nil)<| .cond (.t 12) (Zr (Zc 4 0 .nil) .ret) .skip)<|Zr (Zm 13 0<|
 Zm 14 1<|
 Zi 15 1 13 14<|
 Zl 16 1 15<|
 Zm 4 16 .nil) .ret⟩
theorem Qafd:Qe Tryz.prog Tryz.f96=some c96:=by kernel_rfl
def c65:SFn:=⟨30,[.t 4],Zr (Zo (.mv 4 (.c .nilS)) .nil)<|Zr (Zo (.mv 5 (.c .nilS)) .nil)<| .seq (Zr (Zc 6 0 .nil)<| .block 0<| .loop<| .seq (Zr (Zm 7 6<|
 Zm 8 0<|
 Zn 9 8<|
 Zb 10 .lss 7 9<|
 Zm 11 10<|
 Zg 11 false (.mv 12 (.t 6))<|
 Zg 11 false (.mv 13 (.t 1))<|
 Zg 11 false (.len 14 (.t 13))<|
 Zg 11 false (.bin 15 .lss false (.t 12) (.t 14))<|
 Zo (.pick 16 (.t 11) (.c (.bool true)) (.t 15)) .nil)<| .cond (.t 16) .skip (.exit 0))<| .seq (.block 1<| .rg (Zm 19 5<|
 Zm 20 0<|
 Zm 21 6<|
 Zq 22 false 96 [.t 20,.t 21]<|
 Zm 23 1<|
 Zm 24 6<|
 Zq 25 false 96 [.t 23,.t 24]<|
 Zb 26 .add 22 25<|
 Zo (.bs 27 1 3 [.t 26])<|
 Zo (.app 28 1 8 3 (.t 19) (.t 27))<|
 Zm 5 28 .nil))<| .rg (Zm 17 6<|
 Zk 18 .add 17 1<|
 Zm 6 18 .nil))<|Zr (Zm 29 5<|
 Zm 4 29 .nil) .ret⟩
theorem Qafe:Qe Tryz.prog Tryz.f65=some c65:=by kernel_rfl
def c60:SFn:=⟨48,[.t 6],Zr (Zc 6 0 .nil)<| .seq (Zr (Zm 8 2<|
 Zk 9 .eql 8 1<|
 Zm 10 9<|
 Zg 10 true (.mv 11 (.t 0))<|
 Zg 10 true (.call (some 12) false (.c (.fn 94 [] [])) [.t 11])<|
 Zg 10 true (.mv 13 (.t 1))<|
 Zg 10 true (.call (some 14) false (.c (.fn 94 [] [])) [.t 13])<|
 Zg 10 true (.bin 15 .neq false (.t 12) (.t 14))<|
 Zo (.pick 16 (.t 10) (.t 15) (.c (.bool false))) .nil)<| .cond (.t 16) (Zr (Zm 17 0<|
 Zq 18 false 94 [.t 17]<|
 Zm 19 1<|
 Zq 20 false 94 [.t 19]<|
 Zb 21 .sub 18 20<|
 Zq 22 false 95 [.t 21]<|
 Zm 6 22 .nil) .ret) .skip)<| .seq (Zr (Zm 23 0<|
 Zn 24 23<|
 Zm 25 1<|
 Zn 26 25<|
 Zo (.mx 27 (.t 24) (.t 26))<|
 Zk 28 .sub 27 1<|
 Zm 7 28 .nil)<| .block 0<| .loop<| .seq (Zr (Zm 29 7<|
 Zk 30 .geq 29 0 .nil)<| .cond (.t 30) .skip (.exit 0))<| .seq (.block 1<|Zr (Zm 33 0<|
 Zm 34 7<|
 Zq 35 false 96 [.t 33,.t 34]<|
 Zm 36 1<|
 Zm 37 7<|
 Zq 38 false 96 [.t 36,.t 37]<|
 Zb 39 .neq 35 38 .nil)<| .cond (.t 39) (Zr (Zm 40 0<|
 Zm 41 7<|
 Zq 42 false 96 [.t 40,.t 41]<|
 Zm 43 1<|
 Zm 44 7<|
 Zq 45 false 96 [.t 43,.t 44]<|
 Zb 46 .sub 42 45<|
 Zq 47 false 95 [.t 46]<|
 Zm 6 47 .nil) .ret) .skip)<| .rg (Zm 31 7<|
 Zk 32 .sub 31 1<|
 Zm 7 32 .nil))<|Zr (Zc 6 0 .nil) .ret⟩
theorem Qaff:Qe Tryz.prog Tryz.f60=some c60:=by kernel_rfl
def c95:SFn:=⟨7,[.t 2],Zr (Zc 2 0 .nil)<| .seq (Zr (Zm 3 0<|
 Zk 4 .lss 3 0 .nil)<| .cond (.t 4) (Zr (Zc 2 (-1) .nil) .ret) .skip)<| .seq (Zr (Zm 5 0<|
 Zk 6 .gtr 5 0 .nil)<| .cond (.t 6) (Zr (Zc 2 1 .nil) .ret) .skip)<|Zr (Zc 2 0 .nil) .ret⟩
theorem Qafg:Qe Tryz.prog Tryz.f95=some c95:=by kernel_rfl
end Go.Proofs.YtdacdnoebgcjhaaGreat
namespace Go.Proofs.YtdacdnoebgcjhaaGreat
open Go Go.FW
set_option maxRecDepth 100000
def c68:SFn:=⟨24,[.t 2],Zr (Zo (.mv 2 (.c .nilS)) .nil)<|Zr (Zm 5 0<|
 Zn 6 5<|
 Zm 3 6 .nil)<| .seq (.block 0<| .loop<| .seq (Zr (Zm 7 3<|
 Zk 8 .gtr 7 0<|
 Zm 9 8<|
 Zg 9 true (.mv 10 (.t 0))<|
 Zg 9 true (.mv 11 (.t 3))<|
 Zg 9 true (.bin 12 .sub false (.t 11) (.c (Zz 1)))<|
 Zg 9 true (.idx 13 1 (.t 10) (.t 12))<|
 Zg 9 true (.ld 14 1 false (.t 13))<|
 Zg 9 true (.bin 15 .eql false (.t 14) (.c (.int .u16 0)))<|
 Zo (.pick 16 (.t 9) (.t 15) (.c (.bool false))) .nil)<| .cond (.t 16) .skip (.exit 0))<| .block 1<| .rg (Zm 17 3<|
 Zk 18 .sub 17 1<|
 Zm 3 18 .nil))<|Zr (Zo (.mv 4 (.c .nilS)) .nil)<|Zr (Zm 19 4<|
 Zm 20 0<|
 Zm 21 3<|
 Zo (.sl 22 1 (.t 20) none (some (.t 21)) none)<|
 Zo (.app 23 1 2 109 (.t 19) (.t 22))<|
 Zm 2 23 .nil) .ret⟩
theorem Qafh:Qe Tryz.prog Tryz.f68=some c68:=by kernel_rfl
def c41:SFn:=⟨15,[.t 2],Zr (Zo (.mv 2 (.c .nilS)) .nil)<|Zr (Zo (.mv 3 (.c .nilS)) .nil)<| .seq (.block 0<| .loop<| .seq (Zr (Zm 4 0<|
 Zo (.bin 5 .gtr false (.t 4) (.c (.int .u64 0))) .nil)<| .cond (.t 5) .skip (.exit 0))<| .block 1<|Zr (Zm 6 3<|
 Zm 7 0<|
 Zo (.bin 8 .rem false (.t 7) (.c (.int .u64 65536)))<|
 Zo (.conv 9 .u16 (.t 8))<|
 Zo (.bs 10 1 109 [.t 9])<|
 Zo (.app 11 1 2 109 (.t 6) (.t 10))<|
 Zm 3 11 .nil)<| .rg (Zm 12 0<|
 Zo (.bin 13 .quo false (.t 12) (.c (.int .u64 65536)))<|
 Zm 0 13 .nil))<|Zr (Zm 14 3<|
 Zm 2 14 .nil) .ret⟩
theorem Qafi:Qe Tryz.prog Tryz.f41=some c41:=by kernel_rfl
def c98:SFn:=⟨21,[.t 2],Zr (Zo (.mv 2 (.c (.int .u64 0))) .nil)<|Zr (Zo (.mv 3 (.c (.int .u64 0))) .nil)<| .seq (Zr (Zm 5 0<|
 Zn 6 5<|
 Zk 7 .sub 6 1<|
 Zm 4 7 .nil)<| .block 0<| .loop<| .seq (Zr (Zm 8 4<|
 Zk 9 .geq 8 0 .nil)<| .cond (.t 9) .skip (.exit 0))<| .seq (.block 1<| .rg (Zm 12 3<|
 Zo (.bin 13 .mul false (.t 12) (.c (.int .u64 65536)))<|
 Zm 14 0<|
 Zm 15 4<|
 Zi 16 1 14 15<|
 Zl 17 1 16<|
 Zo (.conv 18 .u64 (.t 17))<|
 Zb 19 .add 13 18<|
 Zm 3 19 .nil))<| .rg (Zm 10 4<|
 Zk 11 .sub 10 1<|
 Zm 4 11 .nil))<|Zr (Zm 20 3<|
 Zm 2 20 .nil) .ret⟩
theorem Qafj:Qe Tryz.prog Tryz.f98=some c98:=by kernel_rfl
def c97:SFn:=⟨14,[.t 4],Zr (Zc 4 0 .nil)<| .seq (Zr (Zm 5 1<|
 Zm 6 0<|
 Zn 7 6<|
 Zb 8 .lss 5 7 .nil)<| .cond (.t 8) (Zr (Zm 9 0<|
 Zm 10 1<|
 Zi 11 1 9 10<|
 Zl 12 1 11<|
 Zo (.conv 13 .i64 (.t 12))<|
 Zm 4 13 .nil) .ret) .skip)<|Zr (Zc 4 0 .nil) .ret⟩
theorem Qafk:Qe Tryz.prog Tryz.f97=some c97:=by kernel_rfl
def Q77:SFn:=⟨30,[.t 4],Zr (Zc 4 0 .nil)<| .seq (Zr (Zm 6 0<|
 Zn 7 6<|
 Zm 8 1<|
 Zn 9 8<|
 Zo (.mx 10 (.t 7) (.t 9))<|
 Zk 11 .sub 10 1<|
 Zm 5 11 .nil)<| .block 0<| .loop<| .seq (Zr (Zm 12 5<|
 Zk 13 .geq 12 0 .nil)<| .cond (.t 13) .skip (.exit 0))<| .seq (.block 1<| .seq (Zr (Zm 16 0<|
 Zm 17 5<|
 Zq 18 false 97 [.t 16,.t 17]<|
 Zm 19 1<|
 Zm 20 5<|
 Zq 21 false 97 [.t 19,.t 20]<|
 Zb 22 .lss 18 21 .nil)<| .cond (.t 22) (Zr (Zc 4 (-1) .nil) .ret) .skip)<|Zr (Zm 23 0<|
 Zm 24 5<|
 Zq 25 false 97 [.t 23,.t 24]<|
 Zm 26 1<|
 Zm 27 5<|
 Zq 28 false 97 [.t 26,.t 27]<|
 Zb 29 .gtr 25 28 .nil)<| .cond (.t 29) (Zr (Zc 4 1 .nil) .ret) .skip)<| .rg (Zm 14 5<|
 Zk 15 .sub 14 1<|
 Zm 5 15 .nil))<|Zr (Zc 4 0 .nil) .ret⟩
theorem Qabq:Qe Tryz.prog Tryz.f118=some Q77:=by kernel_rfl
def c72:SFn:=⟨44,[.t 4],Zr (Zo (.mv 4 (.c .nilS)) .nil)<|Zr (Zo (.mv 5 (.c .nilS)) .nil)<|Zr (Zc 6 0 .nil)<| .seq (Zr (Zc 7 0 .nil)<| .block 0<| .loop<| .seq (Zr (Zm 9 7<|
 Zm 10 0<|
 Zn 11 10<|
 Zb 12 .lss 9 11<|
 Zm 13 12<|
 Zg 13 false (.mv 14 (.t 7))<|
 Zg 13 false (.mv 15 (.t 1))<|
 Zg 13 false (.len 16 (.t 15))<|
 Zg 13 false (.bin 17 .lss false (.t 14) (.t 16))<|
 Zo (.pick 18 (.t 13) (.c (.bool true)) (.t 17))<|
 Zm 19 18<|
 Zg 19 false (.mv 20 (.t 6))<|
 Zg 19 false (.bin 21 .gtr false (.t 20) (.c (Zz 0)))<|
 Zo (.pick 22 (.t 19) (.c (.bool true)) (.t 21)) .nil)<| .cond (.t 22) .skip (.exit 0))<| .seq (.block 1<|Zr (Zm 25 0<|
 Zm 26 7<|
 Zq 27 false 97 [.t 25,.t 26]<|
 Zm 28 1<|
 Zm 29 7<|
 Zq 30 false 97 [.t 28,.t 29]<|
 Zb 31 .add 27 30<|
 Zm 32 6<|
 Zb 33 .add 31 32<|
 Zm 8 33 .nil)<|Zr (Zm 34 5<|
 Zm 35 8<|
 Zk 36 .rem 35 65536<|
 Zo (.conv 37 .u16 (.t 36))<|
 Zo (.bs 38 1 109 [.t 37])<|
 Zo (.app 39 1 2 109 (.t 34) (.t 38))<|
 Zm 5 39 .nil)<| .rg (Zm 40 8<|
 Zk 41 .quo 40 65536<|
 Zm 6 41 .nil))<| .rg (Zm 23 7<|
 Zk 24 .add 23 1<|
 Zm 7 24 .nil))<|Zr (Zm 42 5<|
 Zq 43 false 68 [.t 42]<|
 Zm 4 43 .nil) .ret⟩
theorem Qafl:Qe Tryz.prog Tryz.f72=some c72:=by kernel_rfl
def Q78:SFn:=⟨40,[.t 4,.t 5],Zr (Zo (.mv 4 (.c .nilS))<|
 Zc 5 0 .nil)<| .seq (Zr (Zm 10 0<|
 Zm 11 1<|
 Zq 12 false 118 [.t 10,.t 11]<|
 Zk 13 .lss 12 0 .nil)<| .cond (.t 13) (Zr (Zo (.mv 4 (.c .nilS))<|
 Zc 5 2 .nil) .ret) .skip)<|Zr (Zo (.mv 6 (.c .nilS)) .nil)<|Zr (Zc 7 0 .nil)<| .seq (Zr (Zc 8 0 .nil)<| .block 0<| .loop<| .seq (Zr (Zm 14 8<|
 Zm 15 0<|
 Zn 16 15<|
 Zb 17 .lss 14 16 .nil)<| .cond (.t 17) .skip (.exit 0))<| .seq (.block 1<|Zr (Zm 20 0<|
 Zm 21 8<|
 Zq 22 false 97 [.t 20,.t 21]<|
 Zm 23 1<|
 Zm 24 8<|
 Zq 25 false 97 [.t 23,.t 24]<|
 Zb 26 .sub 22 25<|
 Zm 27 7<|
 Zb 28 .sub 26 27<|
 Zm 9 28 .nil)<|Zr (Zc 7 0 .nil)<| .seq (Zr (Zm 29 9<|
 Zk 30 .lss 29 0 .nil)<| .cond (.t 30) (Zr (Zm 31 9<|
 Zk 32 .add 31 65536<|
 Zm 9 32 .nil)<| .rg (Zc 7 1 .nil)) .skip)<| .rg (Zm 33 6<|
 Zm 34 9<|
 Zo (.conv 35 .u16 (.t 34))<|
 Zo (.bs 36 1 109 [.t 35])<|
 Zo (.app 37 1 2 109 (.t 33) (.t 36))<|
 Zm 6 37 .nil))<| .rg (Zm 18 8<|
 Zk 19 .add 18 1<|
 Zm 8 19 .nil))<|Zr (Zm 38 6<|
 Zq 39 false 68 [.t 38]<|
 Zm 4 39<|
 Zc 5 0 .nil) .ret⟩
theorem Qabr:Qe Tryz.prog Tryz.f100=some Q78:=by kernel_rfl
def c67:SFn:=⟨65,[.t 4],Zr (Zo (.mv 4 (.c .nilS)) .nil)<|Zr (Zm 10 0<|
 Zn 11 10<|
 Zm 12 1<|
 Zn 13 12<|
 Zb 14 .add 11 13<|
 Zk 15 .add 14 1<|
 Zo (.mk 16 1 2 109 (.int .u16 0) (.t 15) (.t 15))<|
 Zm 5 16 .nil)<| .seq (Zr (Zc 6 0 .nil)<| .block 0<| .loop<| .seq (Zr (Zm 17 6<|
 Zm 18 0<|
 Zn 19 18<|
 Zb 20 .lss 17 19 .nil)<| .cond (.t 20) .skip (.exit 0))<| .seq (.block 1<|Zr (Zo (.mv 7 (.c (.int .u64 0))) .nil)<|Zr (Zc 8 0 .nil)<| .block 2<| .loop<| .seq (Zr (Zm 23 8<|
 Zm 24 1<|
 Zn 25 24<|
 Zb 26 .lss 23 25<|
 Zm 27 26<|
 Zg 27 false (.mv 28 (.t 7))<|
 Zg 27 false (.bin 29 .gtr false (.t 28) (.c (.int .u64 0)))<|
 Zo (.pick 30 (.t 27) (.c (.bool true)) (.t 29)) .nil)<| .cond (.t 30) .skip (.exit 2))<| .seq (.block 3<|Zr (Zm 33 5<|
 Zm 34 6<|
 Zm 35 8<|
 Zb 36 .add 34 35<|
 Zi 37 1 33 36<|
 Zl 38 1 37<|
 Zo (.conv 39 .u64 (.t 38))<|
 Zm 40 0<|
 Zm 41 6<|
 Zi 42 1 40 41<|
 Zl 43 1 42<|
 Zo (.conv 44 .u64 (.t 43))<|
 Zm 45 1<|
 Zm 46 8<|
 Zm 51 7<|
 Zq 47 true 97 [.t 45,.t 46]<|
 Zo (.conv 48 .u64 (.t 47))<|
 Zb 49 .mul 44 48<|
 Zb 50 .add 39 49<|
 Zb 52 .add 50 51<|
 Zm 9 52 .nil)<|Zr (Zm 53 5<|
 Zm 54 6<|
 Zm 55 8<|
 Zb 56 .add 54 55<|
 Zm 57 9<|
 Zo (.bin 58 .rem false (.t 57) (.c (.int .u64 65536)))<|
 Zo (.conv 59 .u16 (.t 58))<|
 Zi 60 1 53 56<|
 Zs 1 60 59 .nil)<| .rg (Zm 61 9<|
 Zo (.bin 62 .quo false (.t 61) (.c (.int .u64 65536)))<|
 Zm 7 62 .nil))<| .rg (Zm 31 8<|
 Zk 32 .add 31 1<|
 Zm 8 32 .nil))<| .rg (Zm 21 6<|
 Zk 22 .add 21 1<|
 Zm 6 22 .nil))<|Zr (Zm 63 5<|
 Zq 64 false 68 [.t 63]<|
 Zm 4 64 .nil) .ret⟩
theorem Qafm:Qe Tryz.prog Tryz.f67=some c67:=by kernel_rfl
def c99:SFn:=⟨27,[.t 4],Zr (Zo (.mv 4 (.c (.int .u64 0))) .nil)<|Zr (Zo (.mv 5 (.c (.int .u64 0)))<|
 Zo (.mv 6 (.c (.int .u64 65535))) .nil)<| .seq (.block 0<| .loop<| .seq (Zr (Zm 8 5<|
 Zm 9 6<|
 Zb 10 .lss 8 9 .nil)<| .cond (.t 10) .skip (.exit 0))<| .block 1<|Zr (Zm 11 5<|
 Zm 12 6<|
 Zb 13 .add 11 12<|
 Zo (.bin 14 .add false (.t 13) (.c (.int .u64 1)))<|
 Zo (.bin 15 .quo false (.t 14) (.c (.int .u64 2)))<|
 Zm 7 15 .nil)<|Zr (Zm 16 1<|
 Zm 17 7<|
 Zq 18 false 41 [.t 17]<|
 Zq 19 false 67 [.t 16,.t 18]<|
 Zm 20 0<|
 Zq 21 false 118 [.t 19,.t 20]<|
 Zk 22 .leq 21 0 .nil)<| .cond (.t 22) (.rg (Zm 23 7<|
 Zm 5 23 .nil)) (.rg (Zm 24 7<|
 Zo (.bin 25 .sub false (.t 24) (.c (.int .u64 1)))<|
 Zm 6 25 .nil)))<|Zr (Zm 26 5<|
 Zm 4 26 .nil) .ret⟩
theorem Qafn:Qe Tryz.prog Tryz.f99=some c99:=by kernel_rfl
def c69:SFn:=⟨73,[.t 4,.t 5,.t 6],Zr (Zo (.mv 4 (.c .nilS))<|
 Zo (.mv 5 (.c .nilS))<|
 Zc 6 0 .nil)<|Zr (Zm 11 0<|
 Zq 12 false 68 [.t 11]<|
 Zm 13 1<|
 Zq 14 false 68 [.t 13]<|
 Zm 0 12<|
 Zm 1 14 .nil)<| .seq (Zr (Zm 15 1<|
 Zn 16 15<|
 Zk 17 .eql 16 0 .nil)<| .cond (.t 17) (Zr (Zo (.mv 4 (.c .nilS))<|
 Zo (.mv 5 (.c .nilS))<|
 Zc 6 3 .nil) .ret) .skip)<| .seq (Zr (Zm 18 0<|
 Zn 19 18<|
 Zk 20 .leq 19 4<|
 Zm 21 20<|
 Zg 21 true (.mv 22 (.t 1))<|
 Zg 21 true (.len 23 (.t 22))<|
 Zg 21 true (.bin 24 .leq false (.t 23) (.c (Zz 4)))<|
 Zo (.pick 25 (.t 21) (.t 24) (.c (.bool false))) .nil)<| .cond (.t 25) (Zr (Zm 26 0<|
 Zq 27 false 98 [.t 26]<|
 Zm 28 1<|
 Zq 29 false 98 [.t 28]<|
 Zb 30 .quo 27 29<|
 Zq 31 false 41 [.t 30]<|
 Zm 32 0<|
 Zq 33 false 98 [.t 32]<|
 Zm 34 1<|
 Zq 35 false 98 [.t 34]<|
 Zb 36 .rem 33 35<|
 Zq 37 false 41 [.t 36]<|
 Zm 4 31<|
 Zm 5 37<|
 Zc 6 0 .nil) .ret) .skip)<|Zr (Zo (.mv 7 (.c .nilS))<|
 Zo (.mv 8 (.c .nilS)) .nil)<| .seq (Zr (Zm 38 0<|
 Zn 39 38<|
 Zk 40 .sub 39 1<|
 Zm 9 40 .nil)<| .block 0<| .loop<| .seq (Zr (Zm 41 9<|
 Zk 42 .geq 41 0 .nil)<| .cond (.t 42) .skip (.exit 0))<| .seq (.block 1<|Zr (Zm 45 0<|
 Zm 46 9<|
 Zi 47 1 45 46<|
 Zl 48 1 47<|
 Zo (.bs 49 1 109 [.t 48])<|
 Zm 50 8<|
 Zo (.app 51 1 2 109 (.t 49) (.t 50))<|
 Zq 52 false 68 [.t 51]<|
 Zm 8 52 .nil)<|Zr (Zm 53 8<|
 Zm 54 1<|
 Zq 55 false 99 [.t 53,.t 54]<|
 Zm 10 55 .nil)<|Zr (Zm 56 10<|
 Zo (.conv 57 .u16 (.t 56))<|
 Zo (.bs 58 1 109 [.t 57])<|
 Zm 59 7<|
 Zo (.app 60 1 2 109 (.t 58) (.t 59))<|
 Zm 7 60 .nil)<| .rg (Zm 62 8<|
 Zm 63 1<|
 Zm 64 10<|
 Zq 65 false 41 [.t 64]<|
 Zq 66 false 67 [.t 63,.t 65]<|
 Zq 67 false 100 [.t 62,.t 66]<|
 Zm 61 67<|
 Zo (.ext 68 (.t 61) 0)<|
 Zo (.ext 69 (.t 61) 1)<|
 Zm 8 68 .nil))<| .rg (Zm 43 9<|
 Zk 44 .sub 43 1<|
 Zm 9 44 .nil))<|Zr (Zm 70 7<|
 Zq 71 false 68 [.t 70]<|
 Zm 72 8<|
 Zm 4 71<|
 Zm 5 72<|
 Zc 6 0 .nil) .ret⟩
theorem Qafo:Qe Tryz.prog Tryz.f69=some c69:=by kernel_rfl
def c64:SFn:=⟨25,[.t 4],Zr (Zo (.mv 4 (.c .nilS)) .nil)<|Zr (Zm 8 0<|
 Zq 9 false 68 [.t 8]<|
 Zm 10 1<|
 Zq 11 false 68 [.t 10]<|
 Zm 0 9<|
 Zm 1 11 .nil)<| .seq (.block 0<| .loop<| .seq (Zr (Zm 12 1<|
 Zn 13 12<|
 Zk 14 .gtr 13 0 .nil)<| .cond (.t 14) .skip (.exit 0))<| .block 1<|Zr (Zm 16 0<|
 Zm 17 1<|
 Zq 18 false 69 [.t 16,.t 17]<|
 Zm 15 18<|
 Zo (.ext 19 (.t 15) 0)<|
 Zo (.ext 20 (.t 15) 1)<|
 Zo (.ext 21 (.t 15) 2)<|
 Zm 5 19<|
 Zm 6 20<|
 Zm 7 21 .nil)<| .rg (Zm 22 1<|
 Zm 23 6<|
 Zm 0 22<|
 Zm 1 23 .nil))<|Zr (Zm 24 0<|
 Zm 4 24 .nil) .ret⟩
theorem Qafp:Qe Tryz.prog Tryz.f64=some c64:=by kernel_rfl
def c62:SFn:=⟨15,[.t 2],Zr (Zo (.mv 2 (.c (.bool false))) .nil)<|Zr (Zm 3 0<|
 Zn 4 3<|
 Zk 5 .eql 4 0<|
 Zm 6 5<|
 Zg 6 false (.mv 7 (.t 0))<|
 Zg 6 false (.mv 8 (.t 0))<|
 Zg 6 false (.len 9 (.t 8))<|
 Zg 6 false (.bin 10 .sub false (.t 9) (.c (Zz 1)))<|
 Zg 6 false (.idx 11 1 (.t 7) (.t 10))<|
 Zg 6 false (.ld 12 1 false (.t 11))<|
 Zg 6 false (.bin 13 .neq false (.t 12) (.c (.int .u16 0)))<|
 Zo (.pick 14 (.t 6) (.c (.bool true)) (.t 13))<|
 Zm 2 14 .nil) .ret⟩
theorem Qafq:Qe Tryz.prog Tryz.f62=some c62:=by kernel_rfl
def c63:SFn:=⟨26,[.t 4],Zr (Zo (.mv 4 (.c (.bool false))) .nil)<| .seq (Zr (Zm 6 0<|
 Zn 7 6<|
 Zm 8 1<|
 Zn 9 8<|
 Zb 10 .neq 7 9 .nil)<| .cond (.t 10) (Zr (Zo (.mv 4 (.c (.bool false))) .nil) .ret) .skip)<| .seq (Zr (Zc 5 0 .nil)<| .block 0<| .loop<| .seq (Zr (Zm 11 5<|
 Zm 12 0<|
 Zn 13 12<|
 Zb 14 .lss 11 13 .nil)<| .cond (.t 14) .skip (.exit 0))<| .seq (.block 1<|Zr (Zm 17 0<|
 Zm 18 5<|
 Zi 19 1 17 18<|
 Zl 20 1 19<|
 Zm 21 1<|
 Zm 22 5<|
 Zi 23 1 21 22<|
 Zl 24 1 23<|
 Zb 25 .neq 20 24 .nil)<| .cond (.t 25) (Zr (Zo (.mv 4 (.c (.bool false))) .nil) .ret) .skip)<| .rg (Zm 15 5<|
 Zk 16 .add 15 1<|
 Zm 5 16 .nil))<|Zr (Zo (.mv 4 (.c (.bool true))) .nil) .ret⟩
theorem Qafr:Qe Tryz.prog Tryz.f63=some c63:=by kernel_rfl
def c61:SFn:=⟨17,[.t 2],Zr (Zo (.box 1 2 48 (.t 0))<|
 Zo (.mv 2 (.c (.bool false))) .nil)<|Zr (Zf 3 1 1<|
 Zl 4 1 3<|
 Zq 5 false 62 [.t 4]<|
 Zm 6 5<|
 Zg 6 true (.fld 7 0 (.t 1))<|
 Zg 6 true (.ld 8 1 false (.t 7))<|
 Zg 6 true (.mv 9 (.t 8))<|
 Zg 9 true (.fld 10 1 (.t 1))<|
 Zg 9 true (.ld 11 1 false (.t 10))<|
 Zg 9 true (.len 12 (.t 11))<|
 Zg 9 true (.bin 13 .eql false (.t 12) (.c (Zz 0)))<|
 Zg 6 true (.pick 14 (.t 9) (.t 13) (.c (.bool false)))<|
 Zg 6 true (.un 15 .not (.t 14))<|
 Zo (.pick 16 (.t 6) (.t 15) (.c (.bool false)))<|
 Zm 2 16 .nil) .ret⟩
theorem Qafs:Qe Tryz.prog Tryz.f61=some c61:=by kernel_rfl
def c71:SFn:=⟨15,[.cell 4 2 true],Zr (Zo (.alloc 4 2 48 (.agg [.bool false,.nilS])) .nil)<|Zr (Zm 5 1<|
 Zq 6 false 68 [.t 5]<|
 Zm 1 6 .nil)<|Zr (Zm 7 0<|
 Zm 8 7<|
 Zg 8 true (.mv 9 (.t 1))<|
 Zg 8 true (.len 10 (.t 9))<|
 Zg 8 true (.bin 11 .gtr false (.t 10) (.c (Zz 0)))<|
 Zo (.pick 12 (.t 8) (.t 11) (.c (.bool false)))<|
 Zm 13 1<|
 Zo (.bld 14 [.bool false,.nilS] [(0,1,.t 12),(1,1,.t 13)])<|
 Zs 2 4 14 .nil) .ret⟩
theorem Qaft:Qe Tryz.prog Tryz.f71=some c71:=by kernel_rfl
def c70:SFn:=⟨8,[.cell 2 2 true],Zr (Zo (.box 1 2 48 (.t 0))<|
 Zo (.alloc 2 2 48 (.agg [.bool false,.nilS])) .nil)<|Zr (Zf 3 0 1<|
 Zl 4 1 3<|
 Zf 5 1 1<|
 Zl 6 1 5<|
 Zq 7 false 71 [.t 4,.t 6]<|
 Zs 2 2 7 .nil) .ret⟩
theorem Qafu:Qe Tryz.prog Tryz.f70=some c70:=by kernel_rfl
def c40:SFn:=⟨17,[.cell 2 2 true],Zr (Zo (.alloc 2 2 48 (.agg [.bool false,.nilS])) .nil)<| .seq (Zr (Zm 3 0<|
 Zk 4 .lss 3 0 .nil)<| .cond (.t 4) (Zr (Zm 5 0<|
 Zk 6 .add 5 1<|
 Zo (.un 7 .neg (.t 6))<|
 Zo (.conv 8 .u64 (.t 7))<|
 Zq 9 false 41 [.t 8]<|
 Zq 10 false 41 [.c (.int .u64 1)]<|
 Zq 11 false 72 [.t 9,.t 10]<|
 Zq 12 false 71 [.c (.bool true),.t 11]<|
 Zs 2 2 12 .nil) .ret) .skip)<|Zr (Zm 13 0<|
 Zo (.conv 14 .u64 (.t 13))<|
 Zq 15 false 41 [.t 14]<|
 Zq 16 false 71 [.c (.bool false),.t 15]<|
 Zs 2 2 16 .nil) .ret⟩
theorem Qafv:Qe Tryz.prog Tryz.f40=some c40:=by kernel_rfl
def c54:SFn:=⟨11,[.t 2],Zr (Zo (.box 1 2 48 (.t 0))<|
 Zc 2 0 .nil)<|Zr (Zh 3 2 1<|
 Zq 4 false 70 [.t 3]<|
 Zs 2 1 4 .nil)<| .seq (Zr (Zf 5 1 1<|
 Zl 6 1 5<|
 Zn 7 6<|
 Zk 8 .eql 7 0 .nil)<| .cond (.t 8) (Zr (Zc 2 0 .nil) .ret) .skip)<| .seq (Zr (Zf 9 0 1<|
 Zl 10 1 9 .nil)<| .cond (.t 10) (Zr (Zc 2 (-1) .nil) .ret) .skip)<|Zr (Zc 2 1 .nil) .ret⟩
theorem Qafw:Qe Tryz.prog Tryz.f54=some c54:=by kernel_rfl
def Q79:SFn:=⟨38,[.t 4],Zr (Zo (.box 2 2 48 (.t 0))<|
 Zo (.box 3 2 48 (.t 1))<|
 Zc 4 0 .nil)<|Zr (Zh 5 2 2<|
 Zh 7 2 3<|
 Zq 6 true 70 [.t 5]<|
 Zq 8 true 70 [.t 7]<|
 Zs 2 2 6<|
 Zs 2 3 8 .nil)<| .seq (.block 0<|Zr (Zf 10 0 2<|
 Zl 11 1 10<|
 Zm 12 11<|
 Zg 12 true (.fld 13 0 (.t 3))<|
 Zg 12 true (.ld 14 1 false (.t 13))<|
 Zg 12 true (.un 15 .not (.t 14))<|
 Zo (.pick 16 (.t 12) (.t 15) (.c (.bool false)))<|
 Zm 9 16 .nil)<| .cond (.t 9) (Zr (Zc 4 (-1) .nil) .ret) (Zr (Zf 18 0 3<|
 Zl 19 1 18<|
 Zm 20 19<|
 Zg 20 true (.fld 21 0 (.t 2))<|
 Zg 20 true (.ld 22 1 false (.t 21))<|
 Zg 20 true (.un 23 .not (.t 22))<|
 Zo (.pick 24 (.t 20) (.t 23) (.c (.bool false)))<|
 Zm 17 24 .nil)<| .cond (.t 17) (Zr (Zc 4 1 .nil) .ret) (Zr (Zf 26 0 2<|
 Zl 27 1 26<|
 Zm 25 27 .nil)<| .cond (.t 25) (Zr (Zf 28 1 3<|
 Zl 29 1 28<|
 Zf 30 1 2<|
 Zl 31 1 30<|
 Zq 32 false 118 [.t 29,.t 31]<|
 Zm 4 32 .nil) .ret) .skip)))<|Zr (Zf 33 1 2<|
 Zl 34 1 33<|
 Zf 35 1 3<|
 Zl 36 1 35<|
 Zq 37 false 118 [.t 34,.t 36]<|
 Zm 4 37 .nil) .ret⟩
theorem Qabs:Qe Tryz.prog Tryz.f115=some Q79:=by kernel_rfl
def c87:SFn:=⟨48,[.cell 4 2 true],Zr (Zo (.box 2 2 48 (.t 0))<|
 Zo (.box 3 2 48 (.t 1))<|
 Zo (.alloc 4 2 48 (.agg [.bool false,.nilS])) .nil)<| .seq (Zr (Zf 9 0 2<|
 Zl 10 1 9<|
 Zf 11 0 3<|
 Zl 12 1 11<|
 Zo (.bin 13 .eql true (.t 10) (.t 12)) .nil)<| .cond (.t 13) (Zr (Zf 14 0 2<|
 Zl 15 1 14<|
 Zf 16 1 2<|
 Zl 17 1 16<|
 Zf 18 1 3<|
 Zl 19 1 18<|
 Zq 20 true 72 [.t 17,.t 19]<|
 Zq 21 true 71 [.t 15,.t 20]<|
 Zs 2 4 21 .nil) .ret) .skip)<| .seq (Zr (Zf 23 1 2<|
 Zl 24 1 23<|
 Zf 25 1 3<|
 Zl 26 1 25<|
 Zq 27 false 100 [.t 24,.t 26]<|
 Zm 22 27<|
 Zo (.ext 28 (.t 22) 0)<|
 Zo (.ext 29 (.t 22) 1)<|
 Zm 5 28<|
 Zm 6 29 .nil)<|Zr (Zm 30 6<|
 Zk 31 .eql 30 0 .nil)<| .cond (.t 31) (Zr (Zf 32 0 2<|
 Zl 33 1 32<|
 Zm 34 5<|
 Zq 35 false 71 [.t 33,.t 34]<|
 Zs 2 4 35 .nil) .ret) .skip)<|Zr (Zf 37 1 3<|
 Zl 38 1 37<|
 Zf 39 1 2<|
 Zl 40 1 39<|
 Zq 41 false 100 [.t 38,.t 40]<|
 Zm 36 41<|
 Zo (.ext 42 (.t 36) 0)<|
 Zo (.ext 43 (.t 36) 1)<|
 Zm 7 42<|
 Zm 8 43 .nil)<|Zr (Zf 44 0 3<|
 Zl 45 1 44<|
 Zm 46 7<|
 Zq 47 false 71 [.t 45,.t 46]<|
 Zs 2 4 47 .nil) .ret⟩
theorem Qafx:Qe Tryz.prog Tryz.f87=some c87:=by kernel_rfl
def c66:SFn:=⟨16,[.cell 4 2 true],Zr (Zo (.box 2 2 48 (.t 0))<|
 Zo (.box 3 2 48 (.t 1))<|
 Zo (.alloc 4 2 48 (.agg [.bool false,.nilS])) .nil)<|Zr (Zf 5 0 2<|
 Zl 6 1 5<|
 Zf 7 0 3<|
 Zl 8 1 7<|
 Zo (.bin 9 .neq true (.t 6) (.t 8))<|
 Zf 10 1 2<|
 Zl 11 1 10<|
 Zf 12 1 3<|
 Zl 13 1 12<|
 Zq 14 true 67 [.t 11,.t 13]<|
 Zq 15 true 71 [.t 9,.t 14]<|
 Zs 2 4 15 .nil) .ret⟩
theorem Qafy:Qe Tryz.prog Tryz.f66=some c66:=by kernel_rfl
def c34:SFn:=⟨27,[.t 2],Zr (Zo (.box 1 3 50 (.t 0))<|
 Zo (.mv 2 (.c (.bool false))) .nil)<|Zr (Zf 3 0 1<|
 Zh 4 2 3<|
 Zq 5 false 61 [.t 4]<|
 Zm 6 5<|
 Zg 6 true (.fld 7 2 (.t 1))<|
 Zg 6 true (.ld 8 1 false (.t 7))<|
 Zg 6 true (.call (some 9) false (.c (.fn 62 [] [])) [.t 8])<|
 Zo (.pick 10 (.t 6) (.t 9) (.c (.bool false)))<|
 Zm 11 10<|
 Zg 11 true (.fld 12 0 (.t 1))<|
 Zg 11 true (.fld 13 1 (.t 12))<|
 Zg 11 true (.ld 14 1 false (.t 13))<|
 Zg 11 true (.fld 15 2 (.t 1))<|
 Zg 11 true (.ld 16 1 false (.t 15))<|
 Zg 11 true (.call (some 17) false (.c (.fn 64 [] [])) [.t 14,.t 16])<|
 Zg 11 true (.call (some 18) false (.c (.fn 41 [] [])) [.c (.int .u64 1)])<|
 Zg 11 true (.call (some 19) false (.c (.fn 63 [] [])) [.t 17,.t 18])<|
 Zo (.pick 20 (.t 11) (.t 19) (.c (.bool false)))<|
 Zm 21 20<|
 Zg 21 true (.fld 22 2 (.t 1))<|
 Zg 21 true (.ld 23 1 false (.t 22))<|
 Zg 21 true (.len 24 (.t 23))<|
 Zg 21 true (.bin 25 .gtr false (.t 24) (.c (Zz 0)))<|
 Zo (.pick 26 (.t 21) (.t 25) (.c (.bool false)))<|
 Zm 2 26 .nil) .ret⟩
theorem Qafz:Qe Tryz.prog Tryz.f34=some c34:=by kernel_rfl
def c39:SFn:=⟨44,[.cell 4 3 true],Zr (Zo (.box 2 2 48 (.t 0))<|
 Zo (.alloc 4 3 50 (.agg [.bool false,.nilS,.nilS])) .nil)<| .seq (Zr (Zm 12 1<|
 Zq 13 false 68 [.t 12]<|
 Zn 14 13<|
 Zk 15 .eql 14 0 .nil)<| .cond (.t 15) (Zr (Zq 16 false 41 [.c (.int .u64 1)]<|
 Zo (.bld 17 [.bool false,.nilS,.nilS] [(2,1,.t 16)])<|
 Zs 3 4 17 .nil) .ret) .skip)<|Zr (Zf 18 1 2<|
 Zl 19 1 18<|
 Zm 20 1<|
 Zq 21 false 64 [.t 19,.t 20]<|
 Zm 5 21 .nil)<|Zr (Zf 23 1 2<|
 Zl 24 1 23<|
 Zm 25 5<|
 Zq 26 false 69 [.t 24,.t 25]<|
 Zm 22 26<|
 Zo (.ext 27 (.t 22) 0)<|
 Zo (.ext 28 (.t 22) 1)<|
 Zo (.ext 29 (.t 22) 2)<|
 Zm 6 27<|
 Zm 7 28<|
 Zm 8 29 .nil)<|Zr (Zm 31 1<|
 Zm 32 5<|
 Zq 33 false 69 [.t 31,.t 32]<|
 Zm 30 33<|
 Zo (.ext 34 (.t 30) 0)<|
 Zo (.ext 35 (.t 30) 1)<|
 Zo (.ext 36 (.t 30) 2)<|
 Zm 9 34<|
 Zm 10 35<|
 Zm 11 36 .nil)<|Zr (Zf 37 0 2<|
 Zl 38 1 37<|
 Zm 39 6<|
 Zo (.bld 40 [.bool false,.nilS] [(0,1,.t 38),(1,1,.t 39)])<|
 Zq 41 false 70 [.t 40]<|
 Zm 42 9<|
 Zo (.bld 43 [.bool false,.nilS,.nilS] [(0,2,.t 41),(2,1,.t 42)])<|
 Zs 3 4 43 .nil) .ret⟩
theorem Qaf0:Qe Tryz.prog Tryz.f39=some c39:=by kernel_rfl
def c55:SFn:=⟨8,[.cell 2 3 true],Zr (Zo (.box 1 3 50 (.t 0))<|
 Zo (.alloc 2 3 50 (.agg [.bool false,.nilS,.nilS])) .nil)<|Zr (Zf 3 0 1<|
 Zh 4 2 3<|
 Zf 5 2 1<|
 Zl 6 1 5<|
 Zq 7 false 39 [.t 4,.t 6]<|
 Zs 3 2 7 .nil) .ret⟩
theorem Qaf1:Qe Tryz.prog Tryz.f55=some c55:=by kernel_rfl
def c20:SFn:=⟨7,[.cell 2 3 true],Zr (Zo (.alloc 2 3 50 (.agg [.bool false,.nilS,.nilS])) .nil)<|Zr (Zm 3 0<|
 Zq 4 false 40 [.t 3]<|
 Zq 5 false 41 [.c (.int .u64 1)]<|
 Zq 6 false 39 [.t 4,.t 5]<|
 Zs 3 2 6 .nil) .ret⟩
theorem Qaf2:Qe Tryz.prog Tryz.f20=some c20:=by kernel_rfl
def c88:SFn:=⟨5,[.cell 2 2 true],Zr (Zo (.alloc 2 2 48 (.agg [.bool false,.nilS])) .nil)<|Zr (Zm 3 0<|
 Zo (.bld 4 [.bool false,.nilS] [(1,1,.t 3)])<|
 Zs 2 2 4 .nil) .ret⟩
theorem Qaf3:Qe Tryz.prog Tryz.f88=some c88:=by kernel_rfl
def c27:SFn:=⟨7,[.t 2],Zr (Zo (.box 1 3 50 (.t 0))<|
 Zc 2 0 .nil)<|Zr (Zh 3 3 1<|
 Zq 4 false 55 [.t 3]<|
 Zo (.fldv 5 0 2 true (.t 4))<|
 Zq 6 false 54 [.t 5]<|
 Zm 2 6 .nil) .ret⟩
theorem Qaf4:Qe Tryz.prog Tryz.f27=some c27:=by kernel_rfl
def c89:SFn:=⟨22,[.t 4],Zr (Zo (.box 2 3 50 (.t 0))<|
 Zo (.box 3 3 50 (.t 1))<|
 Zc 4 0 .nil)<|Zr (Zh 5 3 2<|
 Zh 7 3 3<|
 Zq 6 true 55 [.t 5]<|
 Zq 8 true 55 [.t 7]<|
 Zs 3 2 6<|
 Zs 3 3 8 .nil)<|Zr (Zf 9 0 2<|
 Zh 10 2 9<|
 Zf 11 2 3<|
 Zl 12 1 11<|
 Zf 15 0 3<|
 Zh 16 2 15<|
 Zf 17 2 2<|
 Zl 18 1 17<|
 Zq 13 true 88 [.t 12]<|
 Zq 14 true 66 [.t 10,.t 13]<|
 Zq 19 true 88 [.t 18]<|
 Zq 20 true 66 [.t 16,.t 19]<|
 Zq 21 true 115 [.t 14,.t 20]<|
 Zm 4 21 .nil) .ret⟩
theorem Qaf5:Qe Tryz.prog Tryz.f89=some c89:=by kernel_rfl
def c53:SFn:=⟨28,[.cell 4 3 true],Zr (Zo (.box 2 3 50 (.t 0))<|
 Zo (.box 3 3 50 (.t 1))<|
 Zo (.alloc 4 3 50 (.agg [.bool false,.nilS,.nilS])) .nil)<|Zr (Zh 5 3 2<|
 Zh 7 3 3<|
 Zq 6 true 55 [.t 5]<|
 Zq 8 true 55 [.t 7]<|
 Zs 3 2 6<|
 Zs 3 3 8 .nil)<|Zr (Zf 9 0 2<|
 Zh 10 2 9<|
 Zf 11 2 3<|
 Zl 12 1 11<|
 Zf 15 0 3<|
 Zh 16 2 15<|
 Zf 17 2 2<|
 Zl 18 1 17<|
 Zf 22 2 2<|
 Zl 23 1 22<|
 Zf 24 2 3<|
 Zl 25 1 24<|
 Zq 13 true 88 [.t 12]<|
 Zq 14 true 66 [.t 10,.t 13]<|
 Zq 19 true 88 [.t 18]<|
 Zq 20 true 66 [.t 16,.t 19]<|
 Zq 21 true 87 [.t 14,.t 20]<|
 Zq 26 true 67 [.t 23,.t 25]<|
 Zq 27 true 39 [.t 21,.t 26]<|
 Zs 3 4 27 .nil) .ret⟩
theorem Qaf6:Qe Tryz.prog Tryz.f53=some c53:=by kernel_rfl
def c38:SFn:=⟨16,[.cell 4 3 true],Zr (Zo (.box 2 3 50 (.t 0))<|
 Zo (.box 3 3 50 (.t 1))<|
 Zo (.alloc 4 3 50 (.agg [.bool false,.nilS,.nilS])) .nil)<|Zr (Zf 5 0 2<|
 Zh 6 2 5<|
 Zf 7 0 3<|
 Zh 8 2 7<|
 Zf 10 2 2<|
 Zl 11 1 10<|
 Zf 12 2 3<|
 Zl 13 1 12<|
 Zq 9 true 66 [.t 6,.t 8]<|
 Zq 14 true 67 [.t 11,.t 13]<|
 Zq 15 true 39 [.t 9,.t 14]<|
 Zs 3 4 15 .nil) .ret⟩
theorem Qaf7:Qe Tryz.prog Tryz.f38=some c38:=by kernel_rfl
end Go.Proofs.YtdacdnoebgcjhaaGreat
namespace Go.Proofs.YtdacdnoebgcjhaaGreat
open Go Go.FW
set_option linter.unusedSimpArgs false
set_option linter.unusedVariables false
set_option maxRecDepth 100000
theorem Qbn{l:List Nat}(hv:Qi l)(hl:l.length<2^42):Qd Tryz.prog 68 [PV.nat l] (· =PV.num (val l)):=by
 have hcut:=Qlc hv
 refine Qf Ql Tryz.func68 rfl Qafh (by simp[c68]) fun C hP=> ?_;simp only[c68,Zo,Zg,Zm,Zc,Zf,Zl,Zh,Zs,Zi,Zb,Zk,Zn,Zu,Zq,Zr,Zz]
 simp+decide (disch:=first|exact D0|fail) only[go_sem,↓reduceIte]
 refine Qw (by repeat (first|exact Qu|exact Qn|exact Qo|exact Qp|exact Qq|apply Qm|apply Qt|apply Qy|apply Q5|apply Q6|apply Qk|apply Q2)) [(3,3),(7,18)] [] (fun m J hp=>m<=l.length/\cut l m=dig (val l)/\J 3= .int .i64 m/\hp=hp0) l.length ?_ ?_
 ·refine⟨Nat.le_refl _,hcut,?_⟩
  simp+decide (disch:=first|exact D0|fail) only[go_sem,↓reduceIte]
 rintro n J _ ⟨hn,hc,h3,rfl⟩
 simp+decide (disch:=first|exact D1 h3|fail) only[go_sem,↓reduceIte,h3]
 refine Qan (fun hg=> ?_) (fun hg=> ?_)
 ·obtain _|n:=n
  ·omega
  have e:((n+1:Nat):Int)-1=n:=by omega
  simp only[cut]at hc
  simp+decide (disch:=first|exact D2 h3 e|fail) only[go_sem,↓reduceIte,h3,e]
  refine Qb (fun hz=> ?_) (fun hz=> ?_)
  ·rw[if_pos (by grind)]at hc
   simp+decide (disch:=first|exact D2 h3 e|fail) only[go_sem,↓reduceIte,h3,e]
   refine Qh n (by omega) ⟨by omega,hc,?_⟩
   simp+decide (disch:=first|exact D0|fail) only[go_sem,↓reduceIte]
  ·rw[if_neg (by grind)]at hc
   have hlt:(l.take (n+1)).length<2^42:=by rw[List.length_take];omega
   simp+decide (disch:=first|exact E2 h3 e|fail) only[go_sem,↓reduceIte,h3,e,Qz,List.contains_cons,List.contains_nil,List.flatMap_cons,List.flatMap_nil,List.append_nil]
   exact Qc (by rw[List.take_of_length_le (by simp),hc]) rfl
 ·obtain rfl:n=0:=by omega
  simp+decide (disch:=first|omega|rfl|(simp+decide only[go_sem,↓reduceIte,h3,List.take_zero,List.map_nil,List.length_nil]<;>rfl)|fail) only[go_sem,↓reduceIte,h3,List.take_zero,List.map_nil,List.length_nil]
  rw[Qlz (ys:=[]) rfl (by omega) (by simp) (by simp)]
  simp+decide (disch:=first|exact E0|fail) only[go_sem,↓reduceIte,Qz,List.contains_cons,List.contains_nil,List.flatMap_cons,List.flatMap_nil,List.append_nil]
  exact Qc (by show _=PV.nat (dig (val l));rw[<-hc];rfl) rfl
theorem Qcq{n:Nat}(hn:n<18446744073709551616):Qd Tryz.prog 41 [.int .u64 n] (· =PV.num n):=by
 have hlen:=Qen hn
 unfold nl at hlen
 refine Qf Ql Tryz.func41 rfl Qafi (by simp[c41]) fun C hP=> ?_;simp only[c41,Zo,Zg,Zm,Zc,Zf,Zl,Zh,Zs,Zi,Zb,Zk,Zn,Zu,Zq,Zr,Zz]
 simp+decide (disch:=first|exact D0|fail) only[go_sem,↓reduceIte]
 refine Qgj 3 900 1 109 (by omega) T0 ?_
 refine Qw (by repeat (first|exact Qu|exact Qn|exact Qo|exact Qp|exact Qq|apply Qm|apply Qt|apply Qy|apply Q5|apply Q6|apply Qk|apply Q2)) [(0,0),(3,13)] [10,11,900] (fun m J hp=>∃done:List Nat,dig n=done++dig m/\m<=n/\J 0= .int .u64 m/\J 3= .ms 900 done.length/\hp 900=some ⟨1,109,Qay done,false⟩) n ?_ ?_
 ·refine⟨[],rfl,Nat.le_refl _,?_⟩
  simp+decide (disch:=first|exact D0|fail) only[go_sem,↓reduceIte]
 rintro m J hp ⟨done,hd,hm,h0,h3,hh⟩
 rw[hd,List.length_append]at hlen
 simp+decide (disch:=first|exact D2 h0 h3|fail) only[go_sem,↓reduceIte,h0,h3]
 refine Qb (fun hz=> ?_) (fun hz=> ?_)
 ·have hne:m≠0:=by omega
  have hd2:dig n=(done++[m%65536])++dig (m/65536):=by rw[hd,Qgi hne];simp
  simp+decide (disch:=first|omega|rfl|(simp+decide only[go_sem,↓reduceIte,h0,h3,Nat.mod_mod]<;>rfl)|fail) only[go_sem,↓reduceIte,h0,h3,Nat.mod_mod]
  rw[Qai (f:=fun(x:Nat)=> .int .u16 x) (y:=m%65536) (xs:=done) (ty':=109) (fz:=false) (T1 hh) Tr0 (by omega) rfl (by omega) (by omega)]
  simp+decide (disch:=first|exact D2 h0 h3|fail) only[go_sem,↓reduceIte,h0,h3]
  refine Qh (m/65536) (by omega) ⟨done++[m%65536],hd2,by omega,?_⟩
  simp+decide (disch:=first|exact D2 h0 h3|fail) only[go_sem,↓reduceIte,h0,h3]
  simp
 ·obtain rfl:m=0:=by omega
  rw[Qax,List.append_nil]at hd
  simp+decide (disch:=first|exact E2 h3 hh|fail) only[go_sem,↓reduceIte,h3,hh,Qz,List.contains_cons,List.contains_nil,List.flatMap_cons,List.flatMap_nil,List.append_nil]
  exact Qc (by show _=PV.nat (dig n);rw[hd,List.take_of_length_le (by simp)]) rfl
theorem Qbg{a:List Nat}{i:Nat}(ha:Qi a)(hl:a.length<2^43):Qd Tryz.prog 97 [PV.nat a,.int .i64 i] (· = .int .i64 (dg a i:Nat)):=by
 refine Qf Ql Tryz.func97 rfl Qafk (by simp[c97]) fun C hP=> ?_;simp only[c97,Zo,Zg,Zm,Zc,Zf,Zl,Zh,Zs,Zi,Zb,Zk,Zn,Zu,Zq,Zr,Zz]
 simp+decide (disch:=first|exact D0|fail) only[go_sem,↓reduceIte]
 refine Qb (fun hi=> ?_) (fun hi=> ?_)
 ·have hi':i<a.length:=by omega
  have hai:=Qaj ha hi'
  have hg:dg a i=a[i]:=Qbd hi'
  simp+decide (disch:=first|exact D0|fail) only[go_sem,↓reduceIte]
  exact Qc (by rw[hg]) rfl
 ·simp+decide (disch:=first|exact D0|fail) only[go_sem,↓reduceIte]
  exact Qc (by rw[dg,Qbe (by omega)];rfl) rfl
theorem Qf8{a:List Nat}(ha:Qi a)(hl:a.length<=4):Qd Tryz.prog 98 [PV.nat a] (· = .int .u64 (val a:Nat)):=by
 have hlt:∀k,val (a.drop k)<18446744073709551616:=fun k=>by
  have h1:=Qev (Qgt ha k)
  have:65536^(a.drop k).length<=65536^4:=Nat.pow_le_pow_right (by omega) (by rw[List.length_drop];omega)
  omega
 refine Qf Ql Tryz.func98 rfl Qafj (by simp[c98]) fun C hP=> ?_;simp only[c98,Zo,Zg,Zm,Zc,Zf,Zl,Zh,Zs,Zi,Zb,Zk,Zn,Zu,Zq,Zr,Zz]
 simp+decide (disch:=first|exact D0|fail) only[go_sem,↓reduceIte]
 refine Qw (by repeat (first|exact Qu|exact Qn|exact Qo|exact Qp|exact Qq|apply Qm|apply Qt|apply Qy|apply Q5|apply Q6|apply Qk|apply Q2)) [(3,4),(8,19)] [] (fun k J hp=>k<=a.length/\J 3= .int .u64 (val (a.drop k):Nat)/\J 4= .int .i64 ((k:Int)-1)) a.length ?_ ?_
 ·refine⟨Nat.le_refl _,?_⟩
  simp+decide (disch:=first|exact D0|fail) only[go_sem,↓reduceIte]
  simp[val]
 rintro k J h ⟨hk,h3,h4⟩
 simp+decide (disch:=first|exact D2 h3 h4|fail) only[go_sem,↓reduceIte,h3,h4]
 refine Qb (fun hg=> ?_) (fun hg=> ?_)
 ·obtain _|n:=k
  ·omega
  have hn:n<a.length:=by omega
  have han:=Qaj ha hn
  have e:((n+1:Nat):Int)-1=n:=by omega
  have hv:=Qca hn
  have h1:=hlt n
  generalize hxx:a[n]=x at *
  have e2:val (a.drop (n+1))*65536+x=val (a.drop n):=by omega
  simp+decide (disch:=first|exact D5 h3 h4 e hxx e2|fail) only[go_sem,↓reduceIte,h3,h4,e,hxx,e2]
  refine Qh n (by omega) ⟨by omega,?_⟩
  simp+decide (disch:=first|exact D0|fail) only[go_sem,↓reduceIte]
 ·obtain rfl:k=0:=by omega
  simp+decide (disch:=first|omega|rfl|(simp+decide only[go_sem,↓reduceIte,h3,List.drop_zero]<;>rfl)|fail) only[go_sem,↓reduceIte,h3,List.drop_zero]
  exact Qc rfl rfl
theorem Qh0{a b:List Nat}(ha:Qi a)(hb:Qi b)(hla:a.length<2^42)(hlb:b.length<2^42):Qd Tryz.prog 118 [PV.nat a,PV.nat b] (· = .int .i64 (Qdc (val a) (val b))):=by
 refine Qf Ql Tryz.func118 rfl Qabq (by simp[Q77]) fun C hP=> ?_;simp only[Q77,Zo,Zg,Zm,Zc,Zf,Zl,Zh,Zs,Zi,Zb,Zk,Zn,Zu,Zq,Zr,Zz]
 simp+decide (disch:=first|omega|rfl|(simp+decide only[go_sem,↓reduceIte,Qsj]<;>rfl)|fail) only[go_sem,↓reduceIte,Qsj]
 refine Qw (by repeat (first|exact Qu|exact Qn|exact Qo|exact Qp|exact Qq|apply Qm|apply Qt|apply Qy|apply Q5|apply Q6|apply Qk|apply Q2)) [(4,5),(12,29)] [] (fun k J hp=>k<=max a.length b.length/\val (a.drop k)=val (b.drop k)/\J 5= .int .i64 ((k:Int)-1)) (max a.length b.length) ?_ ?_
 ·refine⟨Nat.le_refl _,?_,?_⟩
  ·rw[List.drop_of_length_le (by omega),List.drop_of_length_le (by omega)]
  ·simp+decide (disch:=first|exact D0|fail) only[go_sem,↓reduceIte]
 rintro k J h ⟨hk,hv,h5⟩
 simp+decide (disch:=first|exact D1 h5|fail) only[go_sem,↓reduceIte,h5]
 refine Qb (fun hg=> ?_) (fun hg=> ?_)
 ·obtain _|n:=k
  ·omega
  have e:((n+1:Nat):Int)-1=n:=by omega
  have e1:=Qgk a n
  have e2:=Qgk b n
  have d1:=Qme ha n
  have d2:=Qme hb n
  simp+decide (disch:=first|exact D2 h5 e|fail) only[go_sem,↓reduceIte,h5,e]
  refine Qa hP (Qbg ha (by omega)) rfl rfl rfl ?_
  simp+decide (disch:=first|exact D2 h5 e|fail) only[go_sem,↓reduceIte,h5,e]
  refine Qa hP (Qbg hb (by omega)) rfl rfl rfl ?_
  simp+decide (disch:=first|exact D2 h5 e|fail) only[go_sem,↓reduceIte,h5,e]
  refine Qb (fun hc=> ?_) (fun hc=> ?_)
  ·have hlt:=Qoz (a:=a) (b:=b) ha (i:=n) (by omega)
   simp+decide (disch:=first|exact D0|fail) only[go_sem,↓reduceIte]
   exact Qc (by rw[Qr8 hlt]) rfl
  simp+decide (disch:=first|exact D2 h5 e|fail) only[go_sem,↓reduceIte,h5,e]
  refine Qa hP (Qbg ha (by omega)) rfl rfl rfl ?_
  simp+decide (disch:=first|exact D2 h5 e|fail) only[go_sem,↓reduceIte,h5,e]
  refine Qa hP (Qbg hb (by omega)) rfl rfl rfl ?_
  simp+decide (disch:=first|exact D2 h5 e|fail) only[go_sem,↓reduceIte,h5,e]
  refine Qb (fun hc2=> ?_) (fun hc2=> ?_)
  ·have hlt:=Qoz (a:=b) (b:=a) hb (i:=n) (by omega)
   simp+decide (disch:=first|exact D0|fail) only[go_sem,↓reduceIte]
   exact Qc (by rw[Qr9 hlt]) rfl
  ·simp+decide (disch:=first|exact D2 h5 e|fail) only[go_sem,↓reduceIte,h5,e]
   refine Qh n (by omega) ⟨by omega,by omega,?_⟩
   simp+decide (disch:=first|exact D0|fail) only[go_sem,↓reduceIte]
 ·obtain rfl:k=0:=by omega
  simp+decide (disch:=first|exact D0|fail) only[go_sem,↓reduceIte]
  exact Qc (by rw[Qy6 (by simpa using hv)]) rfl
end Go.Proofs.YtdacdnoebgcjhaaGreat
namespace Go.Proofs.YtdacdnoebgcjhaaGreat
open Go Go.FW
set_option linter.unusedSimpArgs false
set_option linter.unusedVariables false
set_option maxRecDepth 100000
theorem Qmw{a:List Nat}(ha:Qi a)(hl:a.length<2^43):Qd Tryz.prog 62 [PV.nat a] (· = .bool (decide (a.getLast? ≠some 0))):=by
 refine Qf Ql Tryz.func62 rfl Qafq (by simp[c62]) fun C hP=> ?_;simp only[c62,Zo,Zg,Zm,Zc,Zf,Zl,Zh,Zs,Zi,Zb,Zk,Zn,Zu,Zq,Zr,Zz]
 simp+decide (disch:=first|exact D0|fail) only[go_sem,↓reduceIte]
 refine Qv (fun h0=> ?_) (fun h0=> ?_)
 ·have:a=[]:=List.length_eq_zero_iff.1 (by omega)
  subst this
  simp+decide (disch:=first|exact D0|fail) only[go_sem,↓reduceIte]
  exact Qc (by simp) rfl
 ·obtain⟨k,hk⟩:∃k,a.length=k+1:=⟨a.length-1,by omega⟩
  have hlast:=Qpp hk
  have e:((k+1:Nat):Int)-1=k:=by omega
  generalize hy:a[k]'(by omega)=y at *
  simp+decide (disch:=first|exact D3 hk e hy|fail) only[go_sem,↓reduceIte,hk,e,hy]
  refine Qc (congrArg PV.bool ?_) rfl
  rw[hlast]
  exact decide_eq_decide.2 ⟨fun h h'=>h (by injection h' with h';rw[h'];rfl),fun h h'=>h (by rw[show y=0 by omega])⟩
theorem Qw1{a b:List Nat}(hla:a.length<2^43)(hlb:b.length<2^43):Qd Tryz.prog 63 [PV.nat a,PV.nat b] (· = .bool (decide (a=b))):=by
 refine Qf Ql Tryz.func63 rfl Qafr (by simp[c63]) fun C hP=> ?_;simp only[c63,Zo,Zg,Zm,Zc,Zf,Zl,Zh,Zs,Zi,Zb,Zk,Zn,Zu,Zq,Zr,Zz]
 simp+decide (disch:=first|exact D0|fail) only[go_sem,↓reduceIte]
 refine Qb (fun h0=> ?_) (fun h0=> ?_)
 ·simp+decide (disch:=first|exact D0|fail) only[go_sem,↓reduceIte]
  exact Qc (congrArg PV.bool (by rw[decide_eq_false];rintro rfl;exact h0 rfl)) rfl
 have hlen:a.length=b.length:=by omega
 simp+decide (disch:=first|exact D0|fail) only[go_sem,↓reduceIte]
 refine Qw (by repeat (first|exact Qu|exact Qn|exact Qo|exact Qp|exact Qq|apply Qm|apply Qt|apply Qy|apply Q5|apply Q6|apply Qk|apply Q2)) [(4,5),(11,25)] [] (fun n J hp=>∃i,n=a.length-i/\i<=a.length/\a.take i=b.take i/\J 5= .int .i64 (i:Nat)) a.length ?_ ?_
 ·refine⟨0,rfl,by omega,by simp,?_⟩
  simp+decide (disch:=first|exact D0|fail) only[go_sem,↓reduceIte]
  rfl
 rintro _ J h ⟨i,rfl,hi,he,h5⟩
 simp+decide (disch:=first|exact D1 h5|fail) only[go_sem,↓reduceIte,h5]
 refine Qb (fun hg=> ?_) (fun hg=> ?_)
 ·have hi':i<a.length:=by omega
  have hib:i<b.length:=by omega
  have ta:=List.take_succ_eq_append_getElem hi'
  have tb:=List.take_succ_eq_append_getElem hib
  have hne:a=b->a[i]=b[i]:=fun h=>by subst h;rfl
  generalize hx:a[i]=x at *
  generalize hy:b[i]=y at *
  simp+decide (disch:=first|exact D3 h5 hx hy|fail) only[go_sem,↓reduceIte,h5,hx,hy]
  refine Qb (fun hc=> ?_) (fun hc=> ?_)
  ·simp+decide (disch:=first|exact D0|fail) only[go_sem,↓reduceIte]
   exact Qc (congrArg PV.bool (by rw[decide_eq_false];intro h;exact hc (by rw[hne h]))) rfl
  ·simp+decide (disch:=first|exact D1 h5|fail) only[go_sem,↓reduceIte,h5]
   refine Qh (a.length-(i+1)) (by omega) ⟨i+1,rfl,by omega,by rw[ta,tb,he,show x=y by omega],?_⟩
   simp+decide (disch:=first|exact D0|fail) only[go_sem,↓reduceIte]
 ·obtain rfl:i=a.length:=by omega
  rw[List.take_length,hlen,List.take_length]at he
  simp+decide (disch:=first|exact D0|fail) only[go_sem,↓reduceIte]
  exact Qc (congrArg PV.bool (by rw[he];simp)) rfl
theorem Qo2{a b:List Nat}(ha:Qi a)(hb:Qi b)(hla:a.length<2^40)(hlb:b.length<2^40):Qd Tryz.prog 72 [PV.nat a,PV.nat b] (· =PV.num (val a+val b)):=by
 refine Qf Ql Tryz.func72 rfl Qafl (by simp[c72]) fun C hP=> ?_;simp only[c72,Zo,Zg,Zm,Zc,Zf,Zl,Zh,Zs,Zi,Zb,Zk,Zn,Zu,Zq,Zr,Zz]
 simp+decide (disch:=first|exact D0|fail) only[go_sem,↓reduceIte]
 refine Qgj 5 900 1 109 (by omega) T0 ?_
 refine Qw (by repeat (first|exact Qu|exact Qn|exact Qo|exact Qp|exact Qq|apply Qm|apply Qt|apply Qy|apply Q5|apply Q6|apply Qk|apply Q2)) [(5,41)] [38,39,900] (fun m J hp=>∃(i c:Nat)(out:List Nat),m=2*(max a.length b.length-i)+c/\c<=1/\i<=max a.length b.length+1/\(i<=max a.length b.length∨c=0)/\out.length=i/\Qi out/\val out+65536^i*(c+val (a.drop i)+val (b.drop i))=val a+val b/\J 5= .ms 900 out.length/\J 6= .int .i64 c/\J 7= .int .i64 i/\hp 900=some ⟨1,109,Qay out,false⟩) (2*max a.length b.length) ?_ ?_
 ·refine⟨0,0,[],rfl,by omega,by omega,by omega,rfl,Qcb,by simp[val],?_⟩
  simp+decide (disch:=first|exact D0|fail) only[go_sem,↓reduceIte]
  simp
 rintro _ J h ⟨i,c,out,rfl,hc,hi,hi2,hol,hout,hv,h5,h6,h7,hh⟩
 have e1:=Qgk a i
 have e2:=Qgk b i
 have d1:=Qme ha i
 have d2:=Qme hb i
 simp+decide (disch:=first|exact D3 h5 h6 h7|fail) only[go_sem,↓reduceIte,h5,h6,h7]
 refine Qv (fun hg=> ?_) (fun hg=> ?_)
 ·have hlt:i<max a.length b.length:=by omega
  have hs1:(dg a i+dg b i+c)/65536<=1:=by omega
  have hstep:val (out++[(dg a i+dg b i+c)%65536])+65536^(i+1)*((dg a i+dg b i+c)/65536+val (a.drop (i+1))+val (b.drop (i+1)))=val a+val b:=by
   rw[Qmg,hol,Nat.pow_succ,<-hv,e1,e2]
   have:=Nat.div_add_mod (dg a i+dg b i+c) 65536
   generalize 65536^i=P at *
   generalize(dg a i+dg b i+c)/65536=q at *
   generalize(dg a i+dg b i+c)%65536=r at *
   have e:c+(dg a i+65536*val (a.drop (i+1)))+(dg b i+65536*val (b.drop (i+1)))=r+65536*(q+val (a.drop (i+1))+val (b.drop (i+1))):=by omega
   rw[e,Nat.mul_add P,Nat.mul_assoc];omega
  simp+decide (disch:=first|exact D3 h5 h6 h7|fail) only[go_sem,↓reduceIte,h5,h6,h7]
  refine Qa hP (Qbg ha (by omega)) rfl rfl rfl ?_
  simp+decide (disch:=first|exact D3 h5 h6 h7|fail) only[go_sem,↓reduceIte,h5,h6,h7]
  refine Qa hP (Qbg hb (by omega)) rfl rfl rfl ?_
  simp+decide (disch:=first|omega|rfl|(simp+decide only[go_sem,↓reduceIte,h5,h6,h7,Nat.mod_mod]<;>rfl)|fail) only[go_sem,↓reduceIte,h5,h6,h7,Nat.mod_mod]
  rw[Qai (f:=fun(x:Nat)=> .int .u16 x) (y:=(dg a i+dg b i+c)%65536) (xs:=out) (ty':=109) (fz:=false) (T1 hh) Tr0 (by omega) rfl (by omega) (by omega)]
  simp+decide (disch:=first|exact D3 h5 h6 h7|fail) only[go_sem,↓reduceIte,h5,h6,h7]
  refine Qh (2*(max a.length b.length-(i+1))+(dg a i+dg b i+c)/65536) ?_ ⟨i+1,(dg a i+dg b i+c)/65536,out++[(dg a i+dg b i+c)%65536],rfl,hs1,by omega,?_,by simp[hol],?_,hstep,?_⟩
  ·by_cases hlt:i<max a.length b.length
   ·omega
   ·have z1:dg a i=0:=by rw[dg,Qbe (by omega)]
    have z2:dg b i=0:=by rw[dg,Qbe (by omega)]
    rw[z1,z2];omega
  ·by_cases hlt:i<max a.length b.length
   ·omega
   ·have z1:dg a i=0:=by rw[dg,Qbe (by omega)]
    have z2:dg b i=0:=by rw[dg,Qbe (by omega)]
    rw[z1,z2];omega
  ·rw[Qbl];exact⟨hout,by intro z hz;simp at hz;omega⟩
  ·simp+decide (disch:=first|exact D0|fail) only[go_sem,↓reduceIte]
   simp
 simp+decide (disch:=first|exact D3 h5 h6 h7|fail) only[go_sem,↓reduceIte,h5,h6,h7]
 refine Qv (fun hg2=> ?_) (fun hg2=> ?_)
 ·have hlt:i<max a.length b.length:=by omega
  have hs1:(dg a i+dg b i+c)/65536<=1:=by omega
  have hstep:val (out++[(dg a i+dg b i+c)%65536])+65536^(i+1)*((dg a i+dg b i+c)/65536+val (a.drop (i+1))+val (b.drop (i+1)))=val a+val b:=by
   rw[Qmg,hol,Nat.pow_succ,<-hv,e1,e2]
   have:=Nat.div_add_mod (dg a i+dg b i+c) 65536
   generalize 65536^i=P at *
   generalize(dg a i+dg b i+c)/65536=q at *
   generalize(dg a i+dg b i+c)%65536=r at *
   have e:c+(dg a i+65536*val (a.drop (i+1)))+(dg b i+65536*val (b.drop (i+1)))=r+65536*(q+val (a.drop (i+1))+val (b.drop (i+1))):=by omega
   rw[e,Nat.mul_add P,Nat.mul_assoc];omega
  simp+decide (disch:=first|exact D3 h5 h6 h7|fail) only[go_sem,↓reduceIte,h5,h6,h7]
  refine Qa hP (Qbg ha (by omega)) rfl rfl rfl ?_
  simp+decide (disch:=first|exact D3 h5 h6 h7|fail) only[go_sem,↓reduceIte,h5,h6,h7]
  refine Qa hP (Qbg hb (by omega)) rfl rfl rfl ?_
  simp+decide (disch:=first|omega|rfl|(simp+decide only[go_sem,↓reduceIte,h5,h6,h7,Nat.mod_mod]<;>rfl)|fail) only[go_sem,↓reduceIte,h5,h6,h7,Nat.mod_mod]
  rw[Qai (f:=fun(x:Nat)=> .int .u16 x) (y:=(dg a i+dg b i+c)%65536) (xs:=out) (ty':=109) (fz:=false) (T1 hh) Tr0 (by omega) rfl (by omega) (by omega)]
  simp+decide (disch:=first|exact D3 h5 h6 h7|fail) only[go_sem,↓reduceIte,h5,h6,h7]
  refine Qh (2*(max a.length b.length-(i+1))+(dg a i+dg b i+c)/65536) ?_ ⟨i+1,(dg a i+dg b i+c)/65536,out++[(dg a i+dg b i+c)%65536],rfl,hs1,by omega,?_,by simp[hol],?_,hstep,?_⟩
  ·by_cases hlt:i<max a.length b.length
   ·omega
   ·have z1:dg a i=0:=by rw[dg,Qbe (by omega)]
    have z2:dg b i=0:=by rw[dg,Qbe (by omega)]
    rw[z1,z2];omega
  ·by_cases hlt:i<max a.length b.length
   ·omega
   ·have z1:dg a i=0:=by rw[dg,Qbe (by omega)]
    have z2:dg b i=0:=by rw[dg,Qbe (by omega)]
    rw[z1,z2];omega
  ·rw[Qbl];exact⟨hout,by intro z hz;simp at hz;omega⟩
  ·simp+decide (disch:=first|exact D0|fail) only[go_sem,↓reduceIte]
   simp
 simp+decide (disch:=first|exact D3 h5 h6 h7|fail) only[go_sem,↓reduceIte,h5,h6,h7]
 refine Qb (fun hg3=> ?_) (fun hg3=> ?_)
 ·have hib:i<=max a.length b.length:=by omega
  have hs1:(dg a i+dg b i+c)/65536<=1:=by omega
  have hstep:val (out++[(dg a i+dg b i+c)%65536])+65536^(i+1)*((dg a i+dg b i+c)/65536+val (a.drop (i+1))+val (b.drop (i+1)))=val a+val b:=by
   rw[Qmg,hol,Nat.pow_succ,<-hv,e1,e2]
   have:=Nat.div_add_mod (dg a i+dg b i+c) 65536
   generalize 65536^i=P at *
   generalize(dg a i+dg b i+c)/65536=q at *
   generalize(dg a i+dg b i+c)%65536=r at *
   have e:c+(dg a i+65536*val (a.drop (i+1)))+(dg b i+65536*val (b.drop (i+1)))=r+65536*(q+val (a.drop (i+1))+val (b.drop (i+1))):=by omega
   rw[e,Nat.mul_add P,Nat.mul_assoc];omega
  simp+decide (disch:=first|exact D3 h5 h6 h7|fail) only[go_sem,↓reduceIte,h5,h6,h7]
  refine Qa hP (Qbg ha (by omega)) rfl rfl rfl ?_
  simp+decide (disch:=first|exact D3 h5 h6 h7|fail) only[go_sem,↓reduceIte,h5,h6,h7]
  refine Qa hP (Qbg hb (by omega)) rfl rfl rfl ?_
  simp+decide (disch:=first|omega|rfl|(simp+decide only[go_sem,↓reduceIte,h5,h6,h7,Nat.mod_mod]<;>rfl)|fail) only[go_sem,↓reduceIte,h5,h6,h7,Nat.mod_mod]
  rw[Qai (f:=fun(x:Nat)=> .int .u16 x) (y:=(dg a i+dg b i+c)%65536) (xs:=out) (ty':=109) (fz:=false) (T1 hh) Tr0 (by omega) rfl (by omega) (by omega)]
  simp+decide (disch:=first|exact D3 h5 h6 h7|fail) only[go_sem,↓reduceIte,h5,h6,h7]
  refine Qh (2*(max a.length b.length-(i+1))+(dg a i+dg b i+c)/65536) ?_ ⟨i+1,(dg a i+dg b i+c)/65536,out++[(dg a i+dg b i+c)%65536],rfl,hs1,by omega,?_,by simp[hol],?_,hstep,?_⟩
  ·by_cases hlt:i<max a.length b.length
   ·omega
   ·have z1:dg a i=0:=by rw[dg,Qbe (by omega)]
    have z2:dg b i=0:=by rw[dg,Qbe (by omega)]
    rw[z1,z2];omega
  ·by_cases hlt:i<max a.length b.length
   ·omega
   ·have z1:dg a i=0:=by rw[dg,Qbe (by omega)]
    have z2:dg b i=0:=by rw[dg,Qbe (by omega)]
    rw[z1,z2];omega
  ·rw[Qbl];exact⟨hout,by intro z hz;simp at hz;omega⟩
  ·simp+decide (disch:=first|exact D0|fail) only[go_sem,↓reduceIte]
   simp
 ·obtain rfl:c=0:=by omega
  rw[List.drop_of_length_le (by omega),List.drop_of_length_le (by omega)]at hv
  simp only[val,Nat.add_zero,Nat.mul_zero]at hv
  simp+decide (disch:=first|exact D2 h5 hh|fail) only[go_sem,↓reduceIte,h5,hh]
  refine Qff hP (Qbn hout (by omega)) (by simp+decide (disch:=first|exact E1 hh|fail) only[go_sem,↓reduceIte,hh,Qz,List.contains_cons,List.contains_nil,List.flatMap_cons,List.flatMap_nil,List.append_nil];simp[List.take_of_length_le]) rfl fun hp'=> ?_
  simp+decide (disch:=first|exact D0|fail) only[go_sem,↓reduceIte]
  exact Qc (by rw[hv]) rfl
end Go.Proofs.YtdacdnoebgcjhaaGreat
namespace Go.Proofs.YtdacdnoebgcjhaaGreat
open Go Go.FW
set_option linter.unusedSimpArgs false
set_option linter.unusedVariables false
set_option maxRecDepth 100000
theorem Qky{a b:List Nat}(ha:Qi a)(hb:Qi b)(hla:a.length<2^40)(hlb:b.length<2^40):Qd Tryz.prog 100 [PV.nat a,PV.nat b] (· =if val a<val b then .tup [PV.num 0,.int .i64 2]else .tup [PV.num (val a-val b),.int .i64 0]):=by
 refine Qf Ql Tryz.func100 rfl Qabr (by simp[Q78]) fun C hP=> ?_;simp only[Q78,Zo,Zg,Zm,Zc,Zf,Zl,Zh,Zs,Zi,Zb,Zk,Zn,Zu,Zq,Zr,Zz]
 simp+decide (disch:=first|exact D0|fail) only[go_sem,↓reduceIte]
 refine Qa hP (Qh0 ha hb (by omega) (by omega)) rfl rfl rfl ?_
 simp+decide (disch:=first|exact D0|fail) only[go_sem,↓reduceIte]
 refine Qb (fun hc=> ?_) (fun hc=> ?_)
 ·rw[if_pos (Ql8.1 hc)]
  simp+decide (disch:=first|exact D0|fail) only[go_sem,↓reduceIte]
  exact Qdd rfl rfl rfl Qhd (Q8 _)
 have hge:¬val a<val b:=fun h=>hc (Ql8.2 h)
 rw[if_neg hge]
 simp+decide (disch:=first|exact D0|fail) only[go_sem,↓reduceIte]
 refine Qgj 6 900 1 109 (by omega) T0 ?_
 refine Qw (by repeat (first|exact Qu|exact Qn|exact Qo|exact Qp|exact Qq|apply Qm|apply Qt|apply Qy|apply Q5|apply Q6|apply Qk|apply Q2)) [(6,9),(14,37)] [36,37,900] (fun m J hp=>∃(i c:Nat)(out:List Nat),m=a.length-i/\c<=1/\i<=a.length/\out.length=i/\Qi out/\val (a.take i)+65536^i*c=val out+val (b.take i)/\J 6= .ms 900 out.length/\J 7= .int .i64 c/\J 8= .int .i64 i/\hp 900=some ⟨1,109,Qay out,false⟩) a.length ?_ ?_
 ·refine⟨0,0,[],rfl,by omega,by omega,rfl,Qcb,by simp[val],?_⟩
  simp+decide (disch:=first|exact D0|fail) only[go_sem,↓reduceIte]
  simp
 rintro _ J h ⟨i,c,out,rfl,hc1,hi,hol,hout,hv,h6,h7,h8,hh⟩
 simp+decide (disch:=first|exact D3 h6 h7 h8|fail) only[go_sem,↓reduceIte,h6,h7,h8]
 refine Qb (fun hg=> ?_) (fun hg=> ?_)
 ·have hi':i<a.length:=by omega
  have e1:=Qlj a i
  have e2:=Qlj b i
  have d1:=Qme ha i
  have d2:=Qme hb i
  simp+decide (disch:=first|exact D3 h6 h7 h8|fail) only[go_sem,↓reduceIte,h6,h7,h8]
  refine Qa hP (Qbg ha (by omega)) rfl rfl rfl ?_
  simp+decide (disch:=first|exact D3 h6 h7 h8|fail) only[go_sem,↓reduceIte,h6,h7,h8]
  refine Qa hP (Qbg hb (by omega)) rfl rfl rfl ?_
  simp+decide (disch:=first|exact D3 h6 h7 h8|fail) only[go_sem,↓reduceIte,h6,h7,h8]
  have step:∀(d c':Nat),d<65536->c'<=1->dg a i+65536*c'=d+dg b i+c->val (a.take (i+1))+65536^(i+1)*c'=val (out++[d])+val (b.take (i+1)):=fun d c' _ _ h3=>by
   rw[Qmg,hol,e1,e2,Nat.pow_succ]
   generalize 65536^i=P at *
   have:P*(dg a i+65536*c')=P*(d+dg b i+c):=by rw[h3]
   rw[Nat.mul_add,<-Nat.mul_assoc,Nat.mul_add,Nat.mul_add]at this
   omega
  refine Qb (fun hd=> ?_) (fun hd=> ?_)
  ·obtain⟨d,hd1⟩:∃d:Nat,(dg a i:Int)-(dg b i:Int)-(c:Int)+65536=d:=⟨((dg a i:Int)-(dg b i:Int)-(c:Int)+65536).toNat,by omega⟩
   have hst:=step d 1 (by omega) (by omega) (by omega)
   simp+decide (disch:=first|exact D4 h6 h7 h8 hd1|fail) only[go_sem,↓reduceIte,h6,h7,h8,hd1]
   rw[Qai (f:=fun(x:Nat)=> .int .u16 x) (y:=d) (xs:=out) (ty':=109) (fz:=false) (T1 hh) (by simp+decide (disch:=first|omega|rfl|(simp+decide only[go_sem,↓reduceIte,Nat.mod_eq_of_lt (by omega:d<65536)]<;>rfl)|fail) only[go_sem,↓reduceIte,Nat.mod_eq_of_lt (by omega:d<65536)]) (by omega) rfl (by omega) (by omega)]
   simp+decide (disch:=first|exact D3 h6 h7 h8|fail) only[go_sem,↓reduceIte,h6,h7,h8]
   refine Qh (a.length-(i+1)) (by omega) ⟨i+1,1,out++[d],rfl,by omega,by omega,by simp[hol],?_,hst,?_⟩
   ·rw[Qbl];exact⟨hout,by intro z hz;simp at hz;omega⟩
   ·simp+decide (disch:=first|exact D0|fail) only[go_sem,↓reduceIte]
    simp
  ·obtain⟨d,hd1⟩:∃d:Nat,(dg a i:Int)-(dg b i:Int)-(c:Int)=d:=⟨((dg a i:Int)-(dg b i:Int)-(c:Int)).toNat,by omega⟩
   have hst:=step d 0 (by omega) (by omega) (by omega)
   simp+decide (disch:=first|exact D4 h6 h7 h8 hd1|fail) only[go_sem,↓reduceIte,h6,h7,h8,hd1]
   rw[Qai (f:=fun(x:Nat)=> .int .u16 x) (y:=d) (xs:=out) (ty':=109) (fz:=false) (T1 hh) (by simp+decide (disch:=first|omega|rfl|(simp+decide only[go_sem,↓reduceIte,Nat.mod_eq_of_lt (by omega:d<65536)]<;>rfl)|fail) only[go_sem,↓reduceIte,Nat.mod_eq_of_lt (by omega:d<65536)]) (by omega) rfl (by omega) (by omega)]
   simp+decide (disch:=first|exact D3 h6 h7 h8|fail) only[go_sem,↓reduceIte,h6,h7,h8]
   refine Qh (a.length-(i+1)) (by omega) ⟨i+1,0,out++[d],rfl,by omega,by omega,by simp[hol],?_,hst,?_⟩
   ·rw[Qbl];exact⟨hout,by intro z hz;simp at hz;omega⟩
   ·simp+decide (disch:=first|exact D0|fail) only[go_sem,↓reduceIte]
    simp
 ·obtain rfl:i=a.length:=by omega
  have hbz:val (b.drop a.length)=0:=Qhw (by have:=Qev ha;omega)
  have hbs:=Qmf b a.length
  rw[hbz,Nat.mul_zero,Nat.add_zero]at hbs
  rw[List.take_length,<-hbs]at hv
  have hvo:=Qev hout
  rw[hol]at hvo
  have hc0:c=0:=by
   match c,hc1 with
   |0,_=>rfl
   |1,_=>exfalso;have:=Qev ha;omega
  subst hc0
  simp+decide (disch:=first|exact D2 h6 hh|fail) only[go_sem,↓reduceIte,h6,hh]
  refine Qff hP (Qbn hout (by omega)) (by simp+decide (disch:=first|exact E1 hh|fail) only[go_sem,↓reduceIte,hh,Qz,List.contains_cons,List.contains_nil,List.flatMap_cons,List.flatMap_nil,List.append_nil];simp[List.take_of_length_le]) rfl fun hp'=> ?_
  simp+decide (disch:=first|exact D0|fail) only[go_sem,↓reduceIte]
  exact Qdd rfl rfl rfl (Qfg (congrArg PV.num (by omega))) (Q8 _)
theorem Qkz{a b:List Nat}(ha:Qi a)(hb:Qi b)(hla:a.length<2^40)(hlb:b.length<2^40):Qd Tryz.prog 67 [PV.nat a,PV.nat b] (· =PV.num (val a*val b)):=by
 refine Qf Ql Tryz.func67 rfl Qafm (by simp[c67]) fun C hP=> ?_;simp only[c67,Zo,Zg,Zm,Zc,Zf,Zl,Zh,Zs,Zi,Zb,Zk,Zn,Zu,Zq,Zr,Zz]
 simp+decide (disch:=first|exact D0|fail) only[go_sem,↓reduceIte]
 refine Qw (by repeat (first|exact Qu|exact Qn|exact Qo|exact Qp|exact Qq|apply Qm|apply Qt|apply Qy|apply Q5|apply Q6|apply Qk|apply Q2)) [(6,9),(17,62)] [] (fun m J hp=>∃(i:Nat)(L:List Nat),m=a.length-i/\i<=a.length/\L.length=a.length+b.length+1/\Qi L/\val L=val (a.take i)*val b/\J 6= .int .i64 i/\hp=Qx hp0 16 ⟨1,109,Qay L,false⟩) a.length ?_ ?_
 ·refine⟨0,List.replicate (a.length+b.length+1) 0,rfl,by omega,by simp,?_,by simp[val,Qta],?_⟩
  ·intro z hz;rw[List.eq_of_mem_replicate hz];omega
  ·simp+decide (disch:=first|exact D0|fail) only[go_sem,↓reduceIte]
   simp
 rintro _ J _ ⟨i,L,rfl,hi,hLl,hL,hv,h6,rfl⟩
 simp+decide (disch:=first|exact D1 h6|fail) only[go_sem,↓reduceIte,h6]
 refine Qb (fun hg=> ?_) (fun hg=> ?_)
 ·have hi':i<a.length:=by omega
  have hai:=Qaj ha hi'
  have hts:=Qew hi'
  have hz0:dg L (i+b.length)=0:=by
   apply Q0y
   apply Qhw
   rw[hv,Nat.pow_add]
   have h1:=Qdj ha i (by omega)
   have h2:=Qev hb
   exact Nat.mul_lt_mul'' h1 h2
  generalize hxx:a[i]=ai at *
  simp+decide (disch:=first|exact D2 h6 hxx|fail) only[go_sem,↓reduceIte,h6,hxx]
  refine Qw (by repeat (first|exact Qu|exact Qn|exact Qo|exact Qp|exact Qq|apply Qm|apply Qt|apply Qy|apply Q5|apply Q6|apply Qk|apply Q2)) [(7,9),(23,62)] [] (fun m J hp=>∃(k c:Nat)(M:List Nat),m=b.length+1-k/\k<=b.length+1/\(k<=b.length∨c=0)/\c<65536/\M.length=L.length/\Qi M/\val M+65536^(i+k)*(c+ai*val (b.drop k))=val L+65536^i*(ai*val b)/\(∀j,i+k<=j->dg M j=dg L j)/\J 7= .int .u64 c/\J 8= .int .i64 k/\hp=Qx hp0 16 ⟨1,109,Qay M,false⟩) (b.length+1) ?_ ?_
  ·refine⟨0,0,L,rfl,by omega,by omega,by omega,rfl,hL,by simp,fun _ _=>rfl,?_⟩
   simp+decide (disch:=first|exact D1 h6|fail) only[go_sem,↓reduceIte,h6]
   simp
  rintro _ J2 _ ⟨k,c,M,rfl,hk,hk2,hc,hMl,hM,hw,hsame,h7,h8,rfl⟩
  have e2:=Qgk b k
  have d2:=Qme hb k
  simp+decide (disch:=first|exact D3 h6 h7 h8|fail) only[go_sem,↓reduceIte,h6,h7,h8]
  refine Qv (fun hkb=> ?_) (fun hkb=> ?_)
  ·have hkb':k<=b.length:=by omega
   have hj:i+k<M.length:=by omega
   have hx:=Qaj hM hj
   have hset:=fun v=>Qzg (v:=v) hj
   have hmx:=Qek hai d2
   have hdx:dg M (i+k)=M[i+k]:=Qbd hj
   generalize hxm:M[i+k]=x at *
   have hdm:=Nat.div_add_mod (x+ai*dg b k+c) 65536
   have hnew:=Qtl (T:=val L+65536^i*(ai*val b)) (hset ((x+ai*dg b k+c)%65536)) (by rw[<-e2];exact hw) hdm
   have hr:=Nat.mod_lt (x+ai*dg b k+c) (show 0<65536 by omega)
   have hq:(x+ai*dg b k+c)/65536<65536:=by omega
   have hq0:¬k<b.length->(x+ai*dg b k+c)/65536=0:=fun h=>by
    have z1:dg b k=0:=by rw[dg,Qbe (by omega)]
    have z2:x=0:=by rw[<-hdx,hsame _ (Nat.le_refl _),show i+k=i+b.length by omega,hz0]
    rw[z1,z2];omega
   have hlims:Qi (M.set (i+k) ((x+ai*dg b k+c)%65536)):=fun z hz=>by
    rcases List.mem_or_eq_of_mem_set hz with h|h
    ·exact hM z h
    ·omega
   have e5:IntKind.u64.wrap ((ai*dg b k:Nat):Int)=((ai*dg b k:Nat):Int):=Qem (by omega) (by omega)
   simp+decide (disch:=first|exact D5 h6 h7 h8 hxx hxm|fail) only[go_sem,↓reduceIte,h6,h7,h8,hxx,hxm]
   refine Qa hP (Qbg hb (by omega)) rfl rfl rfl ?_
   simp+decide (disch:=first|omega|rfl|(simp+decide only[go_sem,↓reduceIte,h6,h7,h8,hxx,hxm,e5,Nat.mod_mod]<;>rfl)|fail) only[go_sem,↓reduceIte,h6,h7,h8,hxx,hxm,e5,Nat.mod_mod]
   refine Qh (b.length+1-(k+1)) (by omega) ⟨k+1,(x+ai*dg b k+c)/65536,M.set (i+k) ((x+ai*dg b k+c)%65536),rfl,by omega,?_,hq,by rw[List.length_set];exact hMl,hlims,?_,?_,?_⟩
   ·by_cases h:k<b.length
    ·omega
    ·exact .inr (hq0 h)
   ·rw[<-Nat.add_assoc,Nat.pow_succ];exact hnew
   ·intro j hj2
    rw[Qtm (by omega)];exact hsame j (by omega)
   ·simp+decide (disch:=first|exact D3 h6 h7 h8|fail) only[go_sem,↓reduceIte,h6,h7,h8]
  simp+decide (disch:=first|exact D3 h6 h7 h8|fail) only[go_sem,↓reduceIte,h6,h7,h8]
  refine Qb (fun hc0=> ?_) (fun hc0=> ?_)
  ·have hkb':k<=b.length:=by omega
   have hj:i+k<M.length:=by omega
   have hx:=Qaj hM hj
   have hset:=fun v=>Qzg (v:=v) hj
   have hmx:=Qek hai d2
   have hdx:dg M (i+k)=M[i+k]:=Qbd hj
   generalize hxm:M[i+k]=x at *
   have hdm:=Nat.div_add_mod (x+ai*dg b k+c) 65536
   have hnew:=Qtl (T:=val L+65536^i*(ai*val b)) (hset ((x+ai*dg b k+c)%65536)) (by rw[<-e2];exact hw) hdm
   have hr:=Nat.mod_lt (x+ai*dg b k+c) (show 0<65536 by omega)
   have hq:(x+ai*dg b k+c)/65536<65536:=by omega
   have hq0:¬k<b.length->(x+ai*dg b k+c)/65536=0:=fun h=>by
    have z1:dg b k=0:=by rw[dg,Qbe (by omega)]
    have z2:x=0:=by rw[<-hdx,hsame _ (Nat.le_refl _),show i+k=i+b.length by omega,hz0]
    rw[z1,z2];omega
   have hlims:Qi (M.set (i+k) ((x+ai*dg b k+c)%65536)):=fun z hz=>by
    rcases List.mem_or_eq_of_mem_set hz with h|h
    ·exact hM z h
    ·omega
   have e5:IntKind.u64.wrap ((ai*dg b k:Nat):Int)=((ai*dg b k:Nat):Int):=Qem (by omega) (by omega)
   simp+decide (disch:=first|exact D5 h6 h7 h8 hxx hxm|fail) only[go_sem,↓reduceIte,h6,h7,h8,hxx,hxm]
   refine Qa hP (Qbg hb (by omega)) rfl rfl rfl ?_
   simp+decide (disch:=first|omega|rfl|(simp+decide only[go_sem,↓reduceIte,h6,h7,h8,hxx,hxm,e5,Nat.mod_mod]<;>rfl)|fail) only[go_sem,↓reduceIte,h6,h7,h8,hxx,hxm,e5,Nat.mod_mod]
   refine Qh (b.length+1-(k+1)) (by omega) ⟨k+1,(x+ai*dg b k+c)/65536,M.set (i+k) ((x+ai*dg b k+c)%65536),rfl,by omega,?_,hq,by rw[List.length_set];exact hMl,hlims,?_,?_,?_⟩
   ·by_cases h:k<b.length
    ·omega
    ·exact .inr (hq0 h)
   ·rw[<-Nat.add_assoc,Nat.pow_succ];exact hnew
   ·intro j hj2
    rw[Qtm (by omega)];exact hsame j (by omega)
   ·simp+decide (disch:=first|exact D3 h6 h7 h8|fail) only[go_sem,↓reduceIte,h6,h7,h8]
  ·obtain rfl:c=0:=by omega
   rw[List.drop_of_length_le (by omega)]at hw
   simp only[val,Nat.mul_zero,Nat.add_zero]at hw
   simp+decide (disch:=first|exact D3 h6 h7 h8|fail) only[go_sem,↓reduceIte,h6,h7,h8]
   simp (disch:=decide) only[Qbi,Qfy]
   refine Qh (a.length-(i+1)) (by omega) ⟨i+1,M,rfl,by omega,by omega,hM,?_,?_⟩
   ·rw[hw,hv,hts,Nat.add_mul,Nat.mul_assoc]
   ·simp+decide (disch:=first|exact D0|fail) only[go_sem,↓reduceIte]
 ·obtain rfl:i=a.length:=by omega
  rw[List.take_length]at hv
  simp+decide (disch:=first|exact D0|fail) only[go_sem,↓reduceIte]
  refine Qff hP (Qbn hL (by omega)) (by simp+decide (disch:=first|exact E0|fail) only[go_sem,↓reduceIte,Qz,List.contains_cons,List.contains_nil,List.flatMap_cons,List.flatMap_nil,List.append_nil];simp[List.take_of_length_le,hLl]) rfl fun hp'=> ?_
  simp+decide (disch:=first|exact D0|fail) only[go_sem,↓reduceIte]
  exact Qc (by rw[hv]) rfl
end Go.Proofs.YtdacdnoebgcjhaaGreat
namespace Go.Proofs.YtdacdnoebgcjhaaGreat
open Go Go.FW
set_option linter.unusedSimpArgs false
set_option linter.unusedVariables false
set_option maxRecDepth 100000
theorem Qiv{x y:Nat}(hx:nl x<2^40)(hy:nl y<2^40):Qd Tryz.prog 67 [PV.num x,PV.num y] (· =PV.num (x*y)):=by
 have:=Qkz (Qj x) (Qj y) hx hy
 rwa[Q3,Q3]at this
theorem Q1f{x y:Nat}(hx:nl x<2^42)(hy:nl y<2^42):Qd Tryz.prog 118 [PV.num x,PV.num y] (· = .int .i64 (Qdc x y)):=by
 have:=Qh0 (Qj x) (Qj y) hx hy
 rwa[Q3,Q3]at this
theorem Qre{x y:Nat}(hx:nl x<2^40)(hy:nl y<2^40)(h:y<=x):Qd Tryz.prog 100 [PV.num x,PV.num y] (· = .tup [PV.num (x-y),.int .i64 0]):=by
 have:=Qky (Qj x) (Qj y) hx hy
 rwa[Q3,Q3,if_neg (by omega)]at this
theorem Qzn{x y:Nat}:Qdc x y<=0↔x<=y:=by unfold Qdc;split<;>(try split)<;>omega
theorem Qmx{x y:Nat}(hx:nl x<2^38)(hy:nl y<2^38)(hy0:0<y):Qd Tryz.prog 99 [PV.num x,PV.num y] (· = .int .u64 (min 65535 (x/y):Nat)):=by
 have hq2:∀(n d:Nat) fr hp K,n<18446744073709551616->Qau .quo false (.int .u64 (n:Int)) (.int .u64 2) d fr hp K=K (upd fr d (.int .u64 ((n/2:Nat):Int))) hp:=fun n d fr hp K h=>by
  rw[show(2:Int)=((2:Nat):Int)from rfl,Qi4 (by omega) h]
 refine Qf Ql Tryz.func99 rfl Qafn (by simp[c99]) fun C hP=> ?_;simp only[c99,Zo,Zg,Zm,Zc,Zf,Zl,Zh,Zs,Zi,Zb,Zk,Zn,Zu,Zq,Zr,Zz]
 simp+decide (disch:=first|exact D0|fail) only[go_sem,↓reduceIte]
 refine Qw (by repeat (first|exact Qu|exact Qn|exact Qo|exact Qp|exact Qq|apply Qm|apply Qt|apply Qy|apply Q5|apply Q6|apply Qk|apply Q2)) [(5,25)] [] (fun m J hp=>∃lo hi:Nat,m=hi-lo/\lo<=hi/\hi<=65535/\y*lo<=x/\(hi=65535∨x<y*(hi+1))/\J 5= .int .u64 lo/\J 6= .int .u64 hi) 65535 ?_ ?_
 ·refine⟨0,65535,rfl,by omega,by omega,by omega,.inl rfl,?_⟩
  simp+decide (disch:=first|exact D0|fail) only[go_sem,↓reduceIte]
  simp
 rintro _ J h ⟨lo,hi,rfl,h1,h2,h3,h4,h5,h6⟩
 simp+decide (disch:=first|exact D2 h5 h6|fail) only[go_sem,↓reduceIte,h5,h6]
 refine Qb (fun hg=> ?_) (fun hg=> ?_)
 ·have hsz:nl ((lo+hi+1)/2)<=4:=Qen (by omega)
  have hm:=Qcz y ((lo+hi+1)/2)
  generalize hmid:(lo+hi+1)/2=mid at *
  simp+decide (disch:=first|exact D4 h5 h6 hq2 hmid|fail) only[go_sem,↓reduceIte,h5,h6,hq2,hmid]
  refine Qa hP (Qcq (n:=mid) (by omega)) rfl rfl rfl ?_
  simp+decide (disch:=first|exact D2 h5 h6|fail) only[go_sem,↓reduceIte,h5,h6]
  refine Qa hP (Qiv (x:=y) (y:=mid) (by omega) (by omega)) rfl rfl rfl ?_
  simp+decide (disch:=first|exact D2 h5 h6|fail) only[go_sem,↓reduceIte,h5,h6]
  refine Qa hP (Q1f (x:=y*mid) (y:=x) (by omega) (by omega)) rfl rfl rfl ?_
  simp+decide (disch:=first|exact D2 h5 h6|fail) only[go_sem,↓reduceIte,h5,h6]
  refine Qb (fun hc=> ?_) (fun hc=> ?_)
  ·rw[Qzn]at hc
   simp+decide (disch:=first|exact D2 h5 h6|fail) only[go_sem,↓reduceIte,h5,h6]
   refine Qh (hi-mid) (by omega) ⟨mid,hi,rfl,by omega,h2,hc,h4,?_⟩
   simp+decide (disch:=first|exact D1 h6|fail) only[go_sem,↓reduceIte,h6]
  ·rw[Qzn]at hc
   obtain⟨n,rfl⟩:∃n,mid=n+1:=⟨mid-1,by omega⟩
   have e:((n+1:Nat):Int)-1=n:=by omega
   simp+decide (disch:=first|exact D3 h5 h6 e|fail) only[go_sem,↓reduceIte,h5,h6,e]
   refine Qh (n-lo) (by omega) ⟨lo,n,rfl,by omega,by omega,h3,.inr (by omega),?_⟩
   simp+decide (disch:=first|exact D1 h5|fail) only[go_sem,↓reduceIte,h5]
 ·obtain rfl:lo=hi:=by omega
  simp+decide (disch:=first|exact D1 h5|fail) only[go_sem,↓reduceIte,h5]
  refine Qc ?_ rfl
  have hle:lo<=x/y:=(Nat.le_div_iff_mul_le hy0).2 (by rw[Nat.mul_comm];exact h3)
  rcases h4 with rfl|h4
  ·rw[Nat.min_eq_left hle]
  ·have:x/y<lo+1:=(Nat.div_lt_iff_lt_mul hy0).2 (by rw[Nat.mul_comm];exact h4)
   congr 2;omega
theorem Qlm{a b:List Nat}(ha:Qi a)(hb:Qi b)(hla:a.length<2^36)(hlb:b.length<2^36):Qd Tryz.prog 69 [PV.nat a,PV.nat b]
  (· =if val b=0 then .tup [PV.num 0,PV.num 0,.int .i64 3]else .tup [PV.num (val a/val b),PV.num (val a%val b),.int .i64 0]):=by
 have hda:=Qal ha
 have hdb:=Qal hb
 refine Qf Ql Tryz.func69 rfl Qafo (by simp[c69]) fun C hP=> ?_;simp only[c69,Zo,Zg,Zm,Zc,Zf,Zl,Zh,Zs,Zi,Zb,Zk,Zn,Zu,Zq,Zr,Zz]
 simp+decide (disch:=first|exact D0|fail) only[go_sem,↓reduceIte]
 refine Qa hP (Qbn ha (by omega)) rfl rfl rfl ?_
 simp+decide (disch:=first|exact D0|fail) only[go_sem,↓reduceIte]
 refine Qa hP (Qbn hb (by omega)) rfl rfl rfl ?_
 simp+decide (disch:=first|exact D0|fail) only[go_sem,↓reduceIte]
 generalize val a=x at *
 generalize val b=y at *
 unfold nl at hda hdb
 refine Qb (fun hz=> ?_) (fun hz=> ?_)
 ·have hy0:y=0:=Qbq.1 (Qco (by omega))
  simp+decide (disch:=first|exact D0|fail) only[go_sem,↓reduceIte]
  rw[if_pos hy0]
  exact Qnd rfl rfl rfl rfl Qhd Qhd (Q8 _)
 have hy0:y≠0:=fun h=>by rw[h,Qax]at hz;simp at hz
 rw[if_neg hy0]
 have hyp:0<y:=Nat.pos_of_ne_zero hy0
 have hxl:=Qj x
 have hyl:=Qj y
 have hxv:=Q3 x
 have hyv:=Q3 y
 simp+decide (disch:=first|exact D0|fail) only[go_sem,↓reduceIte]
 refine Qan (fun h1=> ?_) (fun h1=> ?_)
 ·simp+decide (disch:=first|exact D0|fail) only[go_sem,↓reduceIte]
  refine Qb (fun h2=> ?_) (fun h2=> ?_)
  ·have hx64:=Qj6.1 (show nl x<=4 by unfold nl;omega)
   have hy64:=Qj6.1 (show nl y<=4 by unfold nl;omega)
   have hq:=Nat.div_le_self x y
   have hr:=Nat.mod_lt x hyp
   simp+decide (disch:=first|exact D0|fail) only[go_sem,↓reduceIte]
   refine Qa hP (Qf8 hxl (by omega)) rfl rfl rfl ?_
   simp+decide (disch:=first|exact D1 hxv|fail) only[go_sem,↓reduceIte,hxv]
   refine Qa hP (Qf8 hyl (by omega)) rfl rfl rfl ?_
   simp+decide (disch:=first|omega|rfl|(simp+decide only[go_sem,↓reduceIte,hxv,hyv,Qi4]<;>rfl)|fail) only[go_sem,↓reduceIte,hxv,hyv,Qi4]
   refine Qa hP (Qcq (n:=x/y) (by omega)) rfl rfl rfl ?_
   simp+decide (disch:=first|exact D0|fail) only[go_sem,↓reduceIte]
   refine Qa hP (Qf8 hxl (by omega)) rfl rfl rfl ?_
   simp+decide (disch:=first|exact D1 hxv|fail) only[go_sem,↓reduceIte,hxv]
   refine Qa hP (Qf8 hyl (by omega)) rfl rfl rfl ?_
   simp+decide (disch:=first|omega|rfl|(simp+decide only[go_sem,↓reduceIte,hxv,hyv,Qc3]<;>rfl)|fail) only[go_sem,↓reduceIte,hxv,hyv,Qc3]
   refine Qa hP (Qcq (n:=x%y) (by omega)) rfl rfl rfl ?_
   simp+decide (disch:=first|exact D0|fail) only[go_sem,↓reduceIte]
   exact Qnd rfl rfl rfl rfl (Q8 _) (Q8 _) (Q8 _)
  ·have hsep:=trivial
   simp+decide (disch:=first|exact D0|fail) only[go_sem,↓reduceIte]
   refine Qi7 7 1 T0 ?_
   refine Qi7 8 1 T0 ?_
   refine Qwi (by repeat (first|exact Qu|exact Qn|exact Qo|exact Qp|exact Qq|apply Qm|apply Qt|apply Qy|apply Q5|apply Q6|apply Qk|apply Q2)) [(7,10),(41,69)] [49,51,58,60] (fun k J hp=>∃qs,k<=(dig x).length/\qs.length=(dig x).length-k/\Qi qs/\val qs=val ((dig x).drop k)/y/\J 7= .sl 1 (Qay qs)/\J 8=PV.num (val ((dig x).drop k)%y)/\J 9= .int .i64 ((k:Int)-1)) (dig x).length ?_ ?_
   ·refine⟨[],Nat.le_refl _,by simp,Qcb,by simp[val],?_⟩
    simp+decide (disch:=first|exact D0|fail) only[go_sem,↓reduceIte]
    simp[val,Qax]
   rintro k J h ⟨qs,hk,hql,hqs,hqv,h7,h8,h9⟩
   simp+decide (disch:=first|exact D3 h7 h8 h9|fail) only[go_sem,↓reduceIte,h7,h8,h9]
   have hr:=Nat.mod_lt (val ((dig x).drop k)) hyp
   refine Qb (fun hg=> ?_) (fun hg=> ?_)
   ·obtain _|n:=k
    ·omega
    have hn:n<(dig x).length:=by omega
    have han:=Qaj hxl hn
    have e:((n+1:Nat):Int)-1=n:=by omega
    have hst:=Qq0 (x:=(dig x)[n]) hyp hqv
    rw[<-Qca hn]at hst
    generalize hV:val ((dig x).drop (n+1))%y=r at *
    generalize hxx:(dig x)[n]=xi at *
    have hrl:(dig r).length<=(dig y).length:=Qa7 (Nat.le_of_lt hr)
    have hlim:Qi ([xi]++dig r):=by rw[Qbl];exact⟨by intro z hz;simp at hz;omega,Qj r⟩
    have hvl:val ([xi]++dig r)=r*65536+xi:=by rw[Qbx,Q3];simp[val];omega
    have hlt:(r*65536+xi)/y<65536:=by
     rw[Nat.div_lt_iff_lt_mul hyp]
     have:(r+1)*65536<=y*65536:=Nat.mul_le_mul_right _ hr
     omega
    have hnR:nl (r*65536+xi)<=(dig y).length+1:=by
     have:=Qal hlim
     rw[hvl,List.length_append]at this
     simp at this;omega
    have hdm:=Nat.div_add_mod (r*65536+xi) y
    have hnm:nl (y*((r*65536+xi)/y))<=(dig y).length+1:=Nat.le_trans (Qa7 (by omega)) hnR
    have hn4:nl ((r*65536+xi)/y)<=4:=Qen (by omega)
    have hsub:r*65536+xi-y*((r*65536+xi)/y)=(r*65536+xi)%y:=by omega
    simp+decide (disch:=first|exact D5 h7 h8 h9 e hxx|fail) only[go_sem,↓reduceIte,h7,h8,h9,e,hxx]
    rw[Qcd (f:=fun(x:Nat)=> .int .u16 x) (xs:=[xi]) (ys:=dig r) (n:=1) Tr0 rfl (by omega) (by omega) (by omega)]
    simp+decide (disch:=first|exact D5 h7 h8 h9 e hxx|fail) only[go_sem,↓reduceIte,h7,h8,h9,e,hxx]
    refine Qc2 hP (Qbn (l:=[xi]++dig r) hlim (by simp;omega)) (by simp+decide (disch:=first|exact E0|fail) only[go_sem,↓reduceIte,Qz,List.contains_cons,List.contains_nil,List.flatMap_cons,List.flatMap_nil,List.append_nil];simp[Nat.add_comm 1,List.take_of_length_le]) rfl ?_
    rw[hvl]
    simp+decide (disch:=first|exact D5 h7 h8 h9 e hxx|fail) only[go_sem,↓reduceIte,h7,h8,h9,e,hxx]
    refine Qa hP (Qmx (x:=r*65536+xi) (y:=y) (by omega) (by unfold nl;omega) hyp) rfl rfl rfl ?_
    rw[Nat.min_eq_right (by omega:(r*65536+xi)/y<=65535)]
    generalize hD:(r*65536+xi)/y=D at *
    simp+decide (disch:=first|omega|rfl|(simp+decide only[go_sem,↓reduceIte,h7,h8,h9,e,hxx,Nat.mod_eq_of_lt hlt]<;>rfl)|fail) only[go_sem,↓reduceIte,h7,h8,h9,e,hxx,Nat.mod_eq_of_lt hlt]
    rw[Qcd (f:=fun(x:Nat)=> .int .u16 x) (xs:=[D]) (ys:=qs) (n:=1) Tr0 rfl (by omega) (by omega) (by omega)]
    simp+decide (disch:=first|exact D5 h7 h8 h9 e hxx|fail) only[go_sem,↓reduceIte,h7,h8,h9,e,hxx]
    refine Qa hP (Qcq (n:=D) (by omega)) rfl rfl rfl ?_
    simp+decide (disch:=first|exact D4 h7 h8 h9 e|fail) only[go_sem,↓reduceIte,h7,h8,h9,e]
    refine Qa hP (Qiv (x:=y) (y:=D) (by unfold nl;omega) (by omega)) rfl rfl rfl ?_
    simp+decide (disch:=first|exact D4 h7 h8 h9 e|fail) only[go_sem,↓reduceIte,h7,h8,h9,e]
    refine Qa hP (Qre (x:=r*65536+xi) (y:=y*D) (by omega) (by omega) (by omega)) rfl rfl rfl ?_
    rw[hsub]
    simp+decide (disch:=first|exact D4 h7 h8 h9 e|fail) only[go_sem,↓reduceIte,h7,h8,h9,e]
    refine Qqz 7 n rfl ?_ (by omega) ⟨D::qs,by omega,by simp;omega,?_,?_,?_⟩
    ·simp+decide (disch:=first|exact E0|fail) only[go_sem,↓reduceIte,Qz,List.contains_cons,List.contains_nil,List.flatMap_cons,List.flatMap_nil,List.append_nil]
    ·rw[Qas];exact⟨hlt,hqs⟩
    ·rw[val,hst.1]
    ·simp+decide (disch:=first|exact E1 hst.2|fail) only[go_sem,↓reduceIte,Qz,List.contains_cons,List.contains_nil,List.flatMap_cons,List.flatMap_nil,List.append_nil,hst.2]
     simp[Nat.add_comm 1,List.take_of_length_le]
   ·obtain rfl:k=0:=by omega
    rw[List.drop_zero,hxv]at hqv h8
    simp+decide (disch:=first|exact D2 h7 h8|fail) only[go_sem,↓reduceIte,h7,h8]
    refine Qa hP (Qbn hqs (by omega)) rfl rfl rfl ?_
    simp+decide (disch:=first|exact D2 h7 h8|fail) only[go_sem,↓reduceIte,h7,h8]
    exact Qnd rfl rfl rfl rfl (Qfg (by rw[hqv])) (Q8 _) (Q8 _)
 ·have hsep:=trivial
  simp+decide (disch:=first|exact D0|fail) only[go_sem,↓reduceIte]
  refine Qi7 7 1 T0 ?_
  refine Qi7 8 1 T0 ?_
  refine Qwi (by repeat (first|exact Qu|exact Qn|exact Qo|exact Qp|exact Qq|apply Qm|apply Qt|apply Qy|apply Q5|apply Q6|apply Qk|apply Q2)) [(7,10),(41,69)] [49,51,58,60] (fun k J hp=>∃qs,k<=(dig x).length/\qs.length=(dig x).length-k/\Qi qs/\val qs=val ((dig x).drop k)/y/\J 7= .sl 1 (Qay qs)/\J 8=PV.num (val ((dig x).drop k)%y)/\J 9= .int .i64 ((k:Int)-1)) (dig x).length ?_ ?_
  ·refine⟨[],Nat.le_refl _,by simp,Qcb,by simp[val],?_⟩
   simp+decide (disch:=first|exact D0|fail) only[go_sem,↓reduceIte]
   simp[val,Qax]
  rintro k J h ⟨qs,hk,hql,hqs,hqv,h7,h8,h9⟩
  simp+decide (disch:=first|exact D3 h7 h8 h9|fail) only[go_sem,↓reduceIte,h7,h8,h9]
  have hr:=Nat.mod_lt (val ((dig x).drop k)) hyp
  refine Qb (fun hg=> ?_) (fun hg=> ?_)
  ·obtain _|n:=k
   ·omega
   have hn:n<(dig x).length:=by omega
   have han:=Qaj hxl hn
   have e:((n+1:Nat):Int)-1=n:=by omega
   have hst:=Qq0 (x:=(dig x)[n]) hyp hqv
   rw[<-Qca hn]at hst
   generalize hV:val ((dig x).drop (n+1))%y=r at *
   generalize hxx:(dig x)[n]=xi at *
   have hrl:(dig r).length<=(dig y).length:=Qa7 (Nat.le_of_lt hr)
   have hlim:Qi ([xi]++dig r):=by rw[Qbl];exact⟨by intro z hz;simp at hz;omega,Qj r⟩
   have hvl:val ([xi]++dig r)=r*65536+xi:=by rw[Qbx,Q3];simp[val];omega
   have hlt:(r*65536+xi)/y<65536:=by
    rw[Nat.div_lt_iff_lt_mul hyp]
    have:(r+1)*65536<=y*65536:=Nat.mul_le_mul_right _ hr
    omega
   have hnR:nl (r*65536+xi)<=(dig y).length+1:=by
    have:=Qal hlim
    rw[hvl,List.length_append]at this
    simp at this;omega
   have hdm:=Nat.div_add_mod (r*65536+xi) y
   have hnm:nl (y*((r*65536+xi)/y))<=(dig y).length+1:=Nat.le_trans (Qa7 (by omega)) hnR
   have hn4:nl ((r*65536+xi)/y)<=4:=Qen (by omega)
   have hsub:r*65536+xi-y*((r*65536+xi)/y)=(r*65536+xi)%y:=by omega
   simp+decide (disch:=first|exact D5 h7 h8 h9 e hxx|fail) only[go_sem,↓reduceIte,h7,h8,h9,e,hxx]
   rw[Qcd (f:=fun(x:Nat)=> .int .u16 x) (xs:=[xi]) (ys:=dig r) (n:=1) Tr0 rfl (by omega) (by omega) (by omega)]
   simp+decide (disch:=first|exact D5 h7 h8 h9 e hxx|fail) only[go_sem,↓reduceIte,h7,h8,h9,e,hxx]
   refine Qc2 hP (Qbn (l:=[xi]++dig r) hlim (by simp;omega)) (by simp+decide (disch:=first|exact E0|fail) only[go_sem,↓reduceIte,Qz,List.contains_cons,List.contains_nil,List.flatMap_cons,List.flatMap_nil,List.append_nil];simp[Nat.add_comm 1,List.take_of_length_le]) rfl ?_
   rw[hvl]
   simp+decide (disch:=first|exact D5 h7 h8 h9 e hxx|fail) only[go_sem,↓reduceIte,h7,h8,h9,e,hxx]
   refine Qa hP (Qmx (x:=r*65536+xi) (y:=y) (by omega) (by unfold nl;omega) hyp) rfl rfl rfl ?_
   rw[Nat.min_eq_right (by omega:(r*65536+xi)/y<=65535)]
   generalize hD:(r*65536+xi)/y=D at *
   simp+decide (disch:=first|omega|rfl|(simp+decide only[go_sem,↓reduceIte,h7,h8,h9,e,hxx,Nat.mod_eq_of_lt hlt]<;>rfl)|fail) only[go_sem,↓reduceIte,h7,h8,h9,e,hxx,Nat.mod_eq_of_lt hlt]
   rw[Qcd (f:=fun(x:Nat)=> .int .u16 x) (xs:=[D]) (ys:=qs) (n:=1) Tr0 rfl (by omega) (by omega) (by omega)]
   simp+decide (disch:=first|exact D5 h7 h8 h9 e hxx|fail) only[go_sem,↓reduceIte,h7,h8,h9,e,hxx]
   refine Qa hP (Qcq (n:=D) (by omega)) rfl rfl rfl ?_
   simp+decide (disch:=first|exact D4 h7 h8 h9 e|fail) only[go_sem,↓reduceIte,h7,h8,h9,e]
   refine Qa hP (Qiv (x:=y) (y:=D) (by unfold nl;omega) (by omega)) rfl rfl rfl ?_
   simp+decide (disch:=first|exact D4 h7 h8 h9 e|fail) only[go_sem,↓reduceIte,h7,h8,h9,e]
   refine Qa hP (Qre (x:=r*65536+xi) (y:=y*D) (by omega) (by omega) (by omega)) rfl rfl rfl ?_
   rw[hsub]
   simp+decide (disch:=first|exact D4 h7 h8 h9 e|fail) only[go_sem,↓reduceIte,h7,h8,h9,e]
   refine Qqz 7 n rfl ?_ (by omega) ⟨D::qs,by omega,by simp;omega,?_,?_,?_⟩
   ·simp+decide (disch:=first|exact E0|fail) only[go_sem,↓reduceIte,Qz,List.contains_cons,List.contains_nil,List.flatMap_cons,List.flatMap_nil,List.append_nil]
   ·rw[Qas];exact⟨hlt,hqs⟩
   ·rw[val,hst.1]
   ·simp+decide (disch:=first|exact E1 hst.2|fail) only[go_sem,↓reduceIte,Qz,List.contains_cons,List.contains_nil,List.flatMap_cons,List.flatMap_nil,List.append_nil,hst.2]
    simp[Nat.add_comm 1,List.take_of_length_le]
  ·obtain rfl:k=0:=by omega
   rw[List.drop_zero,hxv]at hqv h8
   simp+decide (disch:=first|exact D2 h7 h8|fail) only[go_sem,↓reduceIte,h7,h8]
   refine Qa hP (Qbn hqs (by omega)) rfl rfl rfl ?_
   simp+decide (disch:=first|exact D2 h7 h8|fail) only[go_sem,↓reduceIte,h7,h8]
   exact Qnd rfl rfl rfl rfl (Qfg (by rw[hqv])) (Q8 _) (Q8 _)
end Go.Proofs.YtdacdnoebgcjhaaGreat
namespace Go.Proofs.YtdacdnoebgcjhaaGreat
open Go Go.FW
set_option linter.unusedSimpArgs false
set_option linter.unusedVariables false
set_option maxRecDepth 100000
theorem Quj{x y:Nat}(hx:nl x<2^36)(hy:nl y<2^36)(h0:y≠0):Qd Tryz.prog 69 [PV.num x,PV.num y] (· = .tup [PV.num (x/y),PV.num (x%y),.int .i64 0]):=by
 have:=Qlm (Qj x) (Qj y) hx hy
 rwa[Q3,Q3,if_neg h0]at this
theorem Qo3{a b:List Nat}(ha:Qi a)(hb:Qi b)(hla:a.length<2^36)(hlb:b.length<2^36):Qd Tryz.prog 64 [PV.nat a,PV.nat b] (· =PV.num (Nat.gcd (val a) (val b))):=by
 have hda:=Qal ha
 have hdb:=Qal hb
 refine Qf Ql Tryz.func64 rfl Qafp (by simp[c64]) fun C hP=> ?_;simp only[c64,Zo,Zg,Zm,Zc,Zf,Zl,Zh,Zs,Zi,Zb,Zk,Zn,Zu,Zq,Zr,Zz]
 simp+decide (disch:=first|exact D0|fail) only[go_sem,↓reduceIte]
 refine Qa hP (Qbn ha (by omega)) rfl rfl rfl ?_
 simp+decide (disch:=first|exact D0|fail) only[go_sem,↓reduceIte]
 refine Qa hP (Qbn hb (by omega)) rfl rfl rfl ?_
 simp+decide (disch:=first|exact D0|fail) only[go_sem,↓reduceIte]
 refine Qw (by repeat (first|exact Qu|exact Qn|exact Qo|exact Qp|exact Qq|apply Qm|apply Qt|apply Qy|apply Q5|apply Q6|apply Qk|apply Q2)) [(0,1),(5,7),(12,23)] [] (fun m J hp=>∃x y,m=y/\Nat.gcd x y=Nat.gcd (val a) (val b)/\nl x<2^36/\nl y<2^36/\J 0=PV.num x/\J 1=PV.num y/\hp=hp0) (val b) ?_ ?_
 ·refine⟨val a,val b,rfl,rfl,by omega,by omega,?_⟩
  simp+decide (disch:=first|exact D0|fail) only[go_sem,↓reduceIte]
 rintro y J _ ⟨x,_,rfl,hg,hx,hy,h0,h1,rfl⟩
 generalize Nat.gcd (val a) (val b)=g at *
 simp+decide (disch:=first|exact D2 h0 h1|fail) only[go_sem,↓reduceIte,h0,h1]
 refine Qb (fun hc=> ?_) (fun hc=> ?_)
 ·have hy0:y≠0:=fun h=>by rw[h,Qax]at hc;simp at hc
  have hmod:=Qa7 (Nat.le_of_lt (Nat.mod_lt x (Nat.pos_of_ne_zero hy0)))
  simp+decide (disch:=first|exact D2 h0 h1|fail) only[go_sem,↓reduceIte,h0,h1]
  refine Qa hP (Quj (x:=x) (y:=y) hx hy hy0) rfl rfl rfl ?_
  simp+decide (disch:=first|exact D2 h0 h1|fail) only[go_sem,↓reduceIte,h0,h1]
  refine Qh (x%y) (Nat.mod_lt _ (Nat.pos_of_ne_zero hy0)) ⟨y,x%y,rfl,?_,hy,by omega,?_⟩
  ·rw[<-hg,Nat.gcd_comm x y,Nat.gcd_rec y x,Nat.gcd_comm]
  ·simp+decide (disch:=first|exact D0|fail) only[go_sem,↓reduceIte]
 ·have hy0:y=0:=Qbq.1 (Qco (by omega))
  subst hy0
  simp+decide (disch:=first|exact D1 h0|fail) only[go_sem,↓reduceIte,h0]
  exact Qc (by rw[<-hg,Nat.gcd_zero_right]) rfl
end Go.Proofs.YtdacdnoebgcjhaaGreat
namespace Go.Proofs.YtdacdnoebgcjhaaGreat
open Go Go.FW
set_option linter.unusedSimpArgs false
set_option linter.unusedVariables false
set_option maxRecDepth 100000
theorem Qer{n:Bool}{a:List Nat}(ha:Qi a)(hla:a.length<2^42):Qd Tryz.prog 71 [.bool n,PV.nat a] (· =PV.zz (zv n a)):=by
 refine Qf Ql Tryz.func71 rfl Qaft (by simp[c71]) fun C hP=> ?_;simp only[c71,Zo,Zg,Zm,Zc,Zf,Zl,Zh,Zs,Zi,Zb,Zk,Zn,Zu,Zq,Zr,Zz]
 simp+decide (disch:=first|exact D0|fail) only[go_sem,↓reduceIte]
 refine Qa hP (Qbn ha hla) rfl rfl rfl ?_
 simp+decide (disch:=first|exact D0|fail) only[go_sem,↓reduceIte]
 refine Qft (fun hn=> ?_) (fun hn=> ?_)
 all_goals
  simp+decide (disch:=first|exact D0|fail) only[go_sem,↓reduceIte]
  refine Qa5 ?_
  simp+decide (disch:=first|exact D0|fail) only[go_sem,↓reduceIte]
  exact Qc (by have:=Qsh n (val a);rw[hn]at this;subst hn;simpa[zv]using this) rfl
theorem Qg3{n:Bool}{a:List Nat}(ha:Qi a)(hla:a.length<2^42):Qd Tryz.prog 70 [PV.zi n a] (· =PV.zz (zv n a)):=by
 refine Qf Ql Tryz.func70 rfl Qafu (by simp[c70]) fun C hP=> ?_;simp only[c70,Zo,Zg,Zm,Zc,Zf,Zl,Zh,Zs,Zi,Zb,Zk,Zn,Zu,Zq,Zr,Zz]
 simp+decide (disch:=first|exact D0|fail) only[go_sem,↓reduceIte]
 refine Qa hP (Qer ha hla) rfl rfl rfl ?_
 simp+decide (disch:=first|exact D0|fail) only[go_sem,↓reduceIte]
 refine Qa5 ?_
 simp+decide (disch:=first|exact D0|fail) only[go_sem,↓reduceIte]
 exact Qc rfl rfl
theorem Qo4{n m:Bool}{a b:List Nat}(ha:Qi a)(hb:Qi b)(hla:a.length<2^40)(hlb:b.length<2^40):Qd Tryz.prog 66 [PV.zi n a,PV.zi m b] (· =PV.zz (zv n a*zv m b)):=by
 have hr:nl (val a*val b)<2^42:=by have:=Qcz (val a) (val b);have:=Qal ha;have:=Qal hb;omega
 refine Qf Ql Tryz.func66 rfl Qafy (by simp[c66]) fun C hP=> ?_;simp only[c66,Zo,Zg,Zm,Zc,Zf,Zl,Zh,Zs,Zi,Zb,Zk,Zn,Zu,Zq,Zr,Zz]
 simp+decide (disch:=first|exact D0|fail) only[go_sem,↓reduceIte]
 refine Qa hP (Qkz ha hb hla hlb) rfl rfl rfl ?_
 simp+decide (disch:=first|exact D0|fail) only[go_sem,↓reduceIte]
 refine Qa hP (Qer (n:= !(n==m)) (Qj (val a*val b)) hr) rfl rfl rfl ?_
 simp+decide (disch:=first|exact D0|fail) only[go_sem,↓reduceIte]
 refine Qa5 ?_
 simp+decide (disch:=first|exact D0|fail) only[go_sem,↓reduceIte]
 exact Qc (congrArg PV.zz (by rw[Qia];unfold zv;cases n<;>cases m<;>simp[Int.neg_mul,Int.mul_neg])) rfl
theorem Q1g{x:Int}(h1: -9223372036854775808<=x)(h2:x<=9223372036854775807):Qd Tryz.prog 40 [.int .i64 x] (· =PV.zz x):=by
 refine Qf Ql Tryz.func40 rfl Qafv (by simp[c40]) fun C hP=> ?_;simp only[c40,Zo,Zg,Zm,Zc,Zf,Zl,Zh,Zs,Zi,Zb,Zk,Zn,Zu,Zq,Zr,Zz]
 simp+decide (disch:=first|exact D0|fail) only[go_sem,↓reduceIte]
 refine Qb (fun hc=> ?_) (fun hc=> ?_)
 ·obtain⟨y,hy⟩:∃y:Nat,x= -((y:Int)+1):=⟨(-(x+1)).toNat,by omega⟩
  have e1:IntKind.i64.wrap (x+1)= -(y:Int):=by rw[Qgd (by omega) (by omega)];omega
  have e2:IntKind.i64.wrap (0- -(y:Int))=(y:Int):=by rw[Qgd (by omega) (by omega)];omega
  have e3:IntKind.u64.wrap (y:Int)=(y:Int):=Qem (by omega) (by omega)
  have hl1:nl y<=4:=Qen (by omega)
  have hl2:nl (y+1)<=4:=Qen (by omega)
  simp+decide (disch:=first|exact D3 e1 e2 e3|fail) only[go_sem,↓reduceIte,e1,e2,e3]
  refine Qa hP (Qcq (n:=y) (by omega)) rfl rfl rfl ?_
  simp+decide (disch:=first|exact D0|fail) only[go_sem,↓reduceIte]
  refine Qa hP (Qcq (n:=1) (by omega)) rfl rfl rfl ?_
  simp+decide (disch:=first|exact D0|fail) only[go_sem,↓reduceIte]
  refine Qa hP (Qo2 (Qj y) (Qj 1) (show nl y<_ by omega) (show nl 1<_ by rw[Qfj];omega)) rfl rfl rfl ?_
  simp+decide (disch:=first|exact D0|fail) only[go_sem,↓reduceIte]
  refine Qa hP (Qer (n:=true) (Qj (val (dig y)+val (dig 1))) (show nl _<_ by rw[Q3,Q3];omega)) rfl rfl rfl ?_
  simp+decide (disch:=first|exact D0|fail) only[go_sem,↓reduceIte]
  refine Qa5 ?_
  simp+decide (disch:=first|exact D0|fail) only[go_sem,↓reduceIte]
  exact Qc (congrArg PV.zz (by rw[Qia,Q3,Q3];simp;omega)) rfl
 ·obtain⟨y,rfl⟩:∃y:Nat,x=y:=⟨x.toNat,by omega⟩
  have hl1:nl y<=4:=Qen (by omega)
  simp+decide (disch:=first|exact D0|fail) only[go_sem,↓reduceIte]
  refine Qa hP (Qcq (by omega)) rfl rfl rfl ?_
  simp+decide (disch:=first|exact D0|fail) only[go_sem,↓reduceIte]
  refine Qa hP (Qer (n:=false) (Qj y) (show nl _<_ by omega)) rfl rfl rfl ?_
  simp+decide (disch:=first|exact D0|fail) only[go_sem,↓reduceIte]
  refine Qa5 ?_
  simp+decide (disch:=first|exact D0|fail) only[go_sem,↓reduceIte]
  exact Qc (congrArg PV.zz (by rw[Qia];simp)) rfl
theorem Qw2{n:Bool}{a:List Nat}(ha:Qi a)(hla:a.length<2^42):Qd Tryz.prog 54 [PV.zi n a] (· = .int .i64 (sgn (zv n a))):=by
 refine Qf Ql Tryz.func54 rfl Qafw (by simp[c54]) fun C hP=> ?_;simp only[c54,Zo,Zg,Zm,Zc,Zf,Zl,Zh,Zs,Zi,Zb,Zk,Zn,Zu,Zq,Zr,Zz]
 simp+decide (disch:=first|exact D0|fail) only[go_sem,↓reduceIte]
 refine Qa hP (Qg3 ha hla) rfl rfl rfl ?_
 generalize zv n a=z
 simp+decide (disch:=first|exact D0|fail) only[go_sem,↓reduceIte]
 refine Qb (fun hz=> ?_) (fun hz=> ?_)
 ·have:z=0:=by have:=Qbq.1 (Qco (n:=z.natAbs) (by omega));omega
  subst this
  simp+decide (disch:=first|exact D0|fail) only[go_sem,↓reduceIte]
  exact Qc rfl rfl
 ·have h0:z≠0:=fun h=>by subst h;exact hz (by simp[Qax])
  simp+decide (disch:=first|exact D0|fail) only[go_sem,↓reduceIte]
  refine Qh5 (fun hn=> ?_) (fun hn=> ?_)
  ·have hn:z<0:=by simpa using hn
   simp+decide (disch:=first|exact D0|fail) only[go_sem,↓reduceIte]
   exact Qc (by rw[sgn,if_pos hn]) rfl
  ·have hn:¬z<0:=by simpa using hn
   simp+decide (disch:=first|exact D0|fail) only[go_sem,↓reduceIte]
   exact Qc (by rw[sgn,if_neg hn,if_pos (by omega)]) rfl
theorem Quk{n:Bool}{a:List Nat}(ha:Qi a)(hla:a.length<2^42):Qd Tryz.prog 61 [PV.zi n a] (· = .bool (Qf3 n a)):=by
 refine Qf Ql Tryz.func61 rfl Qafs (by simp[c61]) fun C hP=> ?_;simp only[c61,Zo,Zg,Zm,Zc,Zf,Zl,Zh,Zs,Zi,Zb,Zk,Zn,Zu,Zq,Zr,Zz]
 simp+decide (disch:=first|exact D0|fail) only[go_sem,↓reduceIte]
 refine Qa hP (Qmw ha (by omega)) rfl rfl rfl ?_
 simp+decide (disch:=first|exact D0|fail) only[go_sem,↓reduceIte]
 refine Qft (fun hv=> ?_) (fun hv=> ?_)
 ·simp+decide (disch:=first|exact D0|fail) only[go_sem,↓reduceIte]
  refine Qft (fun hn=> ?_) (fun hn=> ?_)
  ·simp+decide (disch:=first|exact D0|fail) only[go_sem,↓reduceIte]
   exact Qc (congrArg PV.bool (by unfold Qf3;subst hn;cases a<;>simp_all<;>omega)) rfl
  ·simp+decide (disch:=first|exact D0|fail) only[go_sem,↓reduceIte]
   exact Qc (congrArg PV.bool (by unfold Qf3;subst hn;cases a<;>simp_all)) rfl
 ·simp+decide (disch:=first|exact D0|fail) only[go_sem,↓reduceIte]
  exact Qc (congrArg PV.bool (by unfold Qf3;cases a<;>simp_all)) rfl
theorem Qya{n m:Bool}{a b:List Nat}(ha:Qi a)(hb:Qi b)(hla:a.length<2^41)(hlb:b.length<2^41):Qd Tryz.prog 115 [PV.zi n a,PV.zi m b] (· = .int .i64 (Qbr (zv n a) (zv m b))):=by
 have hx:nl (zv n a).natAbs<2^41:=by rw[Qa8];have:=Qal ha;omega
 have hy:nl (zv m b).natAbs<2^41:=by rw[Qa8];have:=Qal hb;omega
 refine Qf Ql Tryz.func115 rfl Qabs (by simp[Q79]) fun C hP=> ?_;simp only[Q79,Zo,Zg,Zm,Zc,Zf,Zl,Zh,Zs,Zi,Zb,Zk,Zn,Zu,Zq,Zr,Zz]
 simp+decide (disch:=first|exact D0|fail) only[go_sem,↓reduceIte]
 refine Qa hP (Qg3 ha (by omega)) rfl rfl rfl ?_
 simp+decide (disch:=first|exact D0|fail) only[go_sem,↓reduceIte]
 refine Qa hP (Qg3 hb (by omega)) rfl rfl rfl ?_
 generalize zv n a=x at *
 generalize zv m b=y at *
 have lx:(dig x.natAbs).length<2^41:=hx
 have ly:(dig y.natAbs).length<2^41:=hy
 by_cases hx0:x<0<;>by_cases hy0:y<0
 ·simp+decide (disch:=first|exact D2 hx0 hy0|fail) only[go_sem,↓reduceIte,hx0,hy0]
  refine Qa hP (Qh0 (Qj y.natAbs) (Qj x.natAbs) (by omega) (by omega)) rfl rfl rfl ?_
  simp+decide (disch:=first|exact D0|fail) only[go_sem,↓reduceIte]
  exact Qc (congrArg (PV.int .i64) (by rw[Q3,Q3];unfold Qdc Qbr;split<;>split<;>(try split)<;>(try split)<;>omega)) rfl
 ·simp+decide (disch:=first|exact D2 hx0 hy0|fail) only[go_sem,↓reduceIte,hx0,hy0]
  exact Qc (congrArg (PV.int .i64) (by unfold Qbr;rw[if_pos (by omega)])) rfl
 ·simp+decide (disch:=first|exact D2 hx0 hy0|fail) only[go_sem,↓reduceIte,hx0,hy0]
  exact Qc (congrArg (PV.int .i64) (by unfold Qbr;rw[if_neg (by omega),if_pos (by omega)])) rfl
 ·simp+decide (disch:=first|exact D2 hx0 hy0|fail) only[go_sem,↓reduceIte,hx0,hy0]
  refine Qa hP (Qh0 (Qj x.natAbs) (Qj y.natAbs) (by omega) (by omega)) rfl rfl rfl ?_
  simp+decide (disch:=first|exact D0|fail) only[go_sem,↓reduceIte]
  exact Qc (congrArg (PV.int .i64) (by rw[Q3,Q3];unfold Qdc Qbr;split<;>split<;>(try split)<;>(try split)<;>omega)) rfl
theorem Qyb{n m:Bool}{a b:List Nat}(ha:Qi a)(hb:Qi b)(hla:a.length<2^40)(hlb:b.length<2^40):Qd Tryz.prog 87 [PV.zi n a,PV.zi m b] (· =PV.zz (zv n a+zv m b)):=by
 have hda:=Qal ha
 have hdb:=Qal hb
 refine Qf Ql Tryz.func87 rfl Qafx (by simp[c87]) fun C hP=> ?_;simp only[c87,Zo,Zg,Zm,Zc,Zf,Zl,Zh,Zs,Zi,Zb,Zk,Zn,Zu,Zq,Zr,Zz]
 simp+decide (disch:=first|exact D0|fail) only[go_sem,↓reduceIte]
 refine Qh5 (fun hnm=> ?_) (fun hnm=> ?_)
 ·have hnm:n=m:=by simpa using hnm
  subst hnm
  have hr:=Qnc (val a) (val b)
  simp+decide (disch:=first|exact D0|fail) only[go_sem,↓reduceIte]
  refine Qa hP (Qo2 ha hb hla hlb) rfl rfl rfl ?_
  simp+decide (disch:=first|exact D0|fail) only[go_sem,↓reduceIte]
  refine Qa hP (Qer (n:=n) (Qj (val a+val b)) (show nl _<_ by omega)) rfl rfl rfl ?_
  simp+decide (disch:=first|exact D0|fail) only[go_sem,↓reduceIte]
  refine Qa5 ?_
  simp+decide (disch:=first|exact D0|fail) only[go_sem,↓reduceIte]
  exact Qc (congrArg PV.zz (by rw[Qia];unfold zv;split<;>simp<;>omega)) rfl
 have hnm:n= !m:=by cases n<;>cases m<;>simp_all
 subst hnm
 simp+decide (disch:=first|exact D0|fail) only[go_sem,↓reduceIte]
 refine Qa hP (Qky ha hb hla hlb) rfl rfl rfl ?_
 by_cases hc:val a<val b
 ·rw[if_pos hc]
  have hr:=Qa7 (Nat.sub_le (val b) (val a))
  simp+decide (disch:=first|exact D0|fail) only[go_sem,↓reduceIte]
  refine Qa hP (Qky hb ha hlb hla) rfl rfl rfl ?_
  rw[if_neg (by omega)]
  simp+decide (disch:=first|exact D0|fail) only[go_sem,↓reduceIte]
  refine Qa hP (Qer (n:=m) (Qj (val b-val a)) (show nl _<_ by omega)) rfl rfl rfl ?_
  simp+decide (disch:=first|exact D0|fail) only[go_sem,↓reduceIte]
  refine Qa5 ?_
  simp+decide (disch:=first|exact D0|fail) only[go_sem,↓reduceIte]
  exact Qc (congrArg PV.zz (by rw[Qia];unfold zv;cases m<;>simp<;>omega)) rfl
 ·rw[if_neg hc]
  have hr:=Qa7 (Nat.sub_le (val a) (val b))
  simp+decide (disch:=first|exact D0|fail) only[go_sem,↓reduceIte]
  refine Qa hP (Qer (n:= !m) (Qj (val a-val b)) (show nl _<_ by omega)) rfl rfl rfl ?_
  simp+decide (disch:=first|exact D0|fail) only[go_sem,↓reduceIte]
  refine Qa5 ?_
  simp+decide (disch:=first|exact D0|fail) only[go_sem,↓reduceIte]
  exact Qc (congrArg PV.zz (by rw[Qia];unfold zv;cases m<;>simp<;>omega)) rfl
end Go.Proofs.YtdacdnoebgcjhaaGreat
namespace Go.Proofs.YtdacdnoebgcjhaaGreat
open Go Go.FW
set_option linter.unusedSimpArgs false
set_option linter.unusedVariables false
set_option maxRecDepth 100000
theorem Qns{a:List Nat}{g:Nat}(ha:Qi a)(hx:a.length<2^36)(hy:nl g<2^36)(h0:g≠0):Qd Tryz.prog 69 [PV.nat a,PV.num g] (· = .tup [PV.num (val a/g),PV.num (val a%g),.int .i64 0]):=by
 have:=Qlm ha (Qj g) hx hy
 rwa[Q3,if_neg h0]at this
theorem Qaf8(n:Bool)(a:List Nat)(D:Nat):zv n (dig (val a/Nat.gcd (val a) D))=zv n a/(Nat.gcd (zv n a).natAbs D:Int):=by
 rw[Qa8,Qia]
 unfold zv
 cases n
 ·simp
 ·have hd:((Nat.gcd (val a) D:Nat):Int)∣(val a:Int):=Int.natCast_dvd_natCast.2 (Nat.gcd_dvd_left _ _)
  simp only[if_true]
  rw[Int.neg_ediv_of_dvd hd,Int.natCast_ediv]
theorem Qnt{n:Bool}{a d:List Nat}(ha:Qi a)(hd:Qi d)(hla:a.length<2^36)(hld:d.length<2^36):Qd Tryz.prog 39 [PV.zi n a,PV.nat d] (· =PV.rat (rv n a d)):=by
 have hna:=Qal ha
 have hnd:=Qal hd
 refine Qf Ql Tryz.func39 rfl Qaf0 (by simp[c39]) fun C hP=> ?_;simp only[c39,Zo,Zg,Zm,Zc,Zf,Zl,Zh,Zs,Zi,Zb,Zk,Zn,Zu,Zq,Zr,Zz]
 simp+decide (disch:=first|exact D0|fail) only[go_sem,↓reduceIte]
 refine Qa hP (Qbn hd (by omega)) rfl rfl rfl ?_
 simp+decide (disch:=first|exact D0|fail) only[go_sem,↓reduceIte]
 refine Qb (fun hz=> ?_) (fun hz=> ?_)
 ·have h0:val d=0:=Qbq.1 (Qco (n:=val d) (by omega))
  simp+decide (disch:=first|exact D0|fail) only[go_sem,↓reduceIte]
  refine Qa hP (Qcq (n:=1) (by omega)) rfl rfl rfl ?_
  simp+decide (disch:=first|exact D0|fail) only[go_sem,↓reduceIte]
  refine Qa5 ?_
  simp+decide (disch:=first|exact D0|fail) only[go_sem,↓reduceIte]
  exact(by unfold rv;rw[Qot (.inl h0),Qfw];exact Qdu Qzc rfl)
 ·have h0:val d≠0:=fun h=>by rw[h,Qax]at hz;exact hz rfl
  have hg0:Nat.gcd (val a) (val d)≠0:=fun h=>h0 (Nat.gcd_eq_zero_iff.1 h).2
  have hg:=Qa7 (Nat.gcd_le_right (val a) (Nat.pos_of_ne_zero h0))
  have hq:=Q3k (val a) (Nat.gcd (val a) (val d))
  simp+decide (disch:=first|exact D0|fail) only[go_sem,↓reduceIte]
  refine Qa hP (Qo3 ha hd hla hld) rfl rfl rfl ?_
  simp+decide (disch:=first|exact D0|fail) only[go_sem,↓reduceIte]
  refine Qa hP (Qns ha hla (by omega) hg0) rfl rfl rfl ?_
  simp+decide (disch:=first|exact D0|fail) only[go_sem,↓reduceIte]
  refine Qa hP (Qns hd hld (by omega) hg0) rfl rfl rfl ?_
  simp+decide (disch:=first|exact D0|fail) only[go_sem,↓reduceIte]
  refine Qa hP (Qg3 (n:=n) (Qj (val a/Nat.gcd (val a) (val d))) (show nl _<_ by omega)) rfl rfl rfl ?_
  rw[Qaf8]
  have hm:=Qib (z:=zv n a) h0
  simp+decide (disch:=first|exact D0|fail) only[go_sem,↓reduceIte]
  refine Qa5 ?_
  simp+decide (disch:=first|exact D0|fail) only[go_sem,↓reduceIte]
  exact Qc (by unfold rv;rw[PV.rat,hm.1,hm.2,Qa8]) rfl
theorem Qdq{n:Bool}{a d:List Nat}{k:Nat}(hp:Raw k n a d)(hk:k<2^36):Qd Tryz.prog 55 [PV.rr n a d] (· =PV.rat (rv n a d)):=by
 obtain⟨ha,hd,sa,sd,k1⟩:=hp
 refine Qf Ql Tryz.func55 rfl Qaf1 (by simp[c55]) fun C hP=> ?_;simp only[c55,Zo,Zg,Zm,Zc,Zf,Zl,Zh,Zs,Zi,Zb,Zk,Zn,Zu,Zq,Zr,Zz]
 simp+decide (disch:=first|exact D0|fail) only[go_sem,↓reduceIte]
 refine Qa hP (Qnt (n:=n) ha hd (by omega) (by omega)) rfl rfl rfl ?_
 simp+decide (disch:=first|exact D0|fail) only[go_sem,↓reduceIte]
 refine Qa5 ?_
 simp+decide (disch:=first|exact D0|fail) only[go_sem,↓reduceIte]
 exact Qc rfl rfl
theorem Qmp{z:Int}{D:Nat}(hz:nl z.natAbs<2^36)(hD:nl D<2^36):Qd Tryz.prog 39 [PV.zz z,PV.num D] (· =PV.rat (mkRat z D)):=by
 have:=Qnt (n:=decide (z<0)) (Qj z.natAbs) (Qj D) hz hD
 rwa[rv,Qeo,Q3]at this
theorem Qg4{x:Int}(h1: -9223372036854775808<=x)(h2:x<=9223372036854775807):Qd Tryz.prog 20 [.int .i64 x] (· =PV.rat (x:Rat)):=by
 have hl1:nl x.natAbs<=4:=Qen (by omega)
 refine Qf Ql Tryz.func20 rfl Qaf2 (by simp[c20]) fun C hP=> ?_;simp only[c20,Zo,Zg,Zm,Zc,Zf,Zl,Zh,Zs,Zi,Zb,Zk,Zn,Zu,Zq,Zr,Zz]
 simp+decide (disch:=first|exact D0|fail) only[go_sem,↓reduceIte]
 refine Qa hP (Q1g h1 h2) rfl rfl rfl ?_
 simp+decide (disch:=first|exact D0|fail) only[go_sem,↓reduceIte]
 refine Qa hP (Qcq (n:=1) (by omega)) rfl rfl rfl ?_
 simp+decide (disch:=first|exact D0|fail) only[go_sem,↓reduceIte]
 refine Qa hP (Qmp (z:=x) (D:=1) (by omega) (by rw[Qfj];omega)) rfl rfl rfl ?_
 simp+decide (disch:=first|exact D0|fail) only[go_sem,↓reduceIte]
 refine Qa5 ?_
 simp+decide (disch:=first|exact D0|fail) only[go_sem,↓reduceIte]
 exact Qc (congrArg PV.rat (Rat.mkRat_one x)) rfl
theorem Qf9(d:List Nat):Qd Tryz.prog 88 [PV.nat d] (· =PV.zi false d):=by
 refine Qf Ql Tryz.func88 rfl Qaf3 (by simp[c88]) fun C hP=> ?_;simp only[c88,Zo,Zg,Zm,Zc,Zf,Zl,Zh,Zs,Zi,Zb,Zk,Zn,Zu,Zq,Zr,Zz]
 simp+decide (disch:=first|exact D0|fail) only[go_sem,↓reduceIte]
 refine Qa5 ?_
 simp+decide (disch:=first|exact D0|fail) only[go_sem,↓reduceIte]
 exact Qc rfl rfl
theorem Q1h{x:Int}(hx:nl x.natAbs<2^42):Qd Tryz.prog 54 [PV.zz x] (· = .int .i64 (sgn x)):=by
 have:=Qw2 (n:=decide (x<0)) (Qj x.natAbs) hx
 rwa[Qeo]at this
theorem Qg5{n:Bool}{a d:List Nat}{k:Nat}(hp:Raw k n a d)(hk:k<2^36):Qd Tryz.prog 27 [PV.rr n a d] (· = .int .i64 (Qc6 (rv n a d))):=by
 have hs:=hp.rs
 unfold FW.rs at hs
 refine Qf Ql Tryz.func27 rfl Qaf4 (by simp[c27]) fun C hP=> ?_;simp only[c27,Zo,Zg,Zm,Zc,Zf,Zl,Zh,Zs,Zi,Zb,Zk,Zn,Zu,Zq,Zr,Zz]
 simp+decide (disch:=first|exact D0|fail) only[go_sem,↓reduceIte]
 refine Qa hP (Qdq hp hk) rfl rfl rfl ?_
 simp+decide (disch:=first|exact D0|fail) only[go_sem,↓reduceIte]
 refine Qa hP (Q1h (x:=(rv n a d).num) (by omega)) rfl rfl rfl ?_
 simp+decide (disch:=first|exact D0|fail) only[go_sem,↓reduceIte]
 exact Qc rfl rfl
end Go.Proofs.YtdacdnoebgcjhaaGreat
namespace Go.Proofs.YtdacdnoebgcjhaaGreat
open Go Go.FW
set_option linter.unusedSimpArgs false
set_option linter.unusedVariables false
set_option maxRecDepth 100000
theorem Qki{x:Int}{d:Nat}(hx:nl x.natAbs<2^40)(hy:nl d<2^40):Qd Tryz.prog 66 [PV.zz x,PV.zi false (dig d)] (· =PV.zz (x*(d:Int))):=by
 have:=Qo4 (n:=decide (x<0)) (m:=false) (Qj x.natAbs) (Qj d) hx hy
 rwa[Qeo,Qfi,Q3]at this
theorem Q4b{x y:Int}(hx:nl x.natAbs<2^40)(hy:nl y.natAbs<2^40):Qd Tryz.prog 87 [PV.zz x,PV.zz y] (· =PV.zz (x+y)):=by
 have:=Qyb (n:=decide (x<0)) (m:=decide (y<0)) (Qj x.natAbs) (Qj y.natAbs) hx hy
 rwa[Qeo,Qeo]at this
theorem Q4c{x y:Int}(hx:nl x.natAbs<2^41)(hy:nl y.natAbs<2^41):Qd Tryz.prog 115 [PV.zz x,PV.zz y] (· = .int .i64 (Qbr x y)):=by
 have:=Qya (n:=decide (x<0)) (m:=decide (y<0)) (Qj x.natAbs) (Qj y.natAbs) hx hy
 rwa[Qeo,Qeo]at this
theorem Qyc{n m:Bool}{a d b c:List Nat}{k:Nat}(hp:Raw k n a d)(hq:Raw k m b c)(hk:k<2^34):Qd Tryz.prog 38 [PV.rr n a d,PV.rr m b c] (· =PV.rat (rv n a d*rv m b c)):=by
 obtain⟨ha,hd,sa,sd,k1⟩:=hp
 obtain⟨hb,hc,sb,sc,k2⟩:=hq
 have h1:=Qat (zv n a) (zv m b)
 have h2:=Qcz (val d) (val c)
 rw[Qa8,Qa8]at h1
 have e1:=Qal ha
 have e2:=Qal hd
 have e3:=Qal hb
 have e4:=Qal hc
 refine Qf Ql Tryz.func38 rfl Qaf7 (by simp[c38]) fun C hP=> ?_;simp only[c38,Zo,Zg,Zm,Zc,Zf,Zl,Zh,Zs,Zi,Zb,Zk,Zn,Zu,Zq,Zr,Zz]
 simp+decide (disch:=first|exact D0|fail) only[go_sem,↓reduceIte]
 refine Qa hP (Qo4 (n:=n) (m:=m) ha hb (by omega) (by omega)) rfl rfl rfl ?_
 simp+decide (disch:=first|exact D0|fail) only[go_sem,↓reduceIte]
 refine Qa hP (Qkz hd hc (by omega) (by omega)) rfl rfl rfl ?_
 simp+decide (disch:=first|exact D0|fail) only[go_sem,↓reduceIte]
 refine Qa hP (Qmp (z:=zv n a*zv m b) (D:=val d*val c) (by omega) (by omega)) rfl rfl rfl ?_
 simp+decide (disch:=first|exact D0|fail) only[go_sem,↓reduceIte]
 refine Qa5 ?_
 simp+decide (disch:=first|exact D0|fail) only[go_sem,↓reduceIte]
 exact Qc (congrArg PV.rat (Rat.mkRat_mul_mkRat _ _ _ _).symm) rfl
theorem Qyd{n m:Bool}{a d b c:List Nat}{k:Nat}(hp:Raw k n a d)(hq:Raw k m b c)(hk:k<2^34):Qd Tryz.prog 89 [PV.rr n a d,PV.rr m b c] (· = .int .i64 (Qhg (rv n a d) (rv m b c))):=by
 have hx:=hp.rs
 have hy:=hq.rs
 unfold FW.rs at hx hy
 refine Qf Ql Tryz.func89 rfl Qaf5 (by simp[c89]) fun C hP=> ?_;simp only[c89,Zo,Zg,Zm,Zc,Zf,Zl,Zh,Zs,Zi,Zb,Zk,Zn,Zu,Zq,Zr,Zz]
 simp+decide (disch:=first|exact D0|fail) only[go_sem,↓reduceIte]
 refine Qa hP (Qdq hp (by omega)) rfl rfl rfl ?_
 simp+decide (disch:=first|exact D0|fail) only[go_sem,↓reduceIte]
 refine Qa hP (Qdq hq (by omega)) rfl rfl rfl ?_
 generalize rv n a d=p at *
 generalize rv m b c=q at *
 have h1:=Qat p.num (q.den:Int)
 have h2:=Qat q.num (p.den:Int)
 rw[Int.natAbs_natCast]at h1 h2
 simp+decide (disch:=first|exact D0|fail) only[go_sem,↓reduceIte]
 refine Qa hP (Qf9 (dig q.den)) rfl rfl rfl ?_
 simp+decide (disch:=first|exact D0|fail) only[go_sem,↓reduceIte]
 refine Qa hP (Qki (x:=p.num) (d:=q.den) (by omega) (by omega)) rfl rfl rfl ?_
 simp+decide (disch:=first|exact D0|fail) only[go_sem,↓reduceIte]
 refine Qa hP (Qf9 (dig p.den)) rfl rfl rfl ?_
 simp+decide (disch:=first|exact D0|fail) only[go_sem,↓reduceIte]
 refine Qa hP (Qki (x:=q.num) (d:=p.den) (by omega) (by omega)) rfl rfl rfl ?_
 simp+decide (disch:=first|exact D0|fail) only[go_sem,↓reduceIte]
 refine Qa hP (Q4c (x:=p.num*(q.den:Int)) (y:=q.num*(p.den:Int)) (by omega) (by omega)) rfl rfl rfl ?_
 simp+decide (disch:=first|exact D0|fail) only[go_sem,↓reduceIte]
 exact Qc (congrArg (PV.int .i64) (by rw[<-Qzd p.den_nz q.den_nz,Rat.mkRat_self,Rat.mkRat_self])) rfl
theorem Qo5{n m:Bool}{a d b c:List Nat}{k:Nat}(hp:Raw k n a d)(hq:Raw k m b c)(hk:k<2^34):Qd Tryz.prog 53 [PV.rr n a d,PV.rr m b c] (· =PV.rat (rv n a d+rv m b c)):=by
 have hx:=hp.rs
 have hy:=hq.rs
 unfold FW.rs at hx hy
 refine Qf Ql Tryz.func53 rfl Qaf6 (by simp[c53]) fun C hP=> ?_;simp only[c53,Zo,Zg,Zm,Zc,Zf,Zl,Zh,Zs,Zi,Zb,Zk,Zn,Zu,Zq,Zr,Zz]
 simp+decide (disch:=first|exact D0|fail) only[go_sem,↓reduceIte]
 refine Qa hP (Qdq hp (by omega)) rfl rfl rfl ?_
 simp+decide (disch:=first|exact D0|fail) only[go_sem,↓reduceIte]
 refine Qa hP (Qdq hq (by omega)) rfl rfl rfl ?_
 generalize rv n a d=p at *
 generalize rv m b c=q at *
 have h1:=Qat p.num (q.den:Int)
 have h2:=Qat q.num (p.den:Int)
 have h3:=Qex (p.num*(q.den:Int)) (q.num*(p.den:Int))
 have h4:=Qcz p.den q.den
 rw[Int.natAbs_natCast]at h1 h2
 simp+decide (disch:=first|exact D0|fail) only[go_sem,↓reduceIte]
 refine Qa hP (Qf9 (dig q.den)) rfl rfl rfl ?_
 simp+decide (disch:=first|exact D0|fail) only[go_sem,↓reduceIte]
 refine Qa hP (Qki (x:=p.num) (d:=q.den) (by omega) (by omega)) rfl rfl rfl ?_
 simp+decide (disch:=first|exact D0|fail) only[go_sem,↓reduceIte]
 refine Qa hP (Qf9 (dig p.den)) rfl rfl rfl ?_
 simp+decide (disch:=first|exact D0|fail) only[go_sem,↓reduceIte]
 refine Qa hP (Qki (x:=q.num) (d:=p.den) (by omega) (by omega)) rfl rfl rfl ?_
 simp+decide (disch:=first|exact D0|fail) only[go_sem,↓reduceIte]
 refine Qa hP (Q4b (x:=p.num*(q.den:Int)) (y:=q.num*(p.den:Int)) (by omega) (by omega)) rfl rfl rfl ?_
 simp+decide (disch:=first|exact D0|fail) only[go_sem,↓reduceIte]
 refine Qa hP (Qiv (x:=p.den) (y:=q.den) (by omega) (by omega)) rfl rfl rfl ?_
 simp+decide (disch:=first|exact D0|fail) only[go_sem,↓reduceIte]
 refine Qa hP (Qmp (z:=p.num*(q.den:Int)+q.num*(p.den:Int)) (D:=p.den*q.den) (by omega) (by omega)) rfl rfl rfl ?_
 simp+decide (disch:=first|exact D0|fail) only[go_sem,↓reduceIte]
 refine Qa5 ?_
 simp+decide (disch:=first|exact D0|fail) only[go_sem,↓reduceIte]
 exact Qc (congrArg PV.rat (by rw[<-Rat.mkRat_add_mkRat _ _ p.den_nz q.den_nz,Rat.mkRat_self,Rat.mkRat_self])) rfl
end Go.Proofs.YtdacdnoebgcjhaaGreat
namespace Go.Proofs.YtdacdnoebgcjhaaGreat
open Go Go.FW
set_option linter.unusedSimpArgs false
set_option linter.unusedVariables false
set_option maxRecDepth 100000
theorem Qmy{n:Bool}{a d:List Nat}{k:Nat}(hp:Raw k n a d)(hk:k<2^36):Qd Tryz.prog 34 [PV.rr n a d] (· = .bool (Qf4 n a d)):=by
 obtain⟨ha,hd,sa,sd,k1⟩:=hp
 have hgl:(dig (Nat.gcd (val a) (val d))).length<2^43:=by
  by_cases h0:val d=0
  ·rw[h0,Nat.gcd_zero_right]
   have h4:=Qal ha
   unfold nl at h4;omega
  ·have h3:=Qa7 (Nat.gcd_le_right (val a) (Nat.pos_of_ne_zero h0))
   have h4:=Qal hd
   unfold nl at h3 h4;omega
 refine Qf Ql Tryz.func34 rfl Qafz (by simp[c34]) fun C hP=> ?_;simp only[c34,Zo,Zg,Zm,Zc,Zf,Zl,Zh,Zs,Zi,Zb,Zk,Zn,Zu,Zq,Zr,Zz]
 simp+decide (disch:=first|exact D0|fail) only[go_sem,↓reduceIte]
 refine Qa hP (Quk ha (by omega)) rfl rfl rfl ?_
 unfold Qf4
 simp+decide (disch:=first|exact D0|fail) only[go_sem,↓reduceIte]
 cases hio:Qf3 n a
 ·simp+decide (disch:=first|exact D0|fail) only[go_sem,↓reduceIte]
  exact Qc (by simp) rfl
 rw[Bool.true_and]
 simp+decide (disch:=first|exact D0|fail) only[go_sem,↓reduceIte]
 refine Qa hP (Qmw hd (by omega)) rfl rfl rfl ?_
 simp+decide (disch:=first|exact D0|fail) only[go_sem,↓reduceIte]
 refine Qft (fun hv=> ?_) (fun hv=> ?_)
 ·simp+decide (disch:=first|exact D0|fail) only[go_sem,↓reduceIte]
  refine Qa hP (Qo3 ha hd (by omega) (by omega)) rfl rfl rfl ?_
  simp+decide (disch:=first|exact D0|fail) only[go_sem,↓reduceIte]
  refine Qa hP (Qcq (n:=1) (by omega)) rfl rfl rfl ?_
  simp+decide (disch:=first|exact D0|fail) only[go_sem,↓reduceIte]
  refine Qa hP (Qw1 hgl (by rw[Qfw];decide)) rfl rfl rfl ?_
  rw[Qfw,decide_eq_decide.2 (Qo1 (Nat.gcd (val a) (val d)))]
  simp+decide (disch:=first|exact D0|fail) only[go_sem,↓reduceIte]
  refine Qan (fun hg=> ?_) (fun hg=> ?_)
  ·simp+decide (disch:=first|exact D0|fail) only[go_sem,↓reduceIte]
   exact Qc (congrArg PV.bool (by cases d<;>simp_all)) rfl
  ·simp+decide (disch:=first|exact D0|fail) only[go_sem,↓reduceIte]
   exact Qc (congrArg PV.bool (by simp[hg])) rfl
 ·simp+decide (disch:=first|exact D0|fail) only[go_sem,↓reduceIte]
  exact Qc (congrArg PV.bool (by simp_all)) rfl
end Go.Proofs.YtdacdnoebgcjhaaGreat
namespace Go.Proofs.YtdacdnoebgcjhaaGreat
open Go Go.FW
set_option maxRecDepth 100000
def Q8a:SFn:=⟨47,[.t 6],Zr (Zo (.mv 6 (.c .nilS)) .nil)<|Zr (Zm 11 0<|
 Zn 12 11<|
 Zm 13 1<|
 Zn 14 13<|
 Zo (.mx 15 (.t 12) (.t 14))<|
 Zo (.mk 16 1 8 3 (Zz 0) (.t 15) (.t 15))<|
 Zm 7 16 .nil)<| .seq (Zr (Zm 17 7<|
 Zn 18 17<|
 Zc 19 0 .nil)<| .block 0<| .loop<|Zr (Zb 20 .lss 19 18 .nil)<| .seq (.cond (.t 20) .skip (.exit 0))<| .seq (.block 1<|Zr (Zm 21 19<|
 Zm 8 21 .nil)<|Zr (Zc 9 0<|
 Zc 10 0 .nil)<| .seq (Zr (Zm 22 8<|
 Zm 23 0<|
 Zn 24 23<|
 Zb 25 .lss 22 24 .nil)<| .cond (.t 25) (.rg (Zm 26 0<|
 Zm 27 8<|
 Zi 28 1 26 27<|
 Zl 29 1 28<|
 Zm 9 29 .nil)) .skip)<| .seq (Zr (Zm 30 8<|
 Zm 31 1<|
 Zn 32 31<|
 Zb 33 .lss 30 32 .nil)<| .cond (.t 33) (.rg (Zm 34 1<|
 Zm 35 8<|
 Zi 36 1 34 35<|
 Zl 37 1 36<|
 Zm 10 37 .nil)) .skip)<| .rg (Zm 38 7<|
 Zm 39 8<|
 Zm 40 2<|
 Zm 41 9<|
 Zm 42 10<|
 Zo (.call (some 43) false (.t 40) [.t 41,.t 42])<|
 Zi 44 1 38 39<|
 Zs 1 44 43 .nil))<| .rg (Zk 45 .add 19 1<|
 Zm 19 45 .nil))<|Zr (Zm 46 7<|
 Zm 6 46 .nil) .ret⟩
theorem Qabt:Qe Tryz.prog Tryz.f119=some Q8a:=by kernel_rfl
def c79:SFn:=⟨24,[.t 2],Zr (Zo (.mv 2 (.c .nilS)) .nil)<|Zr (Zm 4 0<|
 Zn 5 4<|
 Zm 3 5 .nil)<| .seq (.block 0<| .loop<| .seq (Zr (Zm 6 3<|
 Zk 7 .gtr 6 0<|
 Zm 8 7<|
 Zg 8 true (.mv 9 (.t 0))<|
 Zg 8 true (.mv 10 (.t 3))<|
 Zg 8 true (.bin 11 .sub false (.t 10) (.c (Zz 1)))<|
 Zg 8 true (.idx 12 1 (.t 9) (.t 11))<|
 Zg 8 true (.ld 13 1 false (.t 12))<|
 Zg 8 true (.bin 14 .eql false (.t 13) (.c (Zz 0)))<|
 Zo (.pick 15 (.t 8) (.t 14) (.c (.bool false))) .nil)<| .cond (.t 15) .skip (.exit 0))<| .block 1<| .rg (Zm 16 3<|
 Zk 17 .sub 16 1<|
 Zm 3 17 .nil))<| .seq (Zr (Zm 18 3<|
 Zk 19 .eql 18 0 .nil)<| .cond (.t 19) (Zr (Zo (.mv 2 (.c .nilS)) .nil) .ret) .skip)<|Zr (Zm 20 0<|
 Zm 21 3<|
 Zm 22 3<|
 Zo (.sl 23 1 (.t 20) none (some (.t 21)) (some (.t 22)))<|
 Zm 2 23 .nil) .ret⟩
theorem Qaf9:Qe Tryz.prog Tryz.f79=some c79:=by kernel_rfl
def Q8b:SFn:=⟨35,[.t 2],Zr (Zo (.mv 2 (.c (.bool false))) .nil)<| .seq (Zr (Zm 5 0<|
 Zn 6 5<|
 Zk 7 .gtr 6 64<|
 Zm 8 7<|
 Zg 8 false (.mv 9 (.t 0))<|
 Zg 8 false (.len 10 (.t 9))<|
 Zg 8 false (.bin 11 .gtr false (.t 10) (.c (Zz 0)))<|
 Zg 8 false (.mv 12 (.t 11))<|
 Zg 12 true (.mv 13 (.t 0))<|
 Zg 12 true (.mv 14 (.t 0))<|
 Zg 12 true (.len 15 (.t 14))<|
 Zg 12 true (.bin 16 .sub false (.t 15) (.c (Zz 1)))<|
 Zg 12 true (.idx 17 1 (.t 13) (.t 16))<|
 Zg 12 true (.ld 18 1 false (.t 17))<|
 Zg 12 true (.bin 19 .eql false (.t 18) (.c (Zz 0)))<|
 Zg 8 false (.pick 20 (.t 12) (.t 19) (.c (.bool false)))<|
 Zo (.pick 21 (.t 8) (.c (.bool true)) (.t 20)) .nil)<| .cond (.t 21) (Zr (Zo (.mv 2 (.c (.bool false))) .nil) .ret) .skip)<| .seq (Zr (Zm 22 0<|
 Zn 23 22<|
 Zc 24 0 .nil)<| .block 0<| .loop<|Zr (Zb 25 .lss 24 23 .nil)<| .seq (.cond (.t 25) .skip (.exit 0))<| .seq (.block 1<|Zr (Zi 26 1 22 24<|
 Zl 27 1 26<|
 Zm 4 27 .nil)<|Zr (Zm 28 4<|
 Zk 29 .lss 28 0<|
 Zm 30 29<|
 Zg 30 false (.mv 31 (.t 4))<|
 Zg 30 false (.bin 32 .gtr false (.t 31) (.c (Zz 1048576)))<|
 Zo (.pick 33 (.t 30) (.c (.bool true)) (.t 32)) .nil)<| .cond (.t 33) (Zr (Zo (.mv 2 (.c (.bool false))) .nil) .ret) .skip)<| .rg (Zk 34 .add 24 1<|
 Zm 24 34 .nil))<|Zr (Zo (.mv 2 (.c (.bool true))) .nil) .ret⟩
theorem Qabu:Qe Tryz.prog Tryz.f122=some Q8b:=by kernel_rfl
def c57:SFn:=⟨17,[.t 2],Zr (Zc 2 0 .nil)<|Zr (Zc 3 0 .nil)<| .seq (Zr (Zm 6 0<|
 Zn 7 6<|
 Zc 8 0 .nil)<| .block 0<| .loop<|Zr (Zb 9 .lss 8 7 .nil)<| .seq (.cond (.t 9) .skip (.exit 0))<| .seq (.block 1<|Zr (Zi 10 1 6 8<|
 Zl 11 1 10<|
 Zm 5 11 .nil)<| .rg (Zm 12 3<|
 Zm 13 5<|
 Zb 14 .add 12 13<|
 Zm 3 14 .nil))<| .rg (Zk 15 .add 8 1<|
 Zm 8 15 .nil))<|Zr (Zm 16 3<|
 Zm 2 16 .nil) .ret⟩
theorem Qaga:Qe Tryz.prog Tryz.f57=some c57:=by kernel_rfl
def Q8c:SFn:=⟨17,[.t 4],Zr (Zc 4 0 .nil)<| .seq (Zr (Zm 5 1<|
 Zk 6 .lss 5 0<|
 Zm 7 6<|
 Zg 7 false (.mv 8 (.t 1))<|
 Zg 7 false (.mv 9 (.t 0))<|
 Zg 7 false (.len 10 (.t 9))<|
 Zg 7 false (.bin 11 .geq false (.t 8) (.t 10))<|
 Zo (.pick 12 (.t 7) (.c (.bool true)) (.t 11)) .nil)<| .cond (.t 12) (Zr (Zc 4 0 .nil) .ret) .skip)<|Zr (Zm 13 0<|
 Zm 14 1<|
 Zi 15 1 13 14<|
 Zl 16 1 15<|
 Zm 4 16 .nil) .ret⟩
theorem Qabv:Qe Tryz.prog Tryz.f135=some Q8c:=by kernel_rfl
def c45:SFn:=⟨7,[.t 2],Zr (Zc 2 0 .nil)<|Zr (Zm 3 0<|
 Zq 4 false 79 [.t 3]<|
 Zn 5 4<|
 Zk 6 .sub 5 1<|
 Zm 2 6 .nil) .ret⟩
theorem Qagb:Qe Tryz.prog Tryz.f45=some c45:=by kernel_rfl
def Q8d:SFn:=⟨9,[.t 4],Zr (Zo (.mv 4 (.c .nilS)) .nil)<|Zr (Zm 5 0<|
 Zm 6 1<|
 Zq 7 false 119 [.t 5,.t 6,.c (.fn 120 [] [])]<|
 Zq 8 false 79 [.t 7]<|
 Zm 4 8 .nil) .ret⟩
theorem Qabw:Qe Tryz.prog Tryz.f102=some Q8d:=by kernel_rfl
def Q8e:SFn:=⟨8,[.t 4],Zr (Zc 4 0 .nil)<|Zr (Zm 5 0<|
 Zm 6 1<|
 Zb 7 .add 5 6<|
 Zm 4 7 .nil) .ret⟩
theorem Qabx:Qe Tryz.prog Tryz.f120=some Q8e:=by kernel_rfl
def Q8f:SFn:=⟨46,[.t 6],Zr (Zc 6 0 .nil)<| .seq (Zr (Zm 12 2<|
 Zk 13 .eql 12 1 .nil)<| .cond (.t 13) (Zr (Zm 14 0<|
 Zq 15 false 57 [.t 14]<|
 Zm 16 1<|
 Zq 17 false 57 [.t 16]<|
 Zm 7 15<|
 Zm 8 17 .nil)<|Zr (Zm 18 7<|
 Zm 19 8<|
 Zb 20 .neq 18 19 .nil)<| .cond (.t 20) (.seq (Zr (Zm 21 7<|
 Zm 22 8<|
 Zb 23 .lss 21 22 .nil)<| .cond (.t 23) (Zr (Zc 6 (-1) .nil) .ret) .skip)<|Zr (Zc 6 1 .nil) .ret) .skip) .skip)<| .seq (Zr (Zm 24 0<|
 Zn 25 24<|
 Zm 26 1<|
 Zn 27 26<|
 Zo (.mx 28 (.t 25) (.t 27))<|
 Zk 29 .sub 28 1<|
 Zm 9 29 .nil)<| .block 0<| .loop<| .seq (Zr (Zm 30 9<|
 Zk 31 .geq 30 0 .nil)<| .cond (.t 31) .skip (.exit 0))<| .seq (.block 1<|Zr (Zm 34 0<|
 Zm 35 9<|
 Zq 36 false 135 [.t 34,.t 35]<|
 Zm 37 1<|
 Zm 38 9<|
 Zq 39 false 135 [.t 37,.t 38]<|
 Zm 10 36<|
 Zm 11 39 .nil)<|Zr (Zm 40 10<|
 Zm 41 11<|
 Zb 42 .neq 40 41 .nil)<| .cond (.t 42) (.seq (Zr (Zm 43 10<|
 Zm 44 11<|
 Zb 45 .lss 43 44 .nil)<| .cond (.t 45) (Zr (Zc 6 (-1) .nil) .ret) .skip)<|Zr (Zc 6 1 .nil) .ret) .skip)<| .rg (Zm 32 9<|
 Zk 33 .sub 32 1<|
 Zm 9 33 .nil))<|Zr (Zc 6 0 .nil) .ret⟩
theorem Qaby:Qe Tryz.prog Tryz.f116=some Q8f:=by kernel_rfl
end Go.Proofs.YtdacdnoebgcjhaaGreat
namespace Go.Proofs.YtdacdnoebgcjhaaGreat
open Go Go.FW
set_option linter.unusedSimpArgs false
set_option linter.unusedVariables false
set_option maxRecDepth 100000
theorem Q4d{n m:Bool}{a d b c:List Nat}{k:Nat}(hp:Raw k n a d)(hq:Raw k m b c)(hk:k<2^36):Qd Tryz.prog 47 [PV.rr n a d,PV.rr m b c] (· =PV.rat (rv n a d*rv m b c)):=by
 refine Qf Ql Tryz.func47 rfl Qaek (by simp[c47]) fun C hP=> ?_;simp only[c47,Zo,Zg,Zm,Zc,Zf,Zl,Zh,Zs,Zi,Zb,Zk,Zn,Zu,Zq,Zr,Zz]
 simp+decide (disch:=first|exact D0|fail) only[go_sem,↓reduceIte]
 refine Qcn hP (Qdg hp.la hp.ld hp.k1 hp.sa hp.sd (by omega)) rfl rfl rfl ?_
 rintro _ ⟨n',a',d',rfl,g1,g2,g3,g4,g5,g6⟩
 simp+decide (disch:=first|exact D0|fail) only[go_sem,↓reduceIte]
 refine Qcn hP (Qdg hq.la hq.ld hq.k1 hq.sa hq.sd (by omega)) rfl rfl rfl ?_
 rintro _ ⟨m',b',c',rfl,e1,e2,e3,e4,e5,e6⟩
 simp+decide (disch:=first|exact D0|fail) only[go_sem,↓reduceIte]
 have hza:nl (zv n' a').natAbs<=k:=by rw[Qa8];exact Nat.le_trans (Qal g1) g3
 have hzb:nl (zv m' b').natAbs<=k:=by rw[Qa8];exact Nat.le_trans (Qal e1) e3
 have hvd:nl (val d')<=k:=Nat.le_trans (Qal g2) g4
 have hvc:nl (val c')<=k:=Nat.le_trans (Qal e2) e4
 have h3:=Qat (zv n' a') (zv m' b')
 have h6:=Qcz (val d') (val c')
 refine Qa hP (Qdf (n:=n') (m:=m') g1 e1 (by omega) (by omega)) rfl rfl rfl ?_
 simp+decide (disch:=first|exact D0|fail) only[go_sem,↓reduceIte]
 refine Qa hP (Qmj g2 e2 (by omega) (by omega)) rfl rfl rfl ?_
 simp+decide (disch:=first|exact D0|fail) only[go_sem,↓reduceIte]
 refine Qa hP (Qiu (z:=zv n' a'*zv m' b') (Qj _) (by omega) (by show nl _<_;omega)) rfl rfl rfl ?_
 simp+decide (disch:=first|exact D0|fail) only[go_sem,↓reduceIte]
 refine Qa5 ?_
 simp+decide (disch:=first|exact D0|fail) only[go_sem,↓reduceIte]
 refine Qc ?_ rfl
 rw[Q3,<-g6,<-e6]
 unfold rv
 rw[Rat.mkRat_mul_mkRat]
theorem Qiw{n:Bool}{a d:List Nat}{k:Nat}(hp:Raw k n a d)(hk:k<2^36):Qd Tryz.prog 25 [PV.rr n a d] (· = .int .i64 (Qc6 (rv n a d))):=by
 refine Qf Ql Tryz.func25 rfl Qaeg (by simp[c25]) fun C hP=> ?_;simp only[c25,Zo,Zg,Zm,Zc,Zf,Zl,Zh,Zs,Zi,Zb,Zk,Zn,Zu,Zq,Zr,Zz]
 simp+decide (disch:=first|exact D0|fail) only[go_sem,↓reduceIte]
 refine Qcn hP (Qdg hp.la hp.ld hp.k1 hp.sa hp.sd (by omega)) rfl rfl rfl ?_
 rintro _ ⟨n',a',d',rfl,g1,g2,g3,g4,g5,g6⟩
 simp+decide (disch:=first|exact D0|fail) only[go_sem,↓reduceIte]
 refine Qa hP (Qhy g1 (by omega)) rfl rfl rfl ?_
 simp+decide (disch:=first|exact D0|fail) only[go_sem,↓reduceIte]
 exact Qc (by rw[<-g6];unfold rv;rw[Q3l g5]) rfl
theorem Q4e{n m:Bool}{a d b c:List Nat}{k:Nat}(hp:Raw k n a d)(hq:Raw k m b c)(hk:k<2^36):Qd Tryz.prog 92 [PV.rr n a d,PV.rr m b c] (· = .int .i64 (Qhg (rv n a d) (rv m b c))):=by
 refine Qf Ql Tryz.func92 rfl Qaeh (by simp[c92]) fun C hP=> ?_;simp only[c92,Zo,Zg,Zm,Zc,Zf,Zl,Zh,Zs,Zi,Zb,Zk,Zn,Zu,Zq,Zr,Zz]
 simp+decide (disch:=first|exact D0|fail) only[go_sem,↓reduceIte]
 refine Qa hP (Qiw hp hk) rfl rfl rfl ?_
 simp+decide (disch:=first|exact D0|fail) only[go_sem,↓reduceIte]
 refine Qa hP (Qiw hq hk) rfl rfl rfl ?_
 simp+decide (disch:=first|exact D0|fail) only[go_sem,↓reduceIte]
 refine Qb (fun h1=> ?_) (fun h1=> ?_)
 ·simp+decide (disch:=first|exact D0|fail) only[go_sem,↓reduceIte]
  refine Qb (fun h2=> ?_) (fun h2=> ?_)
  ·simp+decide (disch:=first|exact D0|fail) only[go_sem,↓reduceIte]
   exact Qc (by rw[Qwc h2]) rfl
  ·simp+decide (disch:=first|exact D0|fail) only[go_sem,↓reduceIte]
   exact Qc (by rw[Q6k (by omega)]) rfl
 simp+decide (disch:=first|exact D0|fail) only[go_sem,↓reduceIte]
 refine Qcn hP (Qdg hp.la hp.ld hp.k1 hp.sa hp.sd (by omega)) rfl rfl rfl ?_
 rintro _ ⟨n',a',d',rfl,g1,g2,g3,g4,g5,g6⟩
 simp+decide (disch:=first|exact D0|fail) only[go_sem,↓reduceIte]
 refine Qcn hP (Qdg hq.la hq.ld hq.k1 hq.sa hq.sd (by omega)) rfl rfl rfl ?_
 rintro _ ⟨m',b',c',rfl,e1,e2,e3,e4,e5,e6⟩
 have hza:nl (zv n' a').natAbs<=k:=by rw[Qa8];exact Nat.le_trans (Qal g1) g3
 have hzb:nl (zv m' b').natAbs<=k:=by rw[Qa8];exact Nat.le_trans (Qal e1) e3
 have hvd:nl (val d')<=k:=Nat.le_trans (Qal g2) g4
 have hvc:nl (val c')<=k:=Nat.le_trans (Qal e2) e4
 have h3:=Qat (zv n' a') (val c')
 have h4:=Qat (zv m' b') (val d')
 rw[Int.natAbs_natCast]at h3 h4
 simp+decide (disch:=first|exact D0|fail) only[go_sem,↓reduceIte]
 refine Qa hP (Qd0 _) rfl rfl rfl ?_
 simp+decide (disch:=first|exact D0|fail) only[go_sem,↓reduceIte]
 refine Qa hP (Qdf (n:=n') (m:=false) g1 e2 (by omega) (by omega)) rfl rfl rfl ?_
 simp+decide (disch:=first|exact D0|fail) only[go_sem,↓reduceIte]
 refine Qa hP (Qd0 _) rfl rfl rfl ?_
 simp+decide (disch:=first|exact D0|fail) only[go_sem,↓reduceIte]
 refine Qa hP (Qdf (n:=m') (m:=false) e1 g2 (by omega) (by omega)) rfl rfl rfl ?_
 rw[Qfi,Qfi]
 simp+decide (disch:=first|exact D0|fail) only[go_sem,↓reduceIte]
 refine Qa hP (Q7h (x:=zv n' a'*(val c':Int)) (y:=zv m' b'*(val d':Int)) (by omega) (by omega)) rfl rfl rfl ?_
 simp+decide (disch:=first|exact D0|fail) only[go_sem,↓reduceIte]
 exact Qc (by rw[<-g6,<-e6];unfold rv;rw[Qzd g5 e5]) rfl
theorem Q4f{x:Int}(h1: -9223372036854775808<=x)(h2:x<=9223372036854775807):Qd Tryz.prog 80 [.int .i64 x] (· =PV.zz x):=by
 refine Qf Ql Tryz.func80 rfl Qad7 (by simp[c80]) fun C hP=> ?_;simp only[c80,Zo,Zg,Zm,Zc,Zf,Zl,Zh,Zs,Zi,Zb,Zk,Zn,Zu,Zq,Zr,Zz]
 simp+decide (disch:=first|exact D0|fail) only[go_sem,↓reduceIte]
 refine Qb (fun hc=> ?_) (fun hc=> ?_)
 ·obtain⟨y,hy⟩:∃y:Nat,x= -((y:Int)+1):=⟨(-(x+1)).toNat,by omega⟩
  have e1:IntKind.i64.wrap (x+1)= -(y:Int):=by rw[Qgd (by omega) (by omega)];omega
  have e2:IntKind.i64.wrap (0- -(y:Int))=(y:Int):=by rw[Qgd (by omega) (by omega)];omega
  have e3:IntKind.u64.wrap (y:Int)=(y:Int):=Qem (by omega) (by omega)
  have e4:IntKind.u64.wrap ((y+1:Nat):Int)=((y+1:Nat):Int):=Qem (by omega) (by omega)
  simp+decide (disch:=first|exact D4 e1 e2 e3 e4|fail) only[go_sem,↓reduceIte,e1,e2,e3,e4]
  refine Qa hP (Qoh (by omega)) rfl rfl rfl ?_
  simp+decide (disch:=first|exact D0|fail) only[go_sem,↓reduceIte]
  refine Qa hP (Qez true (y+1)) rfl rfl rfl ?_
  simp+decide (disch:=first|exact D0|fail) only[go_sem,↓reduceIte]
  refine Qa5 ?_
  simp+decide (disch:=first|exact D0|fail) only[go_sem,↓reduceIte]
  exact Qc (congrArg PV.zz (by simp;omega)) rfl
 ·obtain⟨y,rfl⟩:∃y:Nat,x=y:=⟨x.toNat,by omega⟩
  simp+decide (disch:=first|exact D0|fail) only[go_sem,↓reduceIte]
  refine Qa hP (Qoh (by omega)) rfl rfl rfl ?_
  simp+decide (disch:=first|exact D0|fail) only[go_sem,↓reduceIte]
  refine Qa hP (Qez false y) rfl rfl rfl ?_
  simp+decide (disch:=first|exact D0|fail) only[go_sem,↓reduceIte]
  refine Qa5 ?_
  simp+decide (disch:=first|exact D0|fail) only[go_sem,↓reduceIte]
  exact Qc (congrArg PV.zz (by simp)) rfl
theorem Qkj{x:Int}(h1: -9223372036854775808<=x)(h2:x<=9223372036854775807):Qd Tryz.prog 46 [.int .i64 x] (· =PV.rat (x:Rat)):=by
 refine Qf Ql Tryz.func46 rfl Qaef (by simp[c46]) fun C hP=> ?_;simp only[c46,Zo,Zg,Zm,Zc,Zf,Zl,Zh,Zs,Zi,Zb,Zk,Zn,Zu,Zq,Zr,Zz]
 simp+decide (disch:=first|exact D0|fail) only[go_sem,↓reduceIte]
 refine Qa hP (Q4f h1 h2) rfl rfl rfl ?_
 simp+decide (disch:=first|exact D0|fail) only[go_sem,↓reduceIte]
 refine Qa hP Qkg rfl rfl rfl ?_
 simp+decide (disch:=first|exact D0|fail) only[go_sem,↓reduceIte]
 refine Qa5 ?_
 simp+decide (disch:=first|exact D0|fail) only[go_sem,↓reduceIte]
 exact Qc (by rw[PV.rat,Rat.num_intCast,Rat.den_intCast,PV.num,PV.num,Qfw];rfl) rfl
theorem Qw3{n:Bool}{a:List Nat}(ha:Qi a)(hla:a.length<2^42):Qd Tryz.prog 137 [PV.zi n a] (· = .bool (Qf3 n a)):=by
 refine Qf Ql Tryz.func137 rfl Qaaw (by simp[Q68]) fun C hP=> ?_;simp only[Q68,Zo,Zg,Zm,Zc,Zf,Zl,Zh,Zs,Zi,Zb,Zk,Zn,Zu,Zq,Zr,Zz]
 simp+decide (disch:=first|exact D0|fail) only[go_sem,↓reduceIte]
 refine Qan (fun h0=> ?_) (fun h0=> ?_)
 ·have:a=[]:=List.length_eq_zero_iff.1 (by omega)
  subst this
  simp+decide (disch:=first|exact D0|fail) only[go_sem,↓reduceIte]
  cases n
  ·simp+decide (disch:=first|exact D0|fail) only[go_sem,↓reduceIte]
   refine Qc (congrArg PV.bool ?_) rfl
   simp[Qf3]
  ·simp+decide (disch:=first|exact D0|fail) only[go_sem,↓reduceIte]
   refine Qc (congrArg PV.bool ?_) rfl
   simp[Qf3]
 ·obtain⟨k,hk⟩:∃k,a.length=k+1:=⟨a.length-1,by omega⟩
  have hne:a≠[]:=fun h=>by rw[h]at hk;simp at hk
  have hl:=Qou hk
  have e:((k+1:Nat):Int)-1=k:=by omega
  generalize hx:a[k]'(by omega)=x at *
  simp+decide (disch:=first|exact D3 hk e hx|fail) only[go_sem,↓reduceIte,hk,e,hx]
  refine Qan (fun h=> ?_) (fun h=>absurd (by omega) h)
  simp+decide (disch:=first|exact D3 hk e hx|fail) only[go_sem,↓reduceIte,hk,e,hx]
  refine Qc (congrArg PV.bool ?_) rfl
  unfold Qf3
  rw[if_neg hne,hl]
  exact decide_eq_decide.2 ⟨fun h h'=>h (by injection h' with h';rw[h'];rfl),fun h h'=>h (by rw[show x=0 by omega])⟩
end Go.Proofs.YtdacdnoebgcjhaaGreat
namespace Go.Proofs.YtdacdnoebgcjhaaGreat
open Go Go.FW
set_option linter.unusedSimpArgs false
set_option linter.unusedVariables false
set_option maxRecDepth 100000
theorem Qye{n:Bool}{a d:List Nat}{k:Nat}(hp:Raw k n a d)(hk:k<2^36):Qd Tryz.prog 121 [PV.rr n a d] (· = .bool (Qf4 n a d)):=by
 obtain⟨ha,hd,sa,sd,k1⟩:=hp
 refine Qf Ql Tryz.func121 rfl Qaa1 (by simp[Q7d]) fun C hP=> ?_;simp only[Q7d,Zo,Zg,Zm,Zc,Zf,Zl,Zh,Zs,Zi,Zb,Zk,Zn,Zu,Zq,Zr,Zz]
 simp+decide (disch:=first|exact D0|fail) only[go_sem,↓reduceIte]
 refine Qa hP (Qw3 ha (by omega)) rfl rfl rfl ?_
 unfold Qf4
 simp+decide (disch:=first|exact D0|fail) only[go_sem,↓reduceIte]
 cases hio:Qf3 n a
 ·simp+decide (disch:=first|omega|rfl|(simp+decide only[go_sem,↓reduceIte,Bool.not_false]<;>rfl)|fail) only[go_sem,↓reduceIte,Bool.not_false]
  exact Qc (by simp) rfl
 rw[Bool.true_and]
 simp+decide (disch:=first|omega|rfl|(simp+decide only[go_sem,↓reduceIte,Bool.not_true]<;>rfl)|fail) only[go_sem,↓reduceIte,Bool.not_true]
 refine Qv (fun h0=> ?_) (fun h0=> ?_)
 ·have:d=[]:=List.length_eq_zero_iff.1 (by omega)
  subst this
  simp+decide (disch:=first|exact D0|fail) only[go_sem,↓reduceIte]
  exact Qc (by simp) rfl
 obtain⟨k',hk'⟩:∃k,d.length=k+1:=⟨d.length-1,by omega⟩
 have hne:d≠[]:=fun h=>by rw[h]at hk';simp at hk'
 have hl:=Qou hk'
 have e:((k'+1:Nat):Int)-1=k':=by omega
 generalize hx:d[k']'(by omega)=x at *
 simp+decide (disch:=first|exact D3 hk' e hx|fail) only[go_sem,↓reduceIte,hk',e,hx]
 refine Qb (fun h1=> ?_) (fun h1=> ?_)
 ·simp+decide (disch:=first|exact D0|fail) only[go_sem,↓reduceIte]
  refine Qc (congrArg PV.bool ?_) rfl
  rw[hl,show x=0 by omega];simp
 have hx0:x≠0:=by omega
 simp+decide (disch:=first|exact D0|fail) only[go_sem,↓reduceIte]
 refine Qa hP (Qml (by omega)) rfl rfl rfl ?_
 simp+decide (disch:=first|exact D0|fail) only[go_sem,↓reduceIte]
 refine Qv (fun h2=> ?_) (fun h2=> ?_)
 ·subst h2
  simp+decide (disch:=first|exact D0|fail) only[go_sem,↓reduceIte]
  refine Qc (congrArg PV.bool ?_) rfl
  simp[val]
 ·simp+decide (disch:=first|exact D0|fail) only[go_sem,↓reduceIte]
  refine Qa hP (Qwo ha hd (by omega) (by omega)) rfl rfl rfl ?_
  have hD:0<val d:=by
   apply Nat.pos_of_ne_zero
   intro h0
   have hdd:=Qlb hd (by rw[hl];simpa using hx0)
   rw[h0,Qax]at hdd
   exact hne hdd.symm
  have hgl:(dig (Nat.gcd (val a) (val d))).length<2^43:=by
   have h3:=Qa7 (Nat.gcd_le_right (val a) hD)
   have h4:=Qal hd
   unfold nl at h3 h4;omega
  simp+decide (disch:=first|exact D0|fail) only[go_sem,↓reduceIte]
  refine Qa hP (Qso hgl) rfl rfl rfl ?_
  simp+decide (disch:=first|exact D0|fail) only[go_sem,↓reduceIte]
  refine Qc (congrArg PV.bool ?_) rfl
  rw[hl];simp[hne,hx0]
end Go.Proofs.YtdacdnoebgcjhaaGreat
namespace Go.Proofs.YtdacdnoebgcjhaaGreat
open Go Go.FW
set_option linter.unusedSimpArgs false
set_option linter.unusedVariables false
set_option maxRecDepth 100000
theorem Qo6{a:List Int}(hl:a.length<2^42):Qd Tryz.prog 79 [PV.mono a] (· =PV.mono (Qhx a)):=by
 refine Qf Ql Tryz.func79 rfl Qaf9 (by simp[c79]) fun C hP=> ?_;simp only[c79,Zo,Zg,Zm,Zc,Zf,Zl,Zh,Zs,Zi,Zb,Zk,Zn,Zu,Zq,Zr,Zz]
 simp+decide (disch:=first|exact D0|fail) only[go_sem,↓reduceIte]
 refine Qw (by repeat (first|exact Qu|exact Qn|exact Qo|exact Qp|exact Qq|apply Qm|apply Qt|apply Qy|apply Q5|apply Q6|apply Qk)) [(3,3),(6,17)] [] (fun n J hp=>n<=a.length/\Qhh a n=Qhx a/\J 3= .int .i64 n/\hp=hp0) a.length ?_ ?_
 ·refine⟨Nat.le_refl _,rfl,?_⟩
  simp+decide (disch:=first|exact D0|fail) only[go_sem,↓reduceIte]
 rintro n J _ ⟨hn,hc,h3,rfl⟩
 simp+decide (disch:=first|exact D1 h3|fail) only[go_sem,↓reduceIte,h3]
 refine Qan (fun hg=> ?_) (fun hg=> ?_)
 ·obtain _|n:=n
  ·omega
  have e:((n+1:Nat):Int)-1=n:=by omega
  simp only[Qhh]at hc
  simp+decide (disch:=first|exact D2 h3 e|fail) only[go_sem,↓reduceIte,h3,e]
  refine Qb (fun hz=> ?_) (fun hz=> ?_)
  ·rw[if_pos (by simp[hz,show n<a.length by omega])]at hc
   simp+decide (disch:=first|exact D2 h3 e|fail) only[go_sem,↓reduceIte,h3,e]
   refine Qh n (by omega) ⟨by omega,hc,?_⟩
   simp+decide (disch:=first|exact D0|fail) only[go_sem,↓reduceIte]
  ·rw[if_neg (by simpa[show n<a.length by omega]using hz)]at hc
   simp+decide (disch:=first|exact D2 h3 e|fail) only[go_sem,↓reduceIte,h3,e]
   refine Qb (fun h=>by omega) (fun h=> ?_)
   simp+decide (disch:=first|exact D2 h3 e|fail) only[go_sem,↓reduceIte,h3,e]
   exact Qc (congrArg PV.mono hc) rfl
 ·obtain rfl:n=0:=by omega
  simp+decide (disch:=first|exact D1 h3|fail) only[go_sem,↓reduceIte,h3]
  exact Qdu (Q3m (by rw[<-hc];rfl)) rfl
theorem Qw4{a:List Int}(hl:a.length<2^42):Qd Tryz.prog 122 [PV.mono a] (· = .bool (Qcc a)):=by
 refine Qf Ql Tryz.func122 rfl Qabu (by simp[Q8b]) fun C hP=> ?_;simp only[Q8b,Zo,Zg,Zm,Zc,Zf,Zl,Zh,Zs,Zi,Zb,Zk,Zn,Zu,Zq,Zr,Zz]
 simp+decide (disch:=first|exact D0|fail) only[go_sem,↓reduceIte]
 have bad:(64<a.length∨a.getLast? =some 0∨∃x∈a,x<0∨1048576<x)->Qcc a=false:=fun h=>by
  cases hb:Qcc a with
  |false=>rfl
  |true=>
   have:=MB.ofOk hb
   simp only[Qcc,Bool.and_eq_true,decide_eq_true_eq]at hb
   rcases h with h|h|⟨x,hx,h⟩
   ·omega
   ·exact absurd h hb.2.1
   ·have h5:=this.lo x hx;have h6:=this.hi x hx;omega
 refine Qv (fun h1=> ?_) (fun h1=> ?_)
 ·simp+decide (disch:=first|exact D0|fail) only[go_sem,↓reduceIte]
  exact Qc (by rw[bad (.inl (by omega))]) rfl
 simp+decide (disch:=first|exact D0|fail) only[go_sem,↓reduceIte]
 have fin:a.length<=64->a.getLast? ≠some 0->(∀x∈a,0<=x/\x<=1048576)->Qcc a=true:=fun h1 h2 h3=>by
  simp only[Qcc,Bool.and_eq_true,decide_eq_true_eq,List.all_eq_true];exact⟨h1,h2,h3⟩
 refine Qan (fun h2=> ?_) (fun h2=> ?_)
 ·obtain⟨k,hk⟩:∃k,a.length=k+1:=⟨a.length-1,by omega⟩
  have hlast:=Qpp hk
  have e:((k+1:Nat):Int)-1=k:=by omega
  generalize hy:a[k]'(by omega)=y at *
  simp+decide (disch:=first|exact D3 hk e hy|fail) only[go_sem,↓reduceIte,hk,e,hy]
  refine Qb (fun h3=> ?_) (fun h3=> ?_)
  ·simp+decide (disch:=first|exact D0|fail) only[go_sem,↓reduceIte]
   exact Qc (by rw[bad (.inr (.inl (by rw[hlast,h3])))]) rfl
  have hlast:a.getLast? ≠some 0:=by rw[hlast];simpa using h3
  rw[<-hk]at *
  simp+decide (disch:=first|exact D0|fail) only[go_sem,↓reduceIte]
  refine Qw (by repeat (first|exact Qu|exact Qn|exact Qo|exact Qp|exact Qq|apply Qm|apply Qt|apply Qy|apply Q5|apply Q6|apply Qk)) [(2,2),(4,4),(24,34)] [] (fun k J hp=>∃i,k=a.length-i/\i<=a.length/\(∀x∈a.take i,0<=x/\x<=1048576)/\J 24= .int .i64 i/\hp=hp0) a.length ?_ ?_
  ·refine⟨0,rfl,by omega,by simp,?_⟩
   simp+decide (disch:=first|exact D0|fail) only[go_sem,↓reduceIte]
   rfl
  rintro _ J _ ⟨i,rfl,hi,hall,h24,rfl⟩
  simp+decide (disch:=first|exact D1 h24|fail) only[go_sem,↓reduceIte,h24]
  refine Qb (fun hg=> ?_) (fun hg=> ?_)
  ·have hi':i<a.length:=by omega
   have hmem:=List.getElem_mem hi'
   have htk:∀x∈a.take (i+1),x∈a.take i∨x=a[i]:=fun x hx=>by
    rw[List.take_succ_eq_append_getElem hi']at hx
    rcases List.mem_append.1 hx with h|h
    ·exact .inl h
    ·exact .inr (List.mem_singleton.1 h)
   generalize hx:a[i]=x at *
   simp+decide (disch:=first|exact D2 h24 hx|fail) only[go_sem,↓reduceIte,h24,hx]
   refine Qv (fun h5=> ?_) (fun h5=> ?_)
   ·simp+decide (disch:=first|exact D0|fail) only[go_sem,↓reduceIte]
    exact Qc (by rw[bad (.inr (.inr ⟨x,hmem,.inl h5⟩))]) rfl
   ·simp+decide (disch:=first|exact D0|fail) only[go_sem,↓reduceIte]
    refine Qb (fun h6=> ?_) (fun h6=> ?_)
    ·simp+decide (disch:=first|exact D0|fail) only[go_sem,↓reduceIte]
     exact Qc (by rw[bad (.inr (.inr ⟨x,hmem,.inr h6⟩))]) rfl
    ·simp+decide (disch:=first|exact D1 h24|fail) only[go_sem,↓reduceIte,h24]
     refine Qh (a.length-(i+1)) (by omega) ⟨i+1,rfl,by omega,fun y hy=> ?_,?_⟩
     ·rcases htk y hy with h|rfl
      ·exact hall y h
      ·omega
     ·simp+decide (disch:=first|exact D0|fail) only[go_sem,↓reduceIte]
  ·rw[List.take_of_length_le (by omega)]at hall
   simp+decide (disch:=first|exact D0|fail) only[go_sem,↓reduceIte]
   exact Qc (by rw[fin (by omega) hlast hall]) rfl
 ·have hnil:a=[]:=List.length_eq_zero_iff.1 (by omega)
  have hlast:a.getLast? ≠some 0:=by rw[hnil];simp
  simp+decide (disch:=first|exact D0|fail) only[go_sem,↓reduceIte]
  refine Qw (by repeat (first|exact Qu|exact Qn|exact Qo|exact Qp|exact Qq|apply Qm|apply Qt|apply Qy|apply Q5|apply Q6|apply Qk)) [(2,2),(4,4),(24,34)] [] (fun k J hp=>∃i,k=a.length-i/\i<=a.length/\(∀x∈a.take i,0<=x/\x<=1048576)/\J 24= .int .i64 i/\hp=hp0) a.length ?_ ?_
  ·refine⟨0,rfl,by omega,by simp,?_⟩
   simp+decide (disch:=first|exact D0|fail) only[go_sem,↓reduceIte]
   rfl
  rintro _ J _ ⟨i,rfl,hi,hall,h24,rfl⟩
  simp+decide (disch:=first|exact D1 h24|fail) only[go_sem,↓reduceIte,h24]
  refine Qb (fun hg=> ?_) (fun hg=> ?_)
  ·have hi':i<a.length:=by omega
   have hmem:=List.getElem_mem hi'
   have htk:∀x∈a.take (i+1),x∈a.take i∨x=a[i]:=fun x hx=>by
    rw[List.take_succ_eq_append_getElem hi']at hx
    rcases List.mem_append.1 hx with h|h
    ·exact .inl h
    ·exact .inr (List.mem_singleton.1 h)
   generalize hx:a[i]=x at *
   simp+decide (disch:=first|exact D2 h24 hx|fail) only[go_sem,↓reduceIte,h24,hx]
   refine Qv (fun h5=> ?_) (fun h5=> ?_)
   ·simp+decide (disch:=first|exact D0|fail) only[go_sem,↓reduceIte]
    exact Qc (by rw[bad (.inr (.inr ⟨x,hmem,.inl h5⟩))]) rfl
   ·simp+decide (disch:=first|exact D0|fail) only[go_sem,↓reduceIte]
    refine Qb (fun h6=> ?_) (fun h6=> ?_)
    ·simp+decide (disch:=first|exact D0|fail) only[go_sem,↓reduceIte]
     exact Qc (by rw[bad (.inr (.inr ⟨x,hmem,.inr h6⟩))]) rfl
    ·simp+decide (disch:=first|exact D1 h24|fail) only[go_sem,↓reduceIte,h24]
     refine Qh (a.length-(i+1)) (by omega) ⟨i+1,rfl,by omega,fun y hy=> ?_,?_⟩
     ·rcases htk y hy with h|rfl
      ·exact hall y h
      ·omega
     ·simp+decide (disch:=first|exact D0|fail) only[go_sem,↓reduceIte]
  ·rw[List.take_of_length_le (by omega)]at hall
   simp+decide (disch:=first|exact D0|fail) only[go_sem,↓reduceIte]
   exact Qc (by rw[fin (by omega) hlast hall]) rfl
theorem Qil{a:List Int}(hl:a.length<=1048576)(hb:∀x∈a,0<=x/\x<=1099511627776):Qd Tryz.prog 57 [PV.mono a] (· = .int .i64 (Qe4 a)):=by
 refine Qf Ql Tryz.func57 rfl Qaga (by simp[c57]) fun C hP=> ?_;simp only[c57,Zo,Zg,Zm,Zc,Zf,Zl,Zh,Zs,Zi,Zb,Zk,Zn,Zu,Zq,Zr,Zz]
 simp+decide (disch:=first|exact D0|fail) only[go_sem,↓reduceIte]
 refine Qw (by repeat (first|exact Qu|exact Qn|exact Qo|exact Qp|exact Qq|apply Qm|apply Qt|apply Qy|apply Q5|apply Q6|apply Qk)) [(3,3),(5,5),(8,15)] [] (fun k J hp=>∃(i:Nat)(s:Int),k=a.length-i/\i<=a.length/\0<=s/\s<=1099511627776*i/\s+(a.drop i).sum=Qe4 a/\J 8= .int .i64 (i:Nat)/\J 3= .int .i64 s/\hp=hp0) a.length ?_ ?_
 ·refine⟨0,0,rfl,by omega,by omega,by omega,by simp[Qe4],?_⟩
  simp+decide (disch:=first|exact D0|fail) only[go_sem,↓reduceIte]
  simp
 rintro _ J _ ⟨i,s,rfl,hi,hs0,hs1,hsum,h8,h3,rfl⟩
 simp+decide (disch:=first|exact D2 h8 h3|fail) only[go_sem,↓reduceIte,h8,h3]
 refine Qb (fun hg=> ?_) (fun hg=> ?_)
 ·have hi':i<a.length:=by omega
  have hx:=hb _ (List.getElem_mem hi')
  rw[List.drop_eq_getElem_cons hi',List.sum_cons]at hsum
  generalize hxx:a[i]=x at *
  simp+decide (disch:=first|exact D3 h8 h3 hxx|fail) only[go_sem,↓reduceIte,h8,h3,hxx]
  refine Qh (a.length-(i+1)) (by omega) ⟨i+1,s+x,rfl,by omega,by omega,by push_cast;omega,by omega,?_⟩
  simp+decide (disch:=first|exact D0|fail) only[go_sem,↓reduceIte]
 ·rw[List.drop_of_length_le (by omega),List.sum_nil,Int.add_zero]at hsum
  simp+decide (disch:=first|exact D1 h3|fail) only[go_sem,↓reduceIte,h3]
  exact Qc (by rw[hsum]) rfl
theorem Q1i{a:List Int}{v:Int}(hl:a.length<2^42):Qd Tryz.prog 135 [PV.mono a,.int .i64 v] (· = .int .i64 (if v<0 then 0 else eN a v.toNat)):=by
 refine Qf Ql Tryz.func135 rfl Qabv (by simp[Q8c]) fun C hP=> ?_;simp only[Q8c,Zo,Zg,Zm,Zc,Zf,Zl,Zh,Zs,Zi,Zb,Zk,Zn,Zu,Zq,Zr,Zz]
 simp+decide (disch:=first|exact D0|fail) only[go_sem,↓reduceIte]
 refine Qv (fun h1=> ?_) (fun h1=> ?_)
 ·simp+decide (disch:=first|exact D0|fail) only[go_sem,↓reduceIte]
  exact Qc (by rw[if_pos h1]) rfl
 ·obtain⟨n,rfl⟩:∃n:Nat,v=n:=⟨v.toNat,by omega⟩
  rw[if_neg h1]
  simp+decide (disch:=first|exact D0|fail) only[go_sem,↓reduceIte]
  refine Qb (fun h2=> ?_) (fun h2=> ?_)
  ·simp+decide (disch:=first|exact D0|fail) only[go_sem,↓reduceIte]
   exact Qc (by rw[Qed (by omega)]) rfl
  ·have hn:n<a.length:=by omega
   simp+decide (disch:=first|exact D0|fail) only[go_sem,↓reduceIte]
   exact Qc (by rw[Qcu hn]) rfl
theorem Qkk{a:List Int}{i:Nat}(hl:a.length<2^42):Qd Tryz.prog 135 [PV.mono a,.int .i64 i] (· = .int .i64 (eN a i)):=by
 have:=Q1i (v:=i) hl
 rwa[if_neg (by omega),Int.toNat_natCast]at this
end Go.Proofs.YtdacdnoebgcjhaaGreat
namespace Go.Proofs.YtdacdnoebgcjhaaGreat
open Go Go.FW
set_option linter.unusedSimpArgs false
set_option linter.unusedVariables false
set_option maxRecDepth 100000
theorem Qsw{a b:List Int}{f:Nat}{g:Int->Int->Int}(hla:a.length<2^40)(hlb:b.length<2^40)(hf:∀i,Qd Tryz.prog f [.int .i64 (eN a i),.int .i64 (eN b i)] (· = .int .i64 (g (eN a i) (eN b i)))):
  Qd Tryz.prog 119 [PV.mono a,PV.mono b,.fn f [] []] (· =PV.mono (Qfk g a b)):=by
 refine Qf Ql Tryz.func119 rfl Qabt (by simp[Q8a]) fun C hP=> ?_;simp only[Q8a,Zo,Zg,Zm,Zc,Zf,Zl,Zh,Zs,Zi,Zb,Zk,Zn,Zu,Zq,Zr,Zz]
 simp+decide (disch:=first|exact D0|fail) only[go_sem,↓reduceIte]
 refine Qw (by repeat (first|exact Qu|exact Qn|exact Qo|exact Qp|exact Qq|apply Qm|apply Qt|apply Qy|apply Q5|apply Q6|apply Qk)) [(8,10),(19,45)] [] (fun k J hp=>∃i,k=max a.length b.length-i/\i<=max a.length b.length/\J 19= .int .i64 (i:Nat)/\hp=Qx hp0 16 ⟨1,3,Qjm ((Qfk g a b).take i++List.replicate (max a.length b.length-i) 0),false⟩) (max a.length b.length) ?_ ?_
 ·refine⟨0,rfl,by omega,?_⟩
  simp+decide (disch:=first|exact D0|fail) only[go_sem,↓reduceIte]
  simp
 rintro _ J _ ⟨i,rfl,hi,h19,rfl⟩
 simp+decide (disch:=first|exact D1 h19|fail) only[go_sem,↓reduceIte,h19]
 refine Qb (fun hg=> ?_) (fun hg=> ?_)
 ·have hi':i<max a.length b.length:=by omega
  have hfi:=hf i
  have htl:((Qfk g a b).take i).length=i:=by rw[List.length_take,Qb4];omega
  have hset:=fun v=>Q3n (v:=v) (z:=(0:Int)) htl (show 0<max a.length b.length-i by omega)
  have hlen:i<((Qfk g a b).take i++List.replicate (max a.length b.length-i) (0:Int)).length:=by rw[List.length_append,htl,List.length_replicate];omega
  have htk:=Qni (g:=g) hi'
  have fin:∀x y,x=eN a i->y=eN b i->Qd Tryz.prog f [.int .i64 x,.int .i64 y] (· = .int .i64 (g (eN a i) (eN b i))):=by rintro _ _ rfl rfl;exact hfi
  simp+decide (disch:=first|exact D1 h19|fail) only[go_sem,↓reduceIte,h19]
  refine Qb (fun h1=> ?_) (fun h1=> ?_)
  ·have h1':i<a.length:=by omega
   simp+decide (disch:=first|exact D1 h19|fail) only[go_sem,↓reduceIte,h19]
   refine Qb (fun h2=> ?_) (fun h2=> ?_)
   ·have h2':i<b.length:=by omega
    simp+decide (disch:=first|exact D1 h19|fail) only[go_sem,↓reduceIte,h19]
    refine Qa hP (fin _ _ (Qcu h1').symm (Qcu h2').symm) rfl rfl rfl ?_
    simp+decide (disch:=first|omega|rfl|(simp+decide only[go_sem,↓reduceIte,h19,hset,<-htk]<;>rfl)|fail) only[go_sem,↓reduceIte,h19,hset,<-htk]
    refine Qh (max a.length b.length-(i+1)) (by omega) ⟨i+1,rfl,by omega,?_⟩
    simp+decide (disch:=first|omega|rfl|(simp+decide only[go_sem,↓reduceIte,Nat.sub_sub]<;>rfl)|fail) only[go_sem,↓reduceIte,Nat.sub_sub]
   ·simp+decide (disch:=first|exact D1 h19|fail) only[go_sem,↓reduceIte,h19]
    refine Qa hP (fin _ _ (Qcu h1').symm (Qed (by omega)).symm) rfl rfl rfl ?_
    simp+decide (disch:=first|omega|rfl|(simp+decide only[go_sem,↓reduceIte,h19,hset,<-htk]<;>rfl)|fail) only[go_sem,↓reduceIte,h19,hset,<-htk]
    refine Qh (max a.length b.length-(i+1)) (by omega) ⟨i+1,rfl,by omega,?_⟩
    simp+decide (disch:=first|omega|rfl|(simp+decide only[go_sem,↓reduceIte,Nat.sub_sub]<;>rfl)|fail) only[go_sem,↓reduceIte,Nat.sub_sub]
  ·simp+decide (disch:=first|exact D1 h19|fail) only[go_sem,↓reduceIte,h19]
   refine Qb (fun h2=> ?_) (fun h2=>by omega)
   have h2':i<b.length:=by omega
   simp+decide (disch:=first|exact D1 h19|fail) only[go_sem,↓reduceIte,h19]
   refine Qa hP (fin _ _ (Qed (by omega)).symm (Qcu h2').symm) rfl rfl rfl ?_
   simp+decide (disch:=first|omega|rfl|(simp+decide only[go_sem,↓reduceIte,h19,hset,<-htk]<;>rfl)|fail) only[go_sem,↓reduceIte,h19,hset,<-htk]
   refine Qh (max a.length b.length-(i+1)) (by omega) ⟨i+1,rfl,by omega,?_⟩
   simp+decide (disch:=first|omega|rfl|(simp+decide only[go_sem,↓reduceIte,Nat.sub_sub]<;>rfl)|fail) only[go_sem,↓reduceIte,Nat.sub_sub]
 ·obtain rfl:i=max a.length b.length:=by omega
  simp+decide (disch:=first|exact E0|fail) only[go_sem,↓reduceIte,Qz,List.contains_cons,List.contains_nil,List.flatMap_cons,List.flatMap_nil,List.append_nil]
  exact Qc (by simp[List.take_of_length_le,Qb4]) rfl
theorem Qyf{x y:Int}(h1: -9223372036854775808<=x+y)(h2:x+y<=9223372036854775807):Qd Tryz.prog 120 [.int .i64 x,.int .i64 y] (· = .int .i64 (x+y)):=by
 refine Qf Ql Tryz.func120 rfl Qabx (by simp[Q8e]) fun C hP=> ?_;simp only[Q8e,Zo,Zg,Zm,Zc,Zf,Zl,Zh,Zs,Zi,Zb,Zk,Zn,Zu,Zq,Zr,Zz]
 simp+decide (disch:=first|exact D0|fail) only[go_sem,↓reduceIte]
 exact Qc rfl rfl
theorem Q1j{k:Nat}{a b:List Int}(ha:MB k a)(hb:MB k b)(hk:k<=1099511627776):Qd Tryz.prog 102 [PV.mono a,PV.mono b] (· =PV.mono (Qby a b)):=by
 have h1:=ha.len
 have h2:=hb.len
 have hz:=Qb4 (· + ·) a b
 refine Qf Ql Tryz.func102 rfl Qabw (by simp[Q8d]) fun C hP=> ?_;simp only[Q8d,Zo,Zg,Zm,Zc,Zf,Zl,Zh,Zs,Zi,Zb,Zk,Zn,Zu,Zq,Zr,Zz]
 simp+decide (disch:=first|exact D0|fail) only[go_sem,↓reduceIte]
 refine Qa hP (Qsw (f:=120) (g:=(· + ·)) (by omega) (by omega) (fun i=>Qyf (by have:=ha.eN i;have:=hb.eN i;omega) (by have:=ha.eN i;have:=hb.eN i;omega))) rfl rfl rfl ?_
 simp+decide (disch:=first|exact D0|fail) only[go_sem,↓reduceIte]
 refine Qa hP (Qo6 (by omega)) rfl rfl rfl ?_
 simp+decide (disch:=first|exact D0|fail) only[go_sem,↓reduceIte]
 exact Qc rfl rfl
theorem Qyg{a:List Int}(hl:a.length<2^42):Qd Tryz.prog 45 [PV.mono a] (· = .int .i64 ((Qhx a).length-1)):=by
 have:=Qgz a
 refine Qf Ql Tryz.func45 rfl Qagb (by simp[c45]) fun C hP=> ?_;simp only[c45,Zo,Zg,Zm,Zc,Zf,Zl,Zh,Zs,Zi,Zb,Zk,Zn,Zu,Zq,Zr,Zz]
 simp+decide (disch:=first|exact D0|fail) only[go_sem,↓reduceIte]
 refine Qa hP (Qo6 hl) rfl rfl rfl ?_
 simp+decide (disch:=first|exact D0|fail) only[go_sem,↓reduceIte]
 exact Qc rfl rfl
theorem Qrf{k:Nat}{a b:List Int}{o:Int}(ha:MB k a)(hb:MB k b)(hk:k<=1099511627776):Qd Tryz.prog 116 [PV.mono a,PV.mono b,.int .i64 o] (· = .int .i64 (Qe5 o a b)):=by
 have h1:=ha.len
 have h2:=hb.len
 have hda:∀x∈a,0<=x/\x<=1099511627776:=fun x hx=>by have:=ha.lo x hx;have:=ha.hi x hx;omega
 have hdb:∀x∈b,0<=x/\x<=1099511627776:=fun x hx=>by have:=hb.lo x hx;have:=hb.hi x hx;omega
 refine Qf Ql Tryz.func116 rfl Qaby (by simp[Q8f]) fun C hP=> ?_;simp only[Q8f,Zo,Zg,Zm,Zc,Zf,Zl,Zh,Zs,Zi,Zb,Zk,Zn,Zu,Zq,Zr,Zz]
 simp+decide (disch:=first|exact D0|fail) only[go_sem,↓reduceIte]
 refine Qb (fun ho=> ?_) (fun ho=> ?_)
 ·simp+decide (disch:=first|exact D0|fail) only[go_sem,↓reduceIte]
  refine Qa hP (Qil (by omega) hda) rfl rfl rfl ?_
  simp+decide (disch:=first|exact D0|fail) only[go_sem,↓reduceIte]
  refine Qa hP (Qil (by omega) hdb) rfl rfl rfl ?_
  simp+decide (disch:=first|exact D0|fail) only[go_sem,↓reduceIte]
  refine Qb (fun hd=> ?_) (fun hd=> ?_)
  ·have hord:Qe5 o a b=Qbr (Qe4 a) (Qe4 b):=by unfold Qe5;rw[if_pos ⟨ho,hd⟩]
   simp+decide (disch:=first|exact D0|fail) only[go_sem,↓reduceIte]
   refine Qb (fun h5=> ?_) (fun h5=> ?_)
   ·simp+decide (disch:=first|exact D0|fail) only[go_sem,↓reduceIte]
    exact Qc (by rw[hord,Qbr,if_pos h5]) rfl
   ·simp+decide (disch:=first|exact D0|fail) only[go_sem,↓reduceIte]
    exact Qc (by rw[hord,Qbr,if_neg h5,if_pos (by omega)]) rfl
  have hord:Qe5 o a b=Qah a b:=by unfold Qe5;rw[if_neg (fun h=>hd h.2)]
  simp+decide (disch:=first|exact D0|fail) only[go_sem,↓reduceIte]
  refine Qw (by repeat (first|exact Qu|exact Qn|exact Qo|exact Qp|exact Qq|apply Qm|apply Qt|apply Qy|apply Q5|apply Q6|apply Qk)) [(6,6),(9,11),(30,45)] [] (fun n J hp=>n<=max a.length b.length/\Qbz a b n=Qah a b/\J 9= .int .i64 ((n:Int)-1)/\hp=hp0) (max a.length b.length) ?_ ?_
  ·refine⟨by omega,rfl,?_⟩
   simp+decide (disch:=first|exact D0|fail) only[go_sem,↓reduceIte]
  rintro n J _ ⟨hn,hc,h9,rfl⟩
  simp+decide (disch:=first|exact D1 h9|fail) only[go_sem,↓reduceIte,h9]
  refine Qb (fun hg=> ?_) (fun hg=> ?_)
  ·obtain _|n:=n
   ·omega
   have e:((n+1:Nat):Int)-1=n:=by omega
   rw[Qbz]at hc
   simp+decide (disch:=first|exact D2 h9 e|fail) only[go_sem,↓reduceIte,h9,e]
   refine Qa hP (Qkk (by omega)) rfl rfl rfl ?_
   simp+decide (disch:=first|exact D2 h9 e|fail) only[go_sem,↓reduceIte,h9,e]
   refine Qa hP (Qkk (by omega)) rfl rfl rfl ?_
   simp+decide (disch:=first|exact D2 h9 e|fail) only[go_sem,↓reduceIte,h9,e]
   refine Qb (fun h4=> ?_) (fun h4=> ?_)
   ·rw[if_neg h4]at hc
    simp+decide (disch:=first|exact D2 h9 e|fail) only[go_sem,↓reduceIte,h9,e]
    refine Qb (fun h5=> ?_) (fun h5=> ?_)
    ·simp+decide (disch:=first|exact D2 h9 e|fail) only[go_sem,↓reduceIte,h9,e]
     exact Qc (by rw[hord,<-hc,Qbr,if_pos h5]) rfl
    ·simp+decide (disch:=first|exact D2 h9 e|fail) only[go_sem,↓reduceIte,h9,e]
     exact Qc (by rw[hord,<-hc,Qbr,if_neg h5,if_pos (by omega)]) rfl
   ·rw[if_pos (by omega)]at hc
    simp+decide (disch:=first|exact D2 h9 e|fail) only[go_sem,↓reduceIte,h9,e]
    refine Qh n (by omega) ⟨by omega,hc,?_⟩
    simp+decide (disch:=first|exact D0|fail) only[go_sem,↓reduceIte]
  ·obtain rfl:n=0:=by omega
   simp+decide (disch:=first|exact D0|fail) only[go_sem,↓reduceIte]
   exact Qc (by rw[hord,<-hc];rfl) rfl
 ·have hord:Qe5 o a b=Qah a b:=by unfold Qe5;rw[if_neg (fun h=>ho h.1)]
  simp+decide (disch:=first|exact D0|fail) only[go_sem,↓reduceIte]
  refine Qw (by repeat (first|exact Qu|exact Qn|exact Qo|exact Qp|exact Qq|apply Qm|apply Qt|apply Qy|apply Q5|apply Q6|apply Qk)) [(6,6),(9,11),(30,45)] [] (fun n J hp=>n<=max a.length b.length/\Qbz a b n=Qah a b/\J 9= .int .i64 ((n:Int)-1)/\hp=hp0) (max a.length b.length) ?_ ?_
  ·refine⟨by omega,rfl,?_⟩
   simp+decide (disch:=first|exact D0|fail) only[go_sem,↓reduceIte]
  rintro n J _ ⟨hn,hc,h9,rfl⟩
  simp+decide (disch:=first|exact D1 h9|fail) only[go_sem,↓reduceIte,h9]
  refine Qb (fun hg=> ?_) (fun hg=> ?_)
  ·obtain _|n:=n
   ·omega
   have e:((n+1:Nat):Int)-1=n:=by omega
   rw[Qbz]at hc
   simp+decide (disch:=first|exact D2 h9 e|fail) only[go_sem,↓reduceIte,h9,e]
   refine Qa hP (Qkk (by omega)) rfl rfl rfl ?_
   simp+decide (disch:=first|exact D2 h9 e|fail) only[go_sem,↓reduceIte,h9,e]
   refine Qa hP (Qkk (by omega)) rfl rfl rfl ?_
   simp+decide (disch:=first|exact D2 h9 e|fail) only[go_sem,↓reduceIte,h9,e]
   refine Qb (fun h4=> ?_) (fun h4=> ?_)
   ·rw[if_neg h4]at hc
    simp+decide (disch:=first|exact D2 h9 e|fail) only[go_sem,↓reduceIte,h9,e]
    refine Qb (fun h5=> ?_) (fun h5=> ?_)
    ·simp+decide (disch:=first|exact D2 h9 e|fail) only[go_sem,↓reduceIte,h9,e]
     exact Qc (by rw[hord,<-hc,Qbr,if_pos h5]) rfl
    ·simp+decide (disch:=first|exact D2 h9 e|fail) only[go_sem,↓reduceIte,h9,e]
     exact Qc (by rw[hord,<-hc,Qbr,if_neg h5,if_pos (by omega)]) rfl
   ·rw[if_pos (by omega)]at hc
    simp+decide (disch:=first|exact D2 h9 e|fail) only[go_sem,↓reduceIte,h9,e]
    refine Qh n (by omega) ⟨by omega,hc,?_⟩
    simp+decide (disch:=first|exact D0|fail) only[go_sem,↓reduceIte]
  ·obtain rfl:n=0:=by omega
   simp+decide (disch:=first|exact D0|fail) only[go_sem,↓reduceIte]
   exact Qc (by rw[hord,<-hc];rfl) rfl
end Go.Proofs.YtdacdnoebgcjhaaGreat
namespace Go.Proofs.YtdacdnoebgcjhaaGreat
open Go Go.FW
set_option linter.unusedSimpArgs false
set_option linter.unusedVariables false
set_option maxRecDepth 100000
theorem Qjr(x:Int):Qd Tryz.prog 95 [.int .i64 x] (· = .int .i64 (sgn x)):=by
 refine Qf Ql Tryz.func95 rfl Qafg (by simp[c95]) fun C hP=> ?_;simp only[c95,Zo,Zg,Zm,Zc,Zf,Zl,Zh,Zs,Zi,Zb,Zk,Zn,Zu,Zq,Zr,Zz]
 simp+decide (disch:=first|exact D0|fail) only[go_sem,↓reduceIte]
 refine Qb (fun h=> ?_) (fun h=> ?_)
 ·simp+decide (disch:=first|exact D0|fail) only[go_sem,↓reduceIte]
  exact Qc (by rw[sgn,if_pos h]) rfl
 simp+decide (disch:=first|exact D0|fail) only[go_sem,↓reduceIte]
 refine Qb (fun h2=> ?_) (fun h2=> ?_)
 ·simp+decide (disch:=first|exact D0|fail) only[go_sem,↓reduceIte]
  exact Qc (by rw[sgn,if_neg h,if_pos h2]) rfl
 ·simp+decide (disch:=first|exact D0|fail) only[go_sem,↓reduceIte]
  exact Qc (by rw[sgn,if_neg h,if_neg h2]) rfl
theorem Qyh{a:List Int}{v:Int}(hl:a.length<2^42):Qd Tryz.prog 96 [PV.mono a,.int .i64 v] (· = .int .i64 (if v<0 then 0 else eN a v.toNat)):=by
 refine Qf Ql Tryz.func96 rfl Qafd (by simp[c96]) fun C hP=> ?_;simp only[c96,Zo,Zg,Zm,Zc,Zf,Zl,Zh,Zs,Zi,Zb,Zk,Zn,Zu,Zq,Zr,Zz]
 simp+decide (disch:=first|exact D0|fail) only[go_sem,↓reduceIte]
 refine Qv (fun h1=> ?_) (fun h1=> ?_)
 ·simp+decide (disch:=first|exact D0|fail) only[go_sem,↓reduceIte]
  exact Qc (by rw[if_pos h1]) rfl
 ·obtain⟨n,rfl⟩:∃n:Nat,v=n:=⟨v.toNat,by omega⟩
  rw[if_neg h1]
  simp+decide (disch:=first|exact D0|fail) only[go_sem,↓reduceIte]
  refine Qb (fun h2=> ?_) (fun h2=> ?_)
  ·simp+decide (disch:=first|exact D0|fail) only[go_sem,↓reduceIte]
   exact Qc (by rw[Qed (by omega)]) rfl
  ·have hn:n<a.length:=by omega
   simp+decide (disch:=first|exact D0|fail) only[go_sem,↓reduceIte]
   exact Qc (by rw[Qcu hn]) rfl
theorem Qb7{a:List Int}{i:Nat}(hl:a.length<2^42):Qd Tryz.prog 96 [PV.mono a,.int .i64 i] (· = .int .i64 (eN a i)):=by
 have:=Qyh (v:=i) hl
 rwa[if_neg (by omega),Int.toNat_natCast]at this
theorem Qfz{a:List Int}(hl:a.length<=1048576)(hb:∀x∈a,0<=x/\x<=1099511627776):Qd Tryz.prog 94 [PV.mono a] (· = .int .i64 (Qe4 a)):=by
 refine Qf Ql Tryz.func94 rfl Qafc (by simp[c94]) fun C hP=> ?_;simp only[c94,Zo,Zg,Zm,Zc,Zf,Zl,Zh,Zs,Zi,Zb,Zk,Zn,Zu,Zq,Zr,Zz]
 simp+decide (disch:=first|exact D0|fail) only[go_sem,↓reduceIte]
 refine Qw (by repeat (first|exact Qu|exact Qn|exact Qo|exact Qp|exact Qq|apply Qm|apply Qt|apply Qy|apply Q5|apply Q6|apply Qk|apply Q2)) [(3,16)] [] (fun k J hp=>∃(i:Nat)(s:Int),k=a.length-i/\i<=a.length/\0<=s/\s<=1099511627776*i/\s+(a.drop i).sum=Qe4 a/\J 4= .int .i64 (i:Nat)/\J 3= .int .i64 s/\hp=hp0) a.length ?_ ?_
 ·refine⟨0,0,rfl,by omega,by omega,by omega,by simp[Qe4],?_⟩
  simp+decide (disch:=first|exact D0|fail) only[go_sem,↓reduceIte]
  simp
 rintro _ J _ ⟨i,s,rfl,hi,hs0,hs1,hsum,h4,h3,rfl⟩
 simp+decide (disch:=first|exact D2 h4 h3|fail) only[go_sem,↓reduceIte,h4,h3]
 refine Qb (fun hg=> ?_) (fun hg=> ?_)
 ·have hi':i<a.length:=by omega
  have hx:=hb _ (List.getElem_mem hi')
  rw[List.drop_eq_getElem_cons hi',List.sum_cons]at hsum
  generalize hxx:a[i]=x at *
  simp+decide (disch:=first|exact D3 h4 h3 hxx|fail) only[go_sem,↓reduceIte,h4,h3,hxx]
  refine Qh (a.length-(i+1)) (by omega) ⟨i+1,s+x,rfl,by omega,by omega,by push_cast;omega,by omega,?_⟩
  simp+decide (disch:=first|exact D0|fail) only[go_sem,↓reduceIte]
 ·rw[List.drop_of_length_le (by omega),List.sum_nil,Int.add_zero]at hsum
  simp+decide (disch:=first|exact D1 h3|fail) only[go_sem,↓reduceIte,h3]
  exact Qc (by rw[hsum]) rfl
theorem Qul{a:List Int}(hl:a.length<2^42):Qd Tryz.prog 59 [PV.mono a] (· = .bool (Qcc a)):=by
 refine Qf Ql Tryz.func59 rfl Qafb (by simp[c59]) fun C hP=> ?_;simp only[c59,Zo,Zg,Zm,Zc,Zf,Zl,Zh,Zs,Zi,Zb,Zk,Zn,Zu,Zq,Zr,Zz]
 simp+decide (disch:=first|exact D0|fail) only[go_sem,↓reduceIte]
 have bad:(64<a.length∨a.getLast? =some 0∨∃x∈a,x<0∨1048576<x)->Qcc a=false:=fun h=>by
  cases hb:Qcc a with
  |false=>rfl
  |true=>
   have:=MB.ofOk hb
   simp only[Qcc,Bool.and_eq_true,decide_eq_true_eq]at hb
   rcases h with h|h|⟨x,hx,h⟩
   ·omega
   ·exact absurd h hb.2.1
   ·have h5:=this.lo x hx;have h6:=this.hi x hx;omega
 refine Qv (fun h1=> ?_) (fun h1=> ?_)
 ·simp+decide (disch:=first|exact D0|fail) only[go_sem,↓reduceIte]
  exact Qc (by rw[bad (.inl (by omega))]) rfl
 simp+decide (disch:=first|exact D0|fail) only[go_sem,↓reduceIte]
 have fin:a.length<=64->a.getLast? ≠some 0->(∀x∈a,0<=x/\x<=1048576)->Qcc a=true:=fun h1 h2 h3=>by
  simp only[Qcc,Bool.and_eq_true,decide_eq_true_eq,List.all_eq_true];exact⟨h1,h2,h3⟩
 refine Qan (fun h2=> ?_) (fun h2=> ?_)
 ·obtain⟨k,hk⟩:∃k,a.length=k+1:=⟨a.length-1,by omega⟩
  have hlast:=Qpp hk
  have e:((k+1:Nat):Int)-1=k:=by omega
  generalize hy:a[k]'(by omega)=y at *
  simp+decide (disch:=first|exact D3 hk e hy|fail) only[go_sem,↓reduceIte,hk,e,hy]
  refine Qb (fun h3=> ?_) (fun h3=> ?_)
  ·simp+decide (disch:=first|exact D0|fail) only[go_sem,↓reduceIte]
   exact Qc (by rw[bad (.inr (.inl (by rw[hlast,h3])))]) rfl
  have hlast:a.getLast? ≠some 0:=by rw[hlast];simpa using h3
  rw[<-hk]at *
  simp+decide (disch:=first|exact D0|fail) only[go_sem,↓reduceIte]
  refine Qw (by repeat (first|exact Qu|exact Qn|exact Qo|exact Qp|exact Qq|apply Qm|apply Qt|apply Qy|apply Q5|apply Q6|apply Qk|apply Q2)) [(2,3),(21,38)] [] (fun k J hp=>∃i,k=a.length-i/\i<=a.length/\(∀x∈a.take i,0<=x/\x<=1048576)/\J 3= .int .i64 i/\hp=hp0) a.length ?_ ?_
  ·refine⟨0,rfl,by omega,by simp,?_⟩
   simp+decide (disch:=first|exact D0|fail) only[go_sem,↓reduceIte]
   rfl
  rintro _ J _ ⟨i,rfl,hi,hall,hj,rfl⟩
  simp+decide (disch:=first|exact D1 hj|fail) only[go_sem,↓reduceIte,hj]
  refine Qb (fun hg=> ?_) (fun hg=> ?_)
  ·have hi':i<a.length:=by omega
   have hmem:=List.getElem_mem hi'
   have htk:∀x∈a.take (i+1),x∈a.take i∨x=a[i]:=fun x hx=>by
    rw[List.take_succ_eq_append_getElem hi']at hx
    rcases List.mem_append.1 hx with h|h
    ·exact .inl h
    ·exact .inr (List.mem_singleton.1 h)
   generalize hx:a[i]=x at *
   simp+decide (disch:=first|exact D2 hj hx|fail) only[go_sem,↓reduceIte,hj,hx]
   refine Qv (fun h5=> ?_) (fun h5=> ?_)
   ·simp+decide (disch:=first|exact D0|fail) only[go_sem,↓reduceIte]
    exact Qc (by rw[bad (.inr (.inr ⟨x,hmem,.inl h5⟩))]) rfl
   ·simp+decide (disch:=first|exact D2 hj hx|fail) only[go_sem,↓reduceIte,hj,hx]
    refine Qb (fun h6=> ?_) (fun h6=> ?_)
    ·simp+decide (disch:=first|exact D0|fail) only[go_sem,↓reduceIte]
     exact Qc (by rw[bad (.inr (.inr ⟨x,hmem,.inr h6⟩))]) rfl
    ·simp+decide (disch:=first|exact D1 hj|fail) only[go_sem,↓reduceIte,hj]
     refine Qh (a.length-(i+1)) (by omega) ⟨i+1,rfl,by omega,fun y hy=> ?_,?_⟩
     ·rcases htk y hy with h|rfl
      ·exact hall y h
      ·omega
     ·simp+decide (disch:=first|exact D0|fail) only[go_sem,↓reduceIte]
  ·rw[List.take_of_length_le (by omega)]at hall
   simp+decide (disch:=first|exact D0|fail) only[go_sem,↓reduceIte]
   exact Qc (by rw[fin (by omega) hlast hall]) rfl
 ·have hnil:a=[]:=List.length_eq_zero_iff.1 (by omega)
  have hlast:a.getLast? ≠some 0:=by rw[hnil];simp
  simp+decide (disch:=first|exact D0|fail) only[go_sem,↓reduceIte]
  refine Qw (by repeat (first|exact Qu|exact Qn|exact Qo|exact Qp|exact Qq|apply Qm|apply Qt|apply Qy|apply Q5|apply Q6|apply Qk|apply Q2)) [(2,3),(21,38)] [] (fun k J hp=>∃i,k=a.length-i/\i<=a.length/\(∀x∈a.take i,0<=x/\x<=1048576)/\J 3= .int .i64 i/\hp=hp0) a.length ?_ ?_
  ·refine⟨0,rfl,by omega,by simp,?_⟩
   simp+decide (disch:=first|exact D0|fail) only[go_sem,↓reduceIte]
   rfl
  rintro _ J _ ⟨i,rfl,hi,hall,hj,rfl⟩
  simp+decide (disch:=first|exact D1 hj|fail) only[go_sem,↓reduceIte,hj]
  refine Qb (fun hg=> ?_) (fun hg=> ?_)
  ·have hi':i<a.length:=by omega
   have hmem:=List.getElem_mem hi'
   have htk:∀x∈a.take (i+1),x∈a.take i∨x=a[i]:=fun x hx=>by
    rw[List.take_succ_eq_append_getElem hi']at hx
    rcases List.mem_append.1 hx with h|h
    ·exact .inl h
    ·exact .inr (List.mem_singleton.1 h)
   generalize hx:a[i]=x at *
   simp+decide (disch:=first|exact D2 hj hx|fail) only[go_sem,↓reduceIte,hj,hx]
   refine Qv (fun h5=> ?_) (fun h5=> ?_)
   ·simp+decide (disch:=first|exact D0|fail) only[go_sem,↓reduceIte]
    exact Qc (by rw[bad (.inr (.inr ⟨x,hmem,.inl h5⟩))]) rfl
   ·simp+decide (disch:=first|exact D2 hj hx|fail) only[go_sem,↓reduceIte,hj,hx]
    refine Qb (fun h6=> ?_) (fun h6=> ?_)
    ·simp+decide (disch:=first|exact D0|fail) only[go_sem,↓reduceIte]
     exact Qc (by rw[bad (.inr (.inr ⟨x,hmem,.inr h6⟩))]) rfl
    ·simp+decide (disch:=first|exact D1 hj|fail) only[go_sem,↓reduceIte,hj]
     refine Qh (a.length-(i+1)) (by omega) ⟨i+1,rfl,by omega,fun y hy=> ?_,?_⟩
     ·rcases htk y hy with h|rfl
      ·exact hall y h
      ·omega
     ·simp+decide (disch:=first|exact D0|fail) only[go_sem,↓reduceIte]
  ·rw[List.take_of_length_le (by omega)]at hall
   simp+decide (disch:=first|exact D0|fail) only[go_sem,↓reduceIte]
   exact Qc (by rw[fin (by omega) hlast hall]) rfl
end Go.Proofs.YtdacdnoebgcjhaaGreat
namespace Go.Proofs.YtdacdnoebgcjhaaGreat
open Go Go.FW
set_option linter.unusedSimpArgs false
set_option linter.unusedVariables false
set_option maxRecDepth 100000
end Go.Proofs.YtdacdnoebgcjhaaGreat
namespace Go.Proofs.YtdacdnoebgcjhaaGreat
open Go Go.FW
set_option linter.unusedSimpArgs false
set_option linter.unusedVariables false
set_option maxRecDepth 100000
theorem Qyi{k:Nat}{a b:List Int}(ha:MB k a)(hb:MB k b)(hk:k<=1099511627776):Qd Tryz.prog 65 [PV.mono a,PV.mono b] (· =PV.mono (Qfk (· + ·) a b)):=by
 have h1:=ha.len
 have h2:=hb.len
 have hz:=Qb4 (· + ·) a b
 refine Qf Ql Tryz.func65 rfl Qafe (by simp[c65]) fun C hP=> ?_;simp only[c65,Zo,Zg,Zm,Zc,Zf,Zl,Zh,Zs,Zi,Zb,Zk,Zn,Zu,Zq,Zr,Zz]
 simp+decide (disch:=first|exact D0|fail) only[go_sem,↓reduceIte]
 refine Qgj 5 900 1 3 (by omega) T0 ?_
 refine Qw (by repeat (first|exact Qu|exact Qn|exact Qo|exact Qp|exact Qq|apply Qm|apply Qt|apply Qy|apply Q5|apply Q6|apply Qk|apply Q2)) [(5,28)] [27,28,900] (fun m J hp=>∃(i:Nat)(out:List Int),m=max a.length b.length-i/\i<=max a.length b.length/\out=(Qfk (· + ·) a b).take i/\J 5= .ms 900 out.length/\J 6= .int .i64 i/\hp 900=some ⟨1,3,Qjm out,false⟩) (max a.length b.length) ?_ ?_
 ·refine⟨0,[],rfl,by omega,by simp,?_⟩
  simp+decide (disch:=first|exact D0|fail) only[go_sem,↓reduceIte]
  simp
 rintro _ J h ⟨i,out,rfl,hi,hout,h5,h6,hh⟩
 have hol:out.length=i:=by rw[hout,List.length_take,hz];omega
 simp+decide (disch:=first|exact D2 h5 h6|fail) only[go_sem,↓reduceIte,h5,h6]
 refine Qv (fun hg=> ?_) (fun hg=> ?_)
 ·have hlt:i<max a.length b.length:=by omega
  have htk:=Qni (g:=(· + ·)) hlt
  have ea:=ha.eN i
  have eb:=hb.eN i
  simp+decide (disch:=first|exact D2 h5 h6|fail) only[go_sem,↓reduceIte,h5,h6]
  refine Qa hP (Qb7 (a:=a) (i:=i) (by omega)) rfl rfl rfl ?_
  simp+decide (disch:=first|exact D2 h5 h6|fail) only[go_sem,↓reduceIte,h5,h6]
  refine Qa hP (Qb7 (a:=b) (i:=i) (by omega)) rfl rfl rfl ?_
  simp+decide (disch:=first|exact D2 h5 h6|fail) only[go_sem,↓reduceIte,h5,h6]
  rw[Qai (f:=fun(x:Int)=> .int .i64 x) (y:=eN a i+eN b i) (xs:=out) (ty':=3) (fz:=false) (T1 hh) Tr0 (by omega) rfl (by omega) (by omega)]
  simp+decide (disch:=first|exact D2 h5 h6|fail) only[go_sem,↓reduceIte,h5,h6]
  refine Qh (max a.length b.length-(i+1)) (by omega) ⟨i+1,out++[eN a i+eN b i],rfl,by omega,by rw[htk,hout],?_⟩
  simp+decide (disch:=first|exact D0|fail) only[go_sem,↓reduceIte]
  simp
 simp+decide (disch:=first|exact D2 h5 h6|fail) only[go_sem,↓reduceIte,h5,h6]
 refine Qb (fun hg2=> ?_) (fun hg2=> ?_)
 ·have hlt:i<max a.length b.length:=by omega
  have htk:=Qni (g:=(· + ·)) hlt
  have ea:=ha.eN i
  have eb:=hb.eN i
  simp+decide (disch:=first|exact D2 h5 h6|fail) only[go_sem,↓reduceIte,h5,h6]
  refine Qa hP (Qb7 (a:=a) (i:=i) (by omega)) rfl rfl rfl ?_
  simp+decide (disch:=first|exact D2 h5 h6|fail) only[go_sem,↓reduceIte,h5,h6]
  refine Qa hP (Qb7 (a:=b) (i:=i) (by omega)) rfl rfl rfl ?_
  simp+decide (disch:=first|exact D2 h5 h6|fail) only[go_sem,↓reduceIte,h5,h6]
  rw[Qai (f:=fun(x:Int)=> .int .i64 x) (y:=eN a i+eN b i) (xs:=out) (ty':=3) (fz:=false) (T1 hh) Tr0 (by omega) rfl (by omega) (by omega)]
  simp+decide (disch:=first|exact D2 h5 h6|fail) only[go_sem,↓reduceIte,h5,h6]
  refine Qh (max a.length b.length-(i+1)) (by omega) ⟨i+1,out++[eN a i+eN b i],rfl,by omega,by rw[htk,hout],?_⟩
  simp+decide (disch:=first|exact D0|fail) only[go_sem,↓reduceIte]
  simp
 obtain rfl:i=max a.length b.length:=by omega
 rw[List.take_of_length_le (by omega)]at hout
 subst hout
 simp+decide (disch:=first|exact E2 h5 hh|fail) only[go_sem,↓reduceIte,h5,hh,Qz,List.contains_cons,List.contains_nil,List.flatMap_cons,List.flatMap_nil,List.append_nil]
 exact Qc (by rw[List.take_of_length_le (by simp)]) rfl
end Go.Proofs.YtdacdnoebgcjhaaGreat
namespace Go.Proofs.YtdacdnoebgcjhaaGreat
open Go Go.FW
set_option linter.unusedSimpArgs false
set_option linter.unusedVariables false
set_option maxRecDepth 100000
theorem Qpw(x y:Int):sgn (x-y)=Qbr x y:=by unfold sgn Qbr;(repeat' split)<;>omega
theorem Qyj{k:Nat}{a b:List Int}{o:Int}(ha:MB k a)(hb:MB k b)(hk:k<=1099511627776):Qd Tryz.prog 60 [PV.mono a,PV.mono b,.int .i64 o] (· = .int .i64 (Qe5 o a b)):=by
 have h1:=ha.len
 have h2:=hb.len
 have hda:∀x∈a,0<=x/\x<=1099511627776:=fun x hx=>by have:=ha.lo x hx;have:=ha.hi x hx;omega
 have hdb:∀x∈b,0<=x/\x<=1099511627776:=fun x hx=>by have:=hb.lo x hx;have:=hb.hi x hx;omega
 have da:=Qsm ha
 have db:=Qsm hb
 refine Qf Ql Tryz.func60 rfl Qaff (by simp[c60]) fun C hP=> ?_;simp only[c60,Zo,Zg,Zm,Zc,Zf,Zl,Zh,Zs,Zi,Zb,Zk,Zn,Zu,Zq,Zr,Zz]
 simp+decide (disch:=first|exact D0|fail) only[go_sem,↓reduceIte]
 refine Qan (fun ho=> ?_) (fun ho=> ?_)
 ·simp+decide (disch:=first|exact D0|fail) only[go_sem,↓reduceIte]
  refine Qa hP (Qfz (by omega) hda) rfl rfl rfl ?_
  simp+decide (disch:=first|exact D0|fail) only[go_sem,↓reduceIte]
  refine Qa hP (Qfz (by omega) hdb) rfl rfl rfl ?_
  simp+decide (disch:=first|exact D0|fail) only[go_sem,↓reduceIte]
  refine Qb (fun hd=> ?_) (fun hd=> ?_)
  ·have hord:Qe5 o a b=Qbr (Qe4 a) (Qe4 b):=by unfold Qe5;rw[if_pos ⟨ho,hd⟩]
   simp+decide (disch:=first|exact D0|fail) only[go_sem,↓reduceIte]
   refine Qa hP (Qfz (by omega) hda) rfl rfl rfl ?_
   simp+decide (disch:=first|exact D0|fail) only[go_sem,↓reduceIte]
   refine Qa hP (Qfz (by omega) hdb) rfl rfl rfl ?_
   simp+decide (disch:=first|exact D0|fail) only[go_sem,↓reduceIte]
   refine Qa hP (Qjr _) rfl rfl rfl ?_
   simp+decide (disch:=first|exact D0|fail) only[go_sem,↓reduceIte]
   exact Qc (by rw[hord,Qpw]) rfl
  have hord:Qe5 o a b=Qah a b:=by unfold Qe5;rw[if_neg (fun h=>hd h.2)]
  simp+decide (disch:=first|exact D0|fail) only[go_sem,↓reduceIte]
  refine Qw (by repeat (first|exact Qu|exact Qn|exact Qo|exact Qp|exact Qq|apply Qm|apply Qt|apply Qy|apply Q5|apply Q6|apply Qk|apply Q2)) [(6,7),(29,47)] [] (fun n J hp=>n<=max a.length b.length/\Qbz a b n=Qah a b/\J 7= .int .i64 ((n:Int)-1)/\hp=hp0) (max a.length b.length) ?_ ?_
  ·refine⟨by omega,rfl,?_⟩
   simp+decide (disch:=first|exact D0|fail) only[go_sem,↓reduceIte]
  rintro n J _ ⟨hn,hc,h7,rfl⟩
  simp+decide (disch:=first|exact D1 h7|fail) only[go_sem,↓reduceIte,h7]
  refine Qb (fun hg=> ?_) (fun hg=> ?_)
  ·obtain _|n:=n
   ·omega
   have e:((n+1:Nat):Int)-1=n:=by omega
   have ea:=ha.eN n
   have eb:=hb.eN n
   rw[Qbz]at hc
   simp+decide (disch:=first|exact D2 h7 e|fail) only[go_sem,↓reduceIte,h7,e]
   refine Qa hP (Qb7 (by omega)) rfl rfl rfl ?_
   simp+decide (disch:=first|exact D2 h7 e|fail) only[go_sem,↓reduceIte,h7,e]
   refine Qa hP (Qb7 (by omega)) rfl rfl rfl ?_
   simp+decide (disch:=first|exact D2 h7 e|fail) only[go_sem,↓reduceIte,h7,e]
   refine Qb (fun h4=> ?_) (fun h4=> ?_)
   ·rw[if_neg h4]at hc
    simp+decide (disch:=first|exact D2 h7 e|fail) only[go_sem,↓reduceIte,h7,e]
    refine Qa hP (Qb7 (by omega)) rfl rfl rfl ?_
    simp+decide (disch:=first|exact D2 h7 e|fail) only[go_sem,↓reduceIte,h7,e]
    refine Qa hP (Qb7 (by omega)) rfl rfl rfl ?_
    simp+decide (disch:=first|exact D2 h7 e|fail) only[go_sem,↓reduceIte,h7,e]
    refine Qa hP (Qjr _) rfl rfl rfl ?_
    simp+decide (disch:=first|exact D2 h7 e|fail) only[go_sem,↓reduceIte,h7,e]
    exact Qc (by rw[hord,<-hc,Qpw]) rfl
   ·rw[if_pos (by omega)]at hc
    simp+decide (disch:=first|exact D2 h7 e|fail) only[go_sem,↓reduceIte,h7,e]
    refine Qh n (by omega) ⟨by omega,hc,?_⟩
    simp+decide (disch:=first|exact D0|fail) only[go_sem,↓reduceIte]
  ·obtain rfl:n=0:=by omega
   simp+decide (disch:=first|exact D0|fail) only[go_sem,↓reduceIte]
   exact Qc (by rw[hord,<-hc];rfl) rfl
 ·have hord:Qe5 o a b=Qah a b:=by unfold Qe5;rw[if_neg (fun h=>ho h.1)]
  simp+decide (disch:=first|exact D0|fail) only[go_sem,↓reduceIte]
  refine Qw (by repeat (first|exact Qu|exact Qn|exact Qo|exact Qp|exact Qq|apply Qm|apply Qt|apply Qy|apply Q5|apply Q6|apply Qk|apply Q2)) [(6,7),(29,47)] [] (fun n J hp=>n<=max a.length b.length/\Qbz a b n=Qah a b/\J 7= .int .i64 ((n:Int)-1)/\hp=hp0) (max a.length b.length) ?_ ?_
  ·refine⟨by omega,rfl,?_⟩
   simp+decide (disch:=first|exact D0|fail) only[go_sem,↓reduceIte]
  rintro n J _ ⟨hn,hc,h7,rfl⟩
  simp+decide (disch:=first|exact D1 h7|fail) only[go_sem,↓reduceIte,h7]
  refine Qb (fun hg=> ?_) (fun hg=> ?_)
  ·obtain _|n:=n
   ·omega
   have e:((n+1:Nat):Int)-1=n:=by omega
   have ea:=ha.eN n
   have eb:=hb.eN n
   rw[Qbz]at hc
   simp+decide (disch:=first|exact D2 h7 e|fail) only[go_sem,↓reduceIte,h7,e]
   refine Qa hP (Qb7 (by omega)) rfl rfl rfl ?_
   simp+decide (disch:=first|exact D2 h7 e|fail) only[go_sem,↓reduceIte,h7,e]
   refine Qa hP (Qb7 (by omega)) rfl rfl rfl ?_
   simp+decide (disch:=first|exact D2 h7 e|fail) only[go_sem,↓reduceIte,h7,e]
   refine Qb (fun h4=> ?_) (fun h4=> ?_)
   ·rw[if_neg h4]at hc
    simp+decide (disch:=first|exact D2 h7 e|fail) only[go_sem,↓reduceIte,h7,e]
    refine Qa hP (Qb7 (by omega)) rfl rfl rfl ?_
    simp+decide (disch:=first|exact D2 h7 e|fail) only[go_sem,↓reduceIte,h7,e]
    refine Qa hP (Qb7 (by omega)) rfl rfl rfl ?_
    simp+decide (disch:=first|exact D2 h7 e|fail) only[go_sem,↓reduceIte,h7,e]
    refine Qa hP (Qjr _) rfl rfl rfl ?_
    simp+decide (disch:=first|exact D2 h7 e|fail) only[go_sem,↓reduceIte,h7,e]
    exact Qc (by rw[hord,<-hc,Qpw]) rfl
   ·rw[if_pos (by omega)]at hc
    simp+decide (disch:=first|exact D2 h7 e|fail) only[go_sem,↓reduceIte,h7,e]
    refine Qh n (by omega) ⟨by omega,hc,?_⟩
    simp+decide (disch:=first|exact D0|fail) only[go_sem,↓reduceIte]
  ·obtain rfl:n=0:=by omega
   simp+decide (disch:=first|exact D0|fail) only[go_sem,↓reduceIte]
   exact Qc (by rw[hord,<-hc];rfl) rfl
end Go.Proofs.YtdacdnoebgcjhaaGreat
namespace Go.Proofs.YtdacdnoebgcjhaaGreat
open Go Go.FW
set_option linter.unusedSimpArgs false
set_option linter.unusedVariables false
set_option maxRecDepth 100000
theorem Q8g{a b:Rat}{k:Nat}(ha:rs a<=k)(hb:rs b<=k)(hk:k<2^34):Qd Tryz.prog 53 [PV.rat a,PV.rat b] (· =PV.rat (a+b)):=by
 have:=Qo5 (Qb5 ha) (Qb5 hb) hk
 rwa[Qct,Qct]at this
theorem Qw5{a b:Rat}{k:Nat}(ha:rs a<=k)(hb:rs b<=k)(hk:k<2^34):Qd Tryz.prog 38 [PV.rat a,PV.rat b] (· =PV.rat (a*b)):=by
 have:=Qyc (Qb5 ha) (Qb5 hb) hk
 rwa[Qct,Qct]at this
theorem Q8h{a b:Rat}{k:Nat}(ha:rs a<=k)(hb:rs b<=k)(hk:k<2^34):Qd Tryz.prog 89 [PV.rat a,PV.rat b] (· = .int .i64 (Qhg a b)):=by
 have:=Qyd (Qb5 ha) (Qb5 hb) hk
 rwa[Qct,Qct]at this
theorem Qnu{a:Rat}(ha:rs a<2^36):Qd Tryz.prog 27 [PV.rat a] (· = .int .i64 (Qc6 a)):=by
 have:=Qg5 (Qb5 (Nat.le_refl (rs a))) ha
 rwa[Qct]at this
theorem Qnv{k:Nat}{a b:List Int}(ha:MB k a)(hb:MB k b)(hk:k<=1099511627776):Qd Tryz.prog 60 [PV.mono a,PV.mono b,.int .i64 0] (· = .int .i64 (Qah a b)):=by
 have:=Qyj (o:=0) ha hb hk
 rwa[Qqx]at this
theorem Qyk{p q:List Tm}{K E:Nat}(hp:PB K E p)(hq:PB K E q)(hK:K<=2^33)(hE:E<=2^38)(hlp:p.length<=2^36)(hlq:q.length<=2^36):
  Qd Tryz.prog 56 [PV.poly p,PV.poly q] (· = .int .i64 (Qea p q)):=by
 refine Qf Ql Tryz.func56 rfl Qae3 (by simp[c56]) fun C hP=> ?_;simp only[c56,Zo,Zg,Zm,Zc,Zf,Zl,Zh,Zs,Zi,Zb,Zk,Zn,Zu,Zq,Zr,Zz]
 simp+decide (disch:=first|exact D0|fail) only[go_sem,↓reduceIte]
 refine Qw (by repeat (first|exact Qu|exact Qn|exact Qo|exact Qp|exact Qq|apply Qm|apply Qt|apply Qy|apply Q5|apply Q6|apply Qk|apply Q2)) [(4,47)] [] (fun n J hp=>∃i,n=p.length-i/\i<=p.length/\i<=q.length/\Qea (p.drop i) (q.drop i)=Qea p q/\J 5= .int .i64 (i:Nat)) p.length ?_ ?_
 ·refine⟨0,rfl,by omega,by omega,rfl,?_⟩
  simp+decide (disch:=first|exact D0|fail) only[go_sem,↓reduceIte]
  rfl
 rintro _ J h ⟨i,rfl,hi,hi2,hpc,h5⟩
 simp+decide (disch:=first|exact D1 h5|fail) only[go_sem,↓reduceIte,h5]
 refine Qan (fun hg=> ?_) (fun hg=> ?_)
 ·have hi':i<p.length:=by omega
  simp+decide (disch:=first|exact D1 h5|fail) only[go_sem,↓reduceIte,h5]
  refine Qb (fun hk=> ?_) (fun hk=> ?_)
  ·have hk':i<q.length:=by omega
   have htp:=hp.get hi'
   have htq:=hq.get hk'
   have c1:=htp.c
   have c2:=htq.c
   rw[Qtk hi' hk']at hpc
   generalize hx:p[i]=x at *
   generalize hy:q[i]=y at *
   simp+decide (disch:=first|exact D3 h5 hx hy|fail) only[go_sem,↓reduceIte,h5,hx,hy]
   refine Qa hP (Qnv htp.m htq.m (by omega)) rfl rfl rfl ?_
   simp+decide (disch:=first|exact D3 h5 hx hy|fail) only[go_sem,↓reduceIte,h5,hx,hy]
   refine Qb (fun hc=> ?_) (fun hc=> ?_)
   ·simp+decide (disch:=first|exact D0|fail) only[go_sem,↓reduceIte]
    exact Qc (by rw[<-hpc,if_pos (by rw[Qg0,if_pos hc];exact hc),Qg0,if_pos hc]) rfl
   ·simp+decide (disch:=first|exact D3 h5 hx hy|fail) only[go_sem,↓reduceIte,h5,hx,hy]
    refine Qa hP (Q8h (a:=x.1) (b:=y.1) (k:=2^33) (by omega) (by omega) (by omega)) rfl rfl rfl ?_
    simp+decide (disch:=first|exact D3 h5 hx hy|fail) only[go_sem,↓reduceIte,h5,hx,hy]
    refine Qb (fun hc2=> ?_) (fun hc2=> ?_)
    ·simp+decide (disch:=first|exact D0|fail) only[go_sem,↓reduceIte]
     exact Qc (by rw[<-hpc,if_pos (by rw[Qg0,if_neg hc];exact hc2),Qg0,if_neg hc]) rfl
    ·rw[if_neg (by rw[Qg0,if_neg hc];exact hc2)]at hpc
     simp+decide (disch:=first|exact D1 h5|fail) only[go_sem,↓reduceIte,h5]
     refine Qh (p.length-(i+1)) (by omega) ⟨i+1,rfl,by omega,by omega,hpc,?_⟩
     simp+decide (disch:=first|exact D0|fail) only[go_sem,↓reduceIte]
  simp+decide (disch:=first|exact D0|fail) only[go_sem,↓reduceIte]
  refine Qb (fun hk=> ?_) (fun hk=> ?_)
  ·simp+decide (disch:=first|exact D0|fail) only[go_sem,↓reduceIte]
   exact Qc (by rw[<-hpc,List.drop_of_length_le (show p.length<=i by omega),Qjp,if_neg (by rw[List.length_drop];omega)]) rfl
  ·simp+decide (disch:=first|exact D0|fail) only[go_sem,↓reduceIte]
   refine Qb (fun hk2=> ?_) (fun hk2=> ?_)
   ·simp+decide (disch:=first|exact D0|fail) only[go_sem,↓reduceIte]
    refine Qc ?_ rfl
    rw[<-hpc,List.drop_eq_getElem_cons (show i<p.length by omega),List.drop_of_length_le (show q.length<=i by omega),Qea]
   ·simp+decide (disch:=first|exact D0|fail) only[go_sem,↓reduceIte]
    exact Qc (by rw[<-hpc,List.drop_of_length_le (show p.length<=i by omega),Qjp,if_pos (by rw[List.length_drop];omega)]) rfl
 ·have hi':i=p.length:=by omega
  simp+decide (disch:=first|exact D0|fail) only[go_sem,↓reduceIte]
  refine Qb (fun hk=> ?_) (fun hk=> ?_)
  ·simp+decide (disch:=first|exact D0|fail) only[go_sem,↓reduceIte]
   exact Qc (by rw[<-hpc,List.drop_of_length_le (show p.length<=i by omega),Qjp,if_neg (by rw[List.length_drop];omega)]) rfl
  ·simp+decide (disch:=first|exact D0|fail) only[go_sem,↓reduceIte]
   refine Qb (fun hk2=> ?_) (fun hk2=> ?_)
   ·simp+decide (disch:=first|exact D0|fail) only[go_sem,↓reduceIte]
    refine Qc ?_ rfl
    rw[<-hpc,List.drop_eq_getElem_cons (show i<p.length by omega),List.drop_of_length_le (show q.length<=i by omega),Qea]
   ·simp+decide (disch:=first|exact D0|fail) only[go_sem,↓reduceIte]
    exact Qc (by rw[<-hpc,List.drop_of_length_le (show p.length<=i by omega),Qjp,if_pos (by rw[List.length_drop];omega)]) rfl
theorem Qum{p q:List Tm}{K E:Nat}(hp:PB K E p)(hq:PB K E q)(hK:K<=2^33)(hE:E<=2^38)(hlp:p.length<=2^36)(hlq:q.length<=2^36):Qd Tryz.prog 28 [PV.poly p,PV.poly q] (· = .bool (decide (p=q))):=by
 refine Qf Ql Tryz.func28 rfl Qae5 (by simp[c28]) fun C hP=> ?_;simp only[c28,Zo,Zg,Zm,Zc,Zf,Zl,Zh,Zs,Zi,Zb,Zk,Zn,Zu,Zq,Zr,Zz]
 simp+decide (disch:=first|exact D0|fail) only[go_sem,↓reduceIte]
 refine Qa hP (Qyk hp hq hK hE hlp hlq) rfl rfl rfl ?_
 simp+decide (disch:=first|exact D0|fail) only[go_sem,↓reduceIte]
 exact Qc (congrArg PV.bool (decide_eq_decide.2 (Qsl hp.last hq.last))) rfl
theorem Qyl{p q:List Tm}{K E:Nat}(hp:PB K E p)(hq:PB K E q)(hK:K<=2^32)(hE:E<=2^38)(hlp:p.length<=2^36)(hlq:q.length<=2^36):
  Qd Tryz.prog 36 [PV.poly p,PV.poly q] (· =PV.poly (Q7 p q)):=by
 refine Qf Ql Tryz.func36 rfl Qae2 (by simp[c36]) fun C hP=> ?_;simp only[c36,Zo,Zg,Zm,Zc,Zf,Zl,Zh,Zs,Zi,Zb,Zk,Zn,Zu,Zq,Zr,Zz]
 simp+decide (disch:=first|exact D0|fail) only[go_sem,↓reduceIte]
 refine Qgj 5 900 4 74 (by omega) T0 ?_
 refine Qw (by repeat (first|exact Qu|exact Qn|exact Qo|exact Qp|exact Qq|apply Qm|apply Qt|apply Qy|apply Q5|apply Q6|apply Qk|apply Q2)) [(5,90)] [9,61,62,75,76,87,88,900] (fun n J hp=>∃i k out,n=(p.length-i)+(q.length-k)/\i<=p.length/\k<=q.length/\out.length<=i+k/\out++Q7 (p.drop i) (q.drop k)=Q7 p q/\
  J 5= .ms 900 out.length/\J 6= .int .i64 (i:Nat)/\J 7= .int .i64 (k:Nat)/\hp 900=some ⟨4,74,out.map PV.term,false⟩) (p.length+q.length) ?_ ?_
 ·refine⟨0,0,[],by omega,by omega,by omega,by simp,rfl,?_⟩
  simp+decide (disch:=first|exact D0|fail) only[go_sem,↓reduceIte]
  simp
 rintro _ J h ⟨i,k,out,rfl,hi,hk,hol,hpad,h5,h6,h7,hh⟩
 simp+decide (disch:=first|exact D3 h5 h6 h7|fail) only[go_sem,↓reduceIte,h5,h6,h7]
 refine Qv (fun hg=> ?_) (fun hg=> ?_)
 ·have hi':i<p.length:=by omega
  simp+decide (disch:=first|exact D3 h5 h6 h7|fail) only[go_sem,↓reduceIte,h5,h6,h7]
  refine Qb (fun h=>by omega) (fun _=> ?_)
  simp+decide (disch:=first|exact D3 h5 h6 h7|fail) only[go_sem,↓reduceIte,h5,h6,h7]
  refine Qb (fun hg2=> ?_) (fun hg2=> ?_)
  ·have hk':k<q.length:=by omega
   have htp:=hp.get hi'
   have htq:=hq.get hk'
   rw[Qtj hi' hk']at hpad
   have c1:=htp.c
   have c2:=htq.c
   generalize hx:p[i]=x at *
   generalize hy:q[k]=y at *
   simp+decide (disch:=first|exact D5 h5 h6 h7 hx hy|fail) only[go_sem,↓reduceIte,h5,h6,h7,hx,hy]
   refine Qa hP (Qnv htp.m htq.m (by omega)) rfl rfl rfl ?_
   simp+decide (disch:=first|exact D5 h5 h6 h7 hx hy|fail) only[go_sem,↓reduceIte,h5,h6,h7,hx,hy]
   refine Qb (fun hc=> ?_) (fun hc=> ?_)
   ·rw[if_pos hc]at hpad
    simp+decide (disch:=first|exact D4 h5 h6 h7 hx|fail) only[go_sem,↓reduceIte,h5,h6,h7,hx]
    rw[Qai (f:=PV.term) (y:=x) (xs:=out) (ty':=74) (fz:=false) (T1 hh) Tr0 (by omega) rfl (by omega) (by omega)]
    simp+decide (disch:=first|exact D4 h5 h6 h7 hx|fail) only[go_sem,↓reduceIte,h5,h6,h7,hx]
    refine Qh ((p.length-(i+1))+(q.length-k)) (by omega) ⟨i+1,k,out++[x],rfl,by omega,hk,by simp;omega,by simpa using hpad,?_⟩
    simp+decide (disch:=first|exact D3 h5 h6 h7|fail) only[go_sem,↓reduceIte,h5,h6,h7]
    simp
   rw[if_neg hc]at hpad
   simp+decide (disch:=first|exact D5 h5 h6 h7 hx hy|fail) only[go_sem,↓reduceIte,h5,h6,h7,hx,hy]
   refine Qb (fun hc2=> ?_) (fun hc2=> ?_)
   ·rw[if_pos hc2]at hpad
    simp+decide (disch:=first|exact D4 h5 h6 h7 hy|fail) only[go_sem,↓reduceIte,h5,h6,h7,hy]
    rw[Qai (f:=PV.term) (y:=y) (xs:=out) (ty':=74) (fz:=false) (T1 hh) Tr0 (by omega) rfl (by omega) (by omega)]
    simp+decide (disch:=first|exact D4 h5 h6 h7 hy|fail) only[go_sem,↓reduceIte,h5,h6,h7,hy]
    refine Qh ((p.length-i)+(q.length-(k+1))) (by omega) ⟨i,k+1,out++[y],rfl,by omega,by omega,by simp;omega,by simpa using hpad,?_⟩
    simp+decide (disch:=first|exact D3 h5 h6 h7|fail) only[go_sem,↓reduceIte,h5,h6,h7]
    simp
   rw[if_neg hc2]at hpad
   have hra:=Qli x.1 y.1
   simp+decide (disch:=first|exact D5 h5 h6 h7 hx hy|fail) only[go_sem,↓reduceIte,h5,h6,h7,hx,hy]
   refine Qgf ?_ ?_
   all_goals
    simp+decide (disch:=first|exact D5 h5 h6 h7 hx hy|fail) only[go_sem,↓reduceIte,h5,h6,h7,hx,hy]
    refine Qa hP (Q8g (a:=x.1) (b:=y.1) (k:=2^32) (by omega) (by omega) (by omega)) rfl rfl rfl ?_
    simp+decide (disch:=first|exact D5 h5 h6 h7 hx hy|fail) only[go_sem,↓reduceIte,h5,h6,h7,hx,hy]
    refine Qa hP (Qnu (a:=x.1+y.1) (by omega)) rfl rfl rfl ?_
    simp+decide (disch:=first|exact D5 h5 h6 h7 hx hy|fail) only[go_sem,↓reduceIte,h5,h6,h7,hx,hy]
    refine Qb (fun hz=> ?_) (fun hz=> ?_)
    ·rw[if_neg (fun h=>hz (Qaw.2 h))]at hpad
     simp+decide (disch:=first|exact D5 h5 h6 h7 hx hy|fail) only[go_sem,↓reduceIte,h5,h6,h7,hx,hy]
     rw[Qai (f:=PV.term) (y:=(x.1+y.1,x.2)) (xs:=out) (ty':=74) (fz:=false) (T1 hh) Tr0 (by omega) rfl (by omega) (by omega)]
     simp+decide (disch:=first|exact D5 h5 h6 h7 hx hy|fail) only[go_sem,↓reduceIte,h5,h6,h7,hx,hy]
     refine Qh ((p.length-(i+1))+(q.length-(k+1))) (by omega) ⟨i+1,k+1,out++[(x.1+y.1,x.2)],rfl,by omega,by omega,by simp;omega,by simpa using hpad,?_⟩
     simp+decide (disch:=first|exact D3 h5 h6 h7|fail) only[go_sem,↓reduceIte,h5,h6,h7]
     simp
    ·rw[if_pos (Qaw.1 (Decidable.not_not.1 hz))]at hpad
     simp+decide (disch:=first|exact D5 h5 h6 h7 hx hy|fail) only[go_sem,↓reduceIte,h5,h6,h7,hx,hy]
     refine Qh ((p.length-(i+1))+(q.length-(k+1))) (by omega) ⟨i+1,k+1,out,rfl,by omega,by omega,by omega,hpad,?_⟩
     simp+decide (disch:=first|exact D4 h5 h6 h7 hh|fail) only[go_sem,↓reduceIte,h5,h6,h7,hh]
  ·rw[List.drop_of_length_le (show q.length<=k by omega),Qb3,List.drop_eq_getElem_cons hi']at hpad
   have hpad:out++p[i]::Q7 (p.drop (i+1)) (q.drop k)=Q7 p q:=by rw[List.drop_of_length_le (show q.length<=k by omega),Qb3];exact hpad
   generalize hx:p[i]=x at *
   simp+decide (disch:=first|exact D4 h5 h6 h7 hx|fail) only[go_sem,↓reduceIte,h5,h6,h7,hx]
   rw[Qai (f:=PV.term) (y:=x) (xs:=out) (ty':=74) (fz:=false) (T1 hh) Tr0 (by omega) rfl (by omega) (by omega)]
   simp+decide (disch:=first|exact D4 h5 h6 h7 hx|fail) only[go_sem,↓reduceIte,h5,h6,h7,hx]
   refine Qh ((p.length-(i+1))+(q.length-k)) (by omega) ⟨i+1,k,out++[x],rfl,by omega,hk,by simp;omega,by simpa using hpad,?_⟩
   simp+decide (disch:=first|exact D3 h5 h6 h7|fail) only[go_sem,↓reduceIte,h5,h6,h7]
   simp
 ·have hi':i=p.length:=by omega
  simp+decide (disch:=first|exact D3 h5 h6 h7|fail) only[go_sem,↓reduceIte,h5,h6,h7]
  refine Qb (fun hg2=> ?_) (fun hg2=> ?_)
  ·have hk':k<q.length:=by omega
   rw[List.drop_of_length_le (show p.length<=i by omega),Qep,List.drop_eq_getElem_cons hk']at hpad
   have hpad:out++q[k]::Q7 (p.drop i) (q.drop (k+1))=Q7 p q:=by rw[List.drop_of_length_le (show p.length<=i by omega),Qep];exact hpad
   generalize hy:q[k]=y at *
   simp+decide (disch:=first|exact D4 h5 h6 h7 hy|fail) only[go_sem,↓reduceIte,h5,h6,h7,hy]
   refine Qb (fun _=> ?_) (fun h=>by omega)
   simp+decide (disch:=first|exact D4 h5 h6 h7 hy|fail) only[go_sem,↓reduceIte,h5,h6,h7,hy]
   rw[Qai (f:=PV.term) (y:=y) (xs:=out) (ty':=74) (fz:=false) (T1 hh) Tr0 (by omega) rfl (by omega) (by omega)]
   simp+decide (disch:=first|exact D4 h5 h6 h7 hy|fail) only[go_sem,↓reduceIte,h5,h6,h7,hy]
   refine Qh ((p.length-i)+(q.length-(k+1))) (by omega) ⟨i,k+1,out++[y],rfl,by omega,by omega,by simp;omega,by simpa using hpad,?_⟩
   simp+decide (disch:=first|exact D3 h5 h6 h7|fail) only[go_sem,↓reduceIte,h5,h6,h7]
   simp
  ·rw[List.drop_of_length_le (show p.length<=i by omega),Qep,List.drop_of_length_le (show q.length<=k by omega),List.append_nil]at hpad
   simp+decide (disch:=first|exact E4 h5 h6 h7 hh|fail) only[go_sem,↓reduceIte,h5,h6,h7,hh,Qz,List.contains_cons,List.contains_nil,List.flatMap_cons,List.flatMap_nil,List.append_nil]
   exact Qc (by rw[List.take_of_length_le (by simp),hpad]) rfl
end Go.Proofs.YtdacdnoebgcjhaaGreat
namespace Go.Proofs.YtdacdnoebgcjhaaGreat
open Go Go.FW
set_option maxRecDepth 100000
def Q8i:SFn:=⟨97,[.t 8],Zr (Zo (.mv 8 (.c .nilS)) .nil)<|Zr (Zm 15 0<|
 Zn 16 15<|
 Zm 17 1<|
 Zn 18 17<|
 Zb 19 .add 16 18<|
 Zo (.mk 20 4 80 74 (.agg [.bool false,.nilS,.nilS,.nilS]) (.c (Zz 0)) (.t 19))<|
 Zm 9 20 .nil)<|Zr (Zc 10 0<|
 Zc 11 0 .nil)<| .seq (.block 0<| .loop<| .seq (Zr (Zm 21 10<|
 Zm 22 0<|
 Zn 23 22<|
 Zb 24 .lss 21 23<|
 Zm 25 24<|
 Zg 25 true (.mv 26 (.t 11))<|
 Zg 25 true (.mv 27 (.t 1))<|
 Zg 25 true (.len 28 (.t 27))<|
 Zg 25 true (.bin 29 .lss false (.t 26) (.t 28))<|
 Zo (.pick 30 (.t 25) (.t 29) (.c (.bool false))) .nil)<| .cond (.t 30) .skip (.exit 0))<| .block 1<|Zr (Zm 31 2<|
 Zm 32 0<|
 Zm 33 10<|
 Zi 34 4 32 33<|
 Zh 35 4 34<|
 Zm 36 1<|
 Zm 37 11<|
 Zi 38 4 36 37<|
 Zh 39 4 38<|
 Zo (.call (some 40) false (.t 31) [.t 35,.t 39])<|
 Zm 12 40 .nil)<| .block 2<|Zr (Zm 64 12<|
 Zk 65 .gtr 64 0<|
 Zm 63 65 .nil)<| .cond (.t 63) (Zr (Zm 66 9<|
 Zm 67 0<|
 Zm 68 10<|
 Zi 69 4 67 68<|
 Zh 70 4 69<|
 Zo (.bs 71 4 74 [.t 70])<|
 Zo (.app 72 4 80 74 (.t 66) (.t 71))<|
 Zm 9 72 .nil)<| .rg (Zm 73 10<|
 Zk 74 .add 73 1<|
 Zm 10 74 .nil)) (Zr (Zm 76 12<|
 Zk 77 .lss 76 0<|
 Zm 75 77 .nil)<| .cond (.t 75) (Zr (Zm 78 9<|
 Zm 79 1<|
 Zm 80 11<|
 Zi 81 4 79 80<|
 Zh 82 4 81<|
 Zo (.bs 83 4 74 [.t 82])<|
 Zo (.app 84 4 80 74 (.t 78) (.t 83))<|
 Zm 9 84 .nil)<| .rg (Zm 85 11<|
 Zk 86 .add 85 1<|
 Zm 11 86 .nil)) (.seq (Zr (Zm 42 3<|
 Zm 43 0<|
 Zm 44 10<|
 Zi 45 4 43 44<|
 Zh 46 4 45<|
 Zm 47 1<|
 Zm 48 11<|
 Zi 49 4 47 48<|
 Zh 50 4 49<|
 .br (Zo (.call (some 51) true (.t 42) [.t 46,.t 50])<|
 Zm 41 51<|
 Zo (.ext 52 (.t 41) 0)<|
 Zo (.ext 53 (.t 41) 1)<|
 Zo (.alloc 13 4 74 (.agg [.bool false,.nilS,.nilS,.nilS]))<|
 Zs 4 13 52<|
 Zm 14 53 .nil) (Zo (.alloc 13 4 74 (.agg [.bool false,.nilS,.nilS,.nilS]))<|
 Zo (.call (some 51) true (.t 42) [.t 46,.t 50])<|
 Zm 41 51<|
 Zo (.ext 52 (.t 41) 0)<|
 Zo (.ext 53 (.t 41) 1)<|
 Zs 4 13 52<|
 Zm 14 53 .nil))<|Zr (Zm 54 14 .nil)<| .cond (.t 54) (.rg (Zm 55 9<|
 Zh 56 4 13<|
 Zo (.bs 57 4 74 [.t 56])<|
 Zo (.app 58 4 80 74 (.t 55) (.t 57))<|
 Zm 9 58 .nil)) .skip)<|Zr (Zm 59 10<|
 Zk 60 .add 59 1<|
 Zm 10 60 .nil)<| .rg (Zm 61 11<|
 Zk 62 .add 61 1<|
 Zm 11 62 .nil))))<|Zr (Zm 87 9<|
 Zm 88 0<|
 Zm 89 10<|
 Zo (.sl 90 4 (.t 88) (some (.t 89)) none none)<|
 Zo (.app 91 4 80 74 (.t 87) (.t 90))<|
 Zm 9 91 .nil)<|Zr (Zm 92 9<|
 Zm 93 1<|
 Zm 94 11<|
 Zo (.sl 95 4 (.t 93) (some (.t 94)) none none)<|
 Zo (.app 96 4 80 74 (.t 92) (.t 95))<|
 Zm 8 96 .nil) .ret⟩
theorem Qabz:Qe Tryz.prog Tryz.f140=some Q8i:=by kernel_rfl
def c91:SFn:=⟨10,[.t 4],Zr (Zo (.box 2 4 74 (.t 0))<|
 Zo (.box 3 4 74 (.t 1))<|
 Zc 4 0 .nil)<|Zr (Zf 5 3 2<|
 Zl 6 1 5<|
 Zf 7 3 3<|
 Zl 8 1 7<|
 Zq 9 false 116 [.t 6,.t 8,.c (Zz 0)]<|
 Zm 4 9 .nil) .ret⟩
theorem Q4g:Qe Tryz.prog Tryz.f91=some c91:=by kernel_rfl
def Q8j:SFn:=⟨19,[.cell 4 4 true,.t 5],Zr (Zo (.box 2 4 74 (.t 0))<|
 Zo (.box 3 4 74 (.t 1))<|
 Zo (.alloc 4 4 74 (.agg [.bool false,.nilS,.nilS,.nilS]))<|
 Zo (.mv 5 (.c (.bool false))) .nil)<|Zr (Zf 7 0 2<|
 Zh 8 3 7<|
 Zf 9 0 3<|
 Zh 10 3 9<|
 Zq 11 false 49 [.t 8,.t 10]<|
 Zo (.alloc 6 3 50 (.agg [.bool false,.nilS,.nilS]))<|
 Zs 3 6 11 .nil)<|Zr (Zh 12 3 6<|
 Zf 13 3 2<|
 Zl 14 1 13<|
 Zo (.bld 15 [.bool false,.nilS,.nilS,.nilS] [(0,3,.t 12),(3,1,.t 14)])<|
 Zh 16 3 6<|
 Zq 17 true 25 [.t 16]<|
 Zk 18 .neq 17 0<|
 Zs 4 4 15<|
 Zm 5 18 .nil) .ret⟩
theorem Qab0:Qe Tryz.prog Tryz.f141=some Q8j:=by kernel_rfl
def Qw6:SFn:=⟨25,[.t 2],Zr (Zo (.mv 2 (.c .nilS)) .nil)<| .seq (Zr (Zm 4 0<|
 Zn 5 4 .nil)<| .block 0<|Zr (Zk 7 .eql 5 0<|
 Zm 6 7 .nil)<| .cond (.t 6) (Zr (Zo (.mv 2 (.c .nilS)) .nil) .ret) (Zr (Zk 9 .eql 5 1<|
 Zm 8 9 .nil)<| .cond (.t 8) (Zr (Zm 10 0<|
 Zo (.idx 11 1 (.t 10) (.c (Zz 0)))<|
 Zl 12 1 11<|
 Zm 2 12 .nil) .ret) .skip))<|Zr (Zm 13 0<|
 Zn 14 13<|
 Zk 15 .quo 14 2<|
 Zm 3 15 .nil)<|Zr (Zm 16 0<|
 Zm 17 3<|
 Zo (.sl 18 1 (.t 16) none (some (.t 17)) none)<|
 Zm 20 0<|
 Zm 21 3<|
 Zo (.sl 22 1 (.t 20) (some (.t 21)) none none)<|
 Zq 19 false 139 [.t 18]<|
 Zq 23 false 139 [.t 22]<|
 Zq 24 false 125 [.t 19,.t 23]<|
 Zm 2 24 .nil) .ret⟩
theorem Qzo:Qe Tryz.prog Tryz.f139=some Qw6:=by kernel_rfl
def Q8k:SFn:=⟨12,[.t 4],Zr (Zo (.box 2 3 50 (.t 0))<|
 Zo (.mv 4 (.c .nilS)) .nil)<| .seq (Zr (Zh 5 3 2<|
 Zq 6 false 25 [.t 5]<|
 Zk 7 .eql 6 0 .nil)<| .cond (.t 7) (Zr (Zo (.mv 4 (.c .nilS)) .nil) .ret) .skip)<|Zr (Zh 8 3 2<|
 Zm 9 1<|
 Zo (.bld 10 [.bool false,.nilS,.nilS,.nilS] [(0,3,.t 8),(3,1,.t 9)])<|
 Zo (.bs 11 4 74 [.t 10])<|
 Zm 4 11 .nil) .ret⟩
theorem Qab1:Qe Tryz.prog Tryz.f138=some Q8k:=by kernel_rfl
def Q8l:SFn:=⟨43,[.t 2],Zr (Zo (.mv 2 (.c (.bool false))) .nil)<| .seq (Zr (Zm 5 0<|
 Zn 6 5<|
 Zc 7 0 .nil)<| .block 0<| .loop<|Zr (Zb 8 .lss 7 6 .nil)<| .seq (.cond (.t 8) .skip (.exit 0))<| .seq (.block 1<|Zr (Zm 9 7<|
 Zi 10 4 5 7<|
 Zh 11 4 10<|
 Zo (.alloc 4 4 74 (.agg [.bool false,.nilS,.nilS,.nilS]))<|
 Zm 3 9<|
 Zs 4 4 11 .nil)<|Zr (Zf 12 0 4<|
 Zh 13 3 12<|
 Zq 14 true 121 [.t 13]<|
 Zu 15 14<|
 Zm 16 15<|
 Zg 16 false (.fld 17 0 (.t 4))<|
 Zg 16 false (.ld 18 3 true (.t 17))<|
 Zg 16 false (.call (some 19) true (.c (.fn 25 [] [])) [.t 18])<|
 Zg 16 false (.bin 20 .eql false (.t 19) (.c (Zz 0)))<|
 Zo (.pick 21 (.t 16) (.c (.bool true)) (.t 20))<|
 Zm 22 21<|
 Zg 22 false (.fld 23 3 (.t 4))<|
 Zg 22 false (.ld 24 1 false (.t 23))<|
 Zg 22 false (.call (some 25) true (.c (.fn 122 [] [])) [.t 24])<|
 Zg 22 false (.un 26 .not (.t 25))<|
 Zo (.pick 27 (.t 22) (.c (.bool true)) (.t 26))<|
 Zm 28 27<|
 Zg 28 false (.mv 29 (.t 3))<|
 Zg 28 false (.bin 30 .gtr false (.t 29) (.c (Zz 0)))<|
 Zg 28 false (.mv 31 (.t 30))<|
 Zg 31 true (.mv 32 (.t 0))<|
 Zg 31 true (.mv 33 (.t 3))<|
 Zg 31 true (.bin 34 .sub false (.t 33) (.c (Zz 1)))<|
 Zg 31 true (.idx 35 4 (.t 32) (.t 34))<|
 Zg 31 true (.ld 36 4 true (.t 35))<|
 Zg 31 true (.ld 37 4 true (.t 4))<|
 Zg 31 true (.call (some 38) true (.c (.fn 91 [] [])) [.t 36,.t 37])<|
 Zg 31 true (.bin 39 .leq false (.t 38) (.c (Zz 0)))<|
 Zg 28 false (.pick 40 (.t 31) (.t 39) (.c (.bool false)))<|
 Zo (.pick 41 (.t 28) (.c (.bool true)) (.t 40)) .nil)<| .cond (.t 41) (Zr (Zo (.mv 2 (.c (.bool false))) .nil) .ret) .skip)<| .rg (Zk 42 .add 7 1<|
 Zm 7 42 .nil))<|Zr (Zo (.mv 2 (.c (.bool true))) .nil) .ret⟩
theorem Qab2:Qe Tryz.prog Tryz.f103=some Q8l:=by kernel_rfl
def Q8m:SFn:=⟨7,[.t 2],Zr (Zo (.box 1 3 50 (.t 0))<|
 Zo (.mv 2 (.c .nilS)) .nil)<|Zr (Zh 3 3 1<|
 Zq 4 true 46 [.c (Zz 0)]<|
 Zq 5 true 49 [.t 3,.t 4]<|
 Zq 6 true 138 [.t 5,.c .nilS]<|
 Zm 2 6 .nil) .ret⟩
theorem Qab3:Qe Tryz.prog Tryz.f123=some Q8m:=by kernel_rfl
def c30:SFn:=⟨9,[.t 4],Zr (Zo (.mv 4 (.c (.bool false))) .nil)<|Zr (Zm 5 0<|
 Zm 6 1<|
 Zq 7 false 58 [.t 5,.t 6]<|
 Zk 8 .eql 7 0<|
 Zm 4 8 .nil) .ret⟩
theorem Qagc:Qe Tryz.prog Tryz.f30=some c30:=by kernel_rfl
def c58:SFn:=⟨10,[.t 4],Zr (Zc 4 0 .nil)<|Zr (Zo (.mv 5 (.c (.fn 90 [] []))) .nil)<|Zr (Zm 6 0<|
 Zm 7 1<|
 Zm 8 5<|
 Zq 9 false 93 [.t 6,.t 7,.t 8]<|
 Zm 4 9 .nil) .ret⟩
theorem Qagd:Qe Tryz.prog Tryz.f58=some c58:=by kernel_rfl
def c90:SFn:=⟨17,[.t 4],Zr (Zo (.box 2 4 74 (.t 0))<|
 Zo (.box 3 4 74 (.t 1))<|
 Zc 4 0 .nil)<| .seq (Zr (Zh 6 4 2<|
 Zh 7 4 3<|
 Zq 8 false 91 [.t 6,.t 7]<|
 Zm 5 8 .nil)<|Zr (Zm 9 5<|
 Zk 10 .neq 9 0 .nil)<| .cond (.t 10) (Zr (Zm 11 5<|
 Zm 4 11 .nil) .ret) .skip)<|Zr (Zf 12 0 2<|
 Zh 13 3 12<|
 Zf 14 0 3<|
 Zh 15 3 14<|
 Zq 16 false 92 [.t 13,.t 15]<|
 Zm 4 16 .nil) .ret⟩
theorem Qage:Qe Tryz.prog Tryz.f90=some c90:=by kernel_rfl
def Q8n:SFn:=⟨8,[.t 4],Zr (Zo (.mv 4 (.c .nilS)) .nil)<|Zr (Zm 5 0<|
 Zm 6 1<|
 Zq 7 false 140 [.t 5,.t 6,.c (.fn 91 [] []),.c (.fn 141 [] [])]<|
 Zm 4 7 .nil) .ret⟩
theorem Qab4:Qe Tryz.prog Tryz.f125=some Q8n:=by kernel_rfl
def c76:SFn:=⟨38,[.t 4],Zr (Zo (.box 3 4 74 (.t 1))<|
 Zo (.mv 4 (.c .nilS)) .nil)<|Zr (Zm 9 0<|
 Zn 10 9<|
 Zo (.mk 11 4 80 74 (.agg [.bool false,.nilS,.nilS,.nilS]) (.c (Zz 0)) (.t 10))<|
 Zm 5 11 .nil)<| .seq (Zr (Zm 12 0<|
 Zn 13 12<|
 Zc 14 0 .nil)<| .block 0<| .loop<|Zr (Zb 15 .lss 14 13 .nil)<| .seq (.cond (.t 15) .skip (.exit 0))<| .seq (.block 1<|Zr (Zi 16 4 12 14<|
 Zh 17 4 16<|
 Zo (.alloc 7 4 74 (.agg [.bool false,.nilS,.nilS,.nilS]))<|
 Zs 4 7 17 .nil)<|Zr (Zf 18 0 7<|
 Zh 19 3 18<|
 Zf 20 0 3<|
 Zh 21 3 20<|
 Zq 22 false 47 [.t 19,.t 21]<|
 Zo (.alloc 8 3 50 (.agg [.bool false,.nilS,.nilS]))<|
 Zs 3 8 22 .nil)<|Zr (Zh 23 3 8<|
 Zq 24 false 25 [.t 23]<|
 Zk 25 .neq 24 0 .nil)<| .cond (.t 25) (.rg (Zm 26 5<|
 Zh 27 3 8<|
 Zf 28 3 7<|
 Zl 29 1 28<|
 Zf 30 3 3<|
 Zl 31 1 30<|
 Zq 32 true 102 [.t 29,.t 31]<|
 Zo (.bld 33 [.bool false,.nilS,.nilS,.nilS] [(0,3,.t 27),(3,1,.t 32)])<|
 Zo (.bs 34 4 74 [.t 33])<|
 Zo (.app 35 4 80 74 (.t 26) (.t 34))<|
 Zm 5 35 .nil)) .skip)<| .rg (Zk 36 .add 14 1<|
 Zm 14 36 .nil))<|Zr (Zm 37 5<|
 Zm 4 37 .nil) .ret⟩
theorem Qagf:Qe Tryz.prog Tryz.f76=some c76:=by kernel_rfl
def Q8o:SFn:=⟨33,[.t 4],Zr (Zo (.mv 4 (.c .nilS)) .nil)<| .seq (Zr (Zm 8 0<|
 Zn 9 8<|
 Zm 10 1<|
 Zn 11 10<|
 Zb 12 .gtr 9 11 .nil)<| .cond (.t 12) (.rg (Zm 13 1<|
 Zm 14 0<|
 Zm 0 13<|
 Zm 1 14 .nil)) .skip)<|Zr (Zm 15 0<|
 Zn 16 15<|
 Zo (.mk 17 1 24 35 .nilS (.c (Zz 0)) (.t 16))<|
 Zm 5 17 .nil)<| .seq (Zr (Zm 18 0<|
 Zn 19 18<|
 Zc 20 0 .nil)<| .block 0<| .loop<|Zr (Zb 21 .lss 20 19 .nil)<| .seq (.cond (.t 21) .skip (.exit 0))<| .seq (.block 1<|Zr (Zi 22 4 18 20<|
 Zh 23 4 22<|
 Zo (.alloc 7 4 74 (.agg [.bool false,.nilS,.nilS,.nilS]))<|
 Zs 4 7 23 .nil)<| .rg (Zm 24 5<|
 Zm 25 1<|
 Zh 26 4 7<|
 Zq 27 false 76 [.t 25,.t 26]<|
 Zo (.bs 28 1 35 [.t 27])<|
 Zo (.app 29 1 24 35 (.t 24) (.t 28))<|
 Zm 5 29 .nil))<| .rg (Zk 30 .add 20 1<|
 Zm 20 30 .nil))<|Zr (Zm 31 5<|
 Zq 32 false 139 [.t 31]<|
 Zm 4 32 .nil) .ret⟩
theorem Qab5:Qe Tryz.prog Tryz.f124=some Q8o:=by kernel_rfl
def c43:SFn:=⟨12,[.t 4],Zr (Zo (.box 3 3 50 (.t 1))<|
 Zo (.mv 4 (.c .nilS)) .nil)<| .seq (Zr (Zh 5 3 3<|
 Zq 6 false 25 [.t 5]<|
 Zk 7 .eql 6 0 .nil)<| .cond (.t 7) (Zr (Zo (.mv 4 (.c .nilS)) .nil) .ret) .skip)<|Zr (Zm 8 0<|
 Zh 9 3 3<|
 Zo (.bld 10 [.bool false,.nilS,.nilS,.nilS] [(0,3,.t 9)])<|
 Zq 11 false 76 [.t 8,.t 10]<|
 Zm 4 11 .nil) .ret⟩
theorem Qagg:Qe Tryz.prog Tryz.f43=some c43:=by kernel_rfl
def c29:SFn:=⟨19,[.t 2],Zr (Zc 2 0 .nil)<|Zr (Zc 3 (-1) .nil)<| .seq (Zr (Zm 6 0<|
 Zn 7 6<|
 Zc 8 0 .nil)<| .block 0<| .loop<|Zr (Zb 9 .lss 8 7 .nil)<| .seq (.cond (.t 9) .skip (.exit 0))<| .seq (.block 1<|Zr (Zi 10 4 6 8<|
 Zh 11 4 10<|
 Zo (.alloc 5 4 74 (.agg [.bool false,.nilS,.nilS,.nilS]))<|
 Zs 4 5 11 .nil)<| .rg (Zm 12 3<|
 Zf 13 3 5<|
 Zl 14 1 13<|
 Zq 15 false 57 [.t 14]<|
 Zo (.mx 16 (.t 12) (.t 15))<|
 Zm 3 16 .nil))<| .rg (Zk 17 .add 8 1<|
 Zm 8 17 .nil))<|Zr (Zm 18 3<|
 Zm 2 18 .nil) .ret⟩
theorem Qagh:Qe Tryz.prog Tryz.f29=some c29:=by kernel_rfl
def c48:SFn:=⟨23,[.cell 4 3 true],Zr (Zo (.box 2 3 50 (.t 0))<|
 Zo (.alloc 4 3 50 (.agg [.bool false,.nilS,.nilS])) .nil)<|Zr (Zq 6 false 46 [.c (Zz 1)]<|
 Zo (.alloc 5 3 50 (.agg [.bool false,.nilS,.nilS]))<|
 Zs 3 5 6 .nil)<| .seq (.block 0<| .loop<| .seq (Zr (Zm 7 1<|
 Zk 8 .gtr 7 0 .nil)<| .cond (.t 8) .skip (.exit 0))<| .seq (.block 1<| .seq (Zr (Zm 11 1<|
 Zk 12 .rem 11 2<|
 Zk 13 .eql 12 1 .nil)<| .cond (.t 13) (.rg (Zh 14 3 5<|
 Zh 15 3 2<|
 Zq 16 false 47 [.t 14,.t 15]<|
 Zs 3 5 16 .nil)) .skip)<|Zr (Zm 17 1<|
 Zk 18 .gtr 17 1 .nil)<| .cond (.t 18) (.rg (Zh 19 3 2<|
 Zh 20 3 2<|
 Zq 21 false 47 [.t 19,.t 20]<|
 Zs 3 2 21 .nil)) .skip)<| .rg (Zm 9 1<|
 Zk 10 .quo 9 2<|
 Zm 1 10 .nil))<|Zr (Zh 22 3 5<|
 Zs 3 4 22 .nil) .ret⟩
theorem Qagi:Qe Tryz.prog Tryz.f48=some c48:=by kernel_rfl
def c24:SFn:=⟨61,[.cell 4 3 true,.t 5],Zr (Zo (.alloc 4 3 50 (.agg [.bool false,.nilS,.nilS]))<|
 Zc 5 0 .nil)<| .seq (Zr (Zm 14 0<|
 Zn 15 14<|
 Zc 16 0 .nil)<| .block 0<| .loop<|Zr (Zb 17 .lss 16 15 .nil)<| .seq (.cond (.t 17) .skip (.exit 0))<| .seq (.block 1<|Zr (Zi 18 4 14 16<|
 Zh 19 4 18<|
 Zo (.alloc 7 4 74 (.agg [.bool false,.nilS,.nilS,.nilS]))<|
 Zs 4 7 19 .nil)<|Zr (Zf 20 3 7<|
 Zl 21 1 20<|
 Zq 22 false 45 [.t 21]<|
 Zm 23 1<|
 Zn 24 23<|
 Zb 25 .geq 22 24 .nil)<| .cond (.t 25) (Zr (Zo (.bld 26 [.bool false,.nilS,.nilS] [])<|
 Zs 3 4 26<|
 Zc 5 2 .nil) .ret) .skip)<| .rg (Zk 27 .add 16 1<|
 Zm 16 27 .nil))<|Zr (Zq 28 false 46 [.c (Zz 0)]<|
 Zo (.alloc 8 3 50 (.agg [.bool false,.nilS,.nilS]))<|
 Zs 3 8 28 .nil)<| .seq (Zr (Zm 29 0<|
 Zn 30 29<|
 Zc 31 0 .nil)<| .block 2<| .loop<|Zr (Zb 32 .lss 31 30 .nil)<| .seq (.cond (.t 32) .skip (.exit 2))<| .seq (.block 3<|Zr (Zi 33 4 29 31<|
 Zh 34 4 33<|
 Zo (.alloc 10 4 74 (.agg [.bool false,.nilS,.nilS,.nilS]))<|
 Zs 4 10 34 .nil)<|Zr (Zf 35 0 10<|
 Zh 36 3 35<|
 Zo (.alloc 11 3 50 (.agg [.bool false,.nilS,.nilS]))<|
 Zs 3 11 36 .nil)<| .seq (Zr (Zf 37 3 10<|
 Zl 38 1 37<|
 Zn 39 38<|
 Zc 40 0 .nil)<| .block 4<| .loop<|Zr (Zb 41 .lss 40 39 .nil)<| .seq (.cond (.t 41) .skip (.exit 4))<| .seq (.block 5<|Zr (Zm 42 40<|
 Zi 43 1 38 40<|
 Zl 44 1 43<|
 Zm 12 42<|
 Zm 13 44 .nil)<|Zr (Zm 45 13<|
 Zk 46 .gtr 45 0 .nil)<| .cond (.t 46) (.rg (Zh 47 3 11<|
 Zm 48 1<|
 Zm 49 12<|
 Zi 50 3 48 49<|
 Zh 51 3 50<|
 Zm 52 13<|
 Zq 53 true 48 [.t 51,.t 52]<|
 Zq 54 true 47 [.t 47,.t 53]<|
 Zs 3 11 54 .nil)) .skip)<| .rg (Zk 55 .add 40 1<|
 Zm 40 55 .nil))<| .rg (Zh 56 3 8<|
 Zh 57 3 11<|
 Zq 58 false 49 [.t 56,.t 57]<|
 Zs 3 8 58 .nil))<| .rg (Zk 59 .add 31 1<|
 Zm 31 59 .nil))<|Zr (Zh 60 3 8<|
 Zs 3 4 60<|
 Zc 5 0 .nil) .ret⟩
theorem Qagj:Qe Tryz.prog Tryz.f24=some c24:=by kernel_rfl
def c93:SFn:=⟨39,[.t 6],Zr (Zc 6 0 .nil)<| .seq (Zr (Zm 11 0<|
 Zn 12 11<|
 Zc 13 0 .nil)<| .block 0<| .loop<|Zr (Zb 14 .lss 13 12 .nil)<| .seq (.cond (.t 14) .skip (.exit 0))<| .seq (.block 1<|Zr (Zm 15 13<|
 Zi 16 4 11 13<|
 Zh 17 4 16<|
 Zo (.alloc 8 4 74 (.agg [.bool false,.nilS,.nilS,.nilS]))<|
 Zm 7 15<|
 Zs 4 8 17 .nil)<| .seq (Zr (Zm 18 7<|
 Zm 19 1<|
 Zn 20 19<|
 Zb 21 .geq 18 20 .nil)<| .cond (.t 21) (Zr (Zc 6 1 .nil) .ret) .skip)<|Zr (Zm 22 1<|
 Zm 23 7<|
 Zi 24 4 22 23<|
 Zh 25 4 24<|
 Zo (.alloc 9 4 74 (.agg [.bool false,.nilS,.nilS,.nilS]))<|
 Zs 4 9 25 .nil)<|Zr (Zm 26 2<|
 Zh 27 4 8<|
 Zh 28 4 9<|
 Zo (.call (some 29) false (.t 26) [.t 27,.t 28])<|
 Zm 10 29 .nil)<|Zr (Zm 30 10<|
 Zk 31 .neq 30 0 .nil)<| .cond (.t 31) (Zr (Zm 32 10<|
 Zm 6 32 .nil) .ret) .skip)<| .rg (Zk 33 .add 13 1<|
 Zm 13 33 .nil))<| .seq (Zr (Zm 34 0<|
 Zn 35 34<|
 Zm 36 1<|
 Zn 37 36<|
 Zb 38 .lss 35 37 .nil)<| .cond (.t 38) (Zr (Zc 6 (-1) .nil) .ret) .skip)<|Zr (Zc 6 0 .nil) .ret⟩
theorem Qagk:Qe Tryz.prog Tryz.f93=some c93:=by kernel_rfl
end Go.Proofs.YtdacdnoebgcjhaaGreat
namespace Go.Proofs.YtdacdnoebgcjhaaGreat
open Go Go.FW
set_option linter.unusedSimpArgs false
set_option linter.unusedVariables false
set_option maxRecDepth 100000
theorem Q9g{a b:Rat}{k:Nat}(ha:rs a<=k)(hb:rs b<=k)(hk:k<2^36):Qd Tryz.prog 49 [PV.rat a,PV.rat b] (· =PV.rat (a+b)):=by
 have:=Qtq (Qb5 ha) (Qb5 hb) hk
 rwa[Qct,Qct]at this
theorem Qrg{a b:Rat}{k:Nat}(ha:rs a<=k)(hb:rs b<=k)(hk:k<2^36):Qd Tryz.prog 47 [PV.rat a,PV.rat b] (· =PV.rat (a*b)):=by
 have:=Q4d (Qb5 ha) (Qb5 hb) hk
 rwa[Qct,Qct]at this
theorem Qah2{a b:Rat}{k:Nat}(ha:rs a<=k)(hb:rs b<=k)(hk:k<2^36):Qd Tryz.prog 92 [PV.rat a,PV.rat b] (· = .int .i64 (Qhg a b)):=by
 have:=Q4e (Qb5 ha) (Qb5 hb) hk
 rwa[Qct,Qct]at this
theorem Qnw{a:Rat}(ha:rs a<2^36):Qd Tryz.prog 25 [PV.rat a] (· = .int .i64 (Qc6 a)):=by
 have:=Qiw (Qb5 (Nat.le_refl (rs a))) ha
 rwa[Qct]at this
theorem Qrh{s t:Tm}{E:Nat}(hs:MB E s.2)(ht:MB E t.2)(hE:E<=2^38):Qd Tryz.prog 91 [PV.term s,PV.term t] (· = .int .i64 (Qah s.2 t.2)):=by
 refine Qf Ql Tryz.func91 rfl Q4g (by simp[c91]) fun C hP=> ?_;simp only[c91,Zo,Zg,Zm,Zc,Zf,Zl,Zh,Zs,Zi,Zb,Zk,Zn,Zu,Zq,Zr,Zz]
 simp+decide (disch:=first|exact D0|fail) only[go_sem,↓reduceIte]
 refine Qa hP (Qrf (o:=0) hs ht (by omega)) rfl rfl rfl ?_
 simp+decide (disch:=first|exact D0|fail) only[go_sem,↓reduceIte]
 exact Qc (by rw[Qqx]) rfl
theorem Qw7{s t:Tm}{k:Nat}(hs:rs s.1<=k)(ht:rs t.1<=k)(hk:k<2^34):Qd Tryz.prog 141 [PV.term s,PV.term t] (· = .tup [PV.term (s.1+t.1,s.2),.bool (decide (¬s.1+t.1=0))]):=by
 have hr:=Qli s.1 t.1
 refine Qf Ql Tryz.func141 rfl Qab0 (by simp[Q8j]) fun C hP=> ?_;simp only[Q8j,Zo,Zg,Zm,Zc,Zf,Zl,Zh,Zs,Zi,Zb,Zk,Zn,Zu,Zq,Zr,Zz]
 simp+decide (disch:=first|exact D0|fail) only[go_sem,↓reduceIte]
 refine Qa hP (Q9g (a:=s.1) (b:=t.1) hs ht (by omega)) rfl rfl rfl ?_
 simp+decide (disch:=first|exact D0|fail) only[go_sem,↓reduceIte]
 refine Qa hP (Qnw (a:=s.1+t.1) (by omega)) rfl rfl rfl ?_
 simp+decide (disch:=first|exact D0|fail) only[go_sem,↓reduceIte]
 refine Ql6 ?_
 simp+decide (disch:=first|exact D0|fail) only[go_sem,↓reduceIte]
 exact Qdd rfl rfl rfl (Q8 _) (Qfg (congrArg PV.bool (decide_eq_decide.2 (not_congr Qaw))))
theorem Qun{c:Rat}{m:List Int}(hc:rs c<2^36):Qd Tryz.prog 138 [PV.rat c,PV.mono m] (· =PV.poly (if c=0 then []else [(c,m)])):=by
 refine Qf Ql Tryz.func138 rfl Qab1 (by simp[Q8k]) fun C hP=> ?_;simp only[Q8k,Zo,Zg,Zm,Zc,Zf,Zl,Zh,Zs,Zi,Zb,Zk,Zn,Zu,Zq,Zr,Zz]
 simp+decide (disch:=first|exact D0|fail) only[go_sem,↓reduceIte]
 refine Qa hP (Qnw (a:=c) hc) rfl rfl rfl ?_
 simp+decide (disch:=first|exact D0|fail) only[go_sem,↓reduceIte]
 refine Qb (fun h0=> ?_) (fun h0=> ?_)
 ·rw[if_pos (Qaw.1 h0)]
  simp+decide (disch:=first|exact D0|fail) only[go_sem,↓reduceIte]
  exact Qdu Qfm rfl
 ·rw[if_neg (fun h=>h0 (Qaw.2 h))]
  simp+decide (disch:=first|exact E0|fail) only[go_sem,↓reduceIte,Qz,List.contains_cons,List.contains_nil,List.flatMap_cons,List.flatMap_nil,List.append_nil]
  exact Qc rfl rfl
theorem Qw8{p q:List Tm}{K E:Nat}(hp:PB K E p)(hq:PB K E q)(hK:K<=2^33)(hE:E<=2^38)(hlp:p.length<=2^36)(hlq:q.length<=2^36):
  Qd Tryz.prog 140 [PV.poly p,PV.poly q,.fn 91 [] [],.fn 141 [] []] (· =PV.poly (Q7 p q)):=by
 refine Qf Ql Tryz.func140 rfl Qabz (by simp[Q8i]) fun C hP=> ?_;simp only[Q8i,Zo,Zg,Zm,Zc,Zf,Zl,Zh,Zs,Zi,Zb,Zk,Zn,Zu,Zq,Zr,Zz]
 simp+decide (disch:=first|exact D0|fail) only[go_sem,↓reduceIte]
 refine Qw (by repeat (first|exact Qu|exact Qn|exact Qo|exact Qp|exact Qq|apply Qm|apply Qt|apply Qy|apply Q5|apply Q6|apply Qk)) [(9,14),(21,86)] [13,20,57,58,71,72,83,84] (fun n J hp=>∃i k out,n=(p.length-i)+(q.length-k)/\i<=p.length/\k<=q.length/\out.length<=i+k/\out++Q7 (p.drop i) (q.drop k)=Q7 p q/\
  J 9= .ms 20 out.length/\J 10= .int .i64 (i:Nat)/\J 11= .int .i64 (k:Nat)/\hp 20=some ⟨4,74,out.map PV.term,false⟩) (p.length+q.length) ?_ ?_
 ·refine⟨0,0,[],by omega,by omega,by omega,by simp,rfl,?_⟩
  simp+decide (disch:=first|exact D0|fail) only[go_sem,↓reduceIte]
  simp
 rintro _ J h ⟨i,k,out,rfl,hi,hk,hol,hpad,h9,h10,h11,hh⟩
 simp+decide (disch:=first|exact D3 h9 h10 h11|fail) only[go_sem,↓reduceIte,h9,h10,h11]
 refine Qan (fun hg=> ?_) (fun hg=> ?_)
 ·have hi':i<p.length:=by omega
  simp+decide (disch:=first|exact D3 h9 h10 h11|fail) only[go_sem,↓reduceIte,h9,h10,h11]
  refine Qb (fun hg2=> ?_) (fun hg2=> ?_)
  ·have hk':k<q.length:=by omega
   have htp:=hp.get hi'
   have htq:=hq.get hk'
   rw[Qtj hi' hk']at hpad
   have c1:=htp.c
   have c2:=htq.c
   generalize hx:p[i]=x at *
   generalize hy:q[k]=y at *
   simp+decide (disch:=first|exact D5 h9 h10 h11 hx hy|fail) only[go_sem,↓reduceIte,h9,h10,h11,hx,hy]
   refine Qa hP (Qrh (s:=x) (t:=y) htp.m htq.m hE) rfl rfl rfl ?_
   simp+decide (disch:=first|exact D5 h9 h10 h11 hx hy|fail) only[go_sem,↓reduceIte,h9,h10,h11,hx,hy]
   refine Qb (fun hc=> ?_) (fun hc=> ?_)
   ·rw[if_pos hc]at hpad
    simp+decide (disch:=first|exact D5 h9 h10 h11 hx hy|fail) only[go_sem,↓reduceIte,h9,h10,h11,hx,hy]
    rw[Qai (f:=PV.term) (y:=x) (xs:=out) (ty':=74) (fz:=false) (T1 hh) Tr0 (by omega) rfl (by omega) (by omega)]
    simp+decide (disch:=first|exact D5 h9 h10 h11 hx hy|fail) only[go_sem,↓reduceIte,h9,h10,h11,hx,hy]
    refine Qh ((p.length-(i+1))+(q.length-k)) (by omega) ⟨i+1,k,out++[x],rfl,by omega,hk,by simp;omega,by simpa using hpad,?_⟩
    simp+decide (disch:=first|exact D3 h9 h10 h11|fail) only[go_sem,↓reduceIte,h9,h10,h11]
    simp
   rw[if_neg hc]at hpad
   simp+decide (disch:=first|exact D5 h9 h10 h11 hx hy|fail) only[go_sem,↓reduceIte,h9,h10,h11,hx,hy]
   refine Qb (fun hc2=> ?_) (fun hc2=> ?_)
   ·rw[if_pos hc2]at hpad
    simp+decide (disch:=first|exact D5 h9 h10 h11 hx hy|fail) only[go_sem,↓reduceIte,h9,h10,h11,hx,hy]
    rw[Qai (f:=PV.term) (y:=y) (xs:=out) (ty':=74) (fz:=false) (T1 hh) Tr0 (by omega) rfl (by omega) (by omega)]
    simp+decide (disch:=first|exact D5 h9 h10 h11 hx hy|fail) only[go_sem,↓reduceIte,h9,h10,h11,hx,hy]
    refine Qh ((p.length-i)+(q.length-(k+1))) (by omega) ⟨i,k+1,out++[y],rfl,hi,by omega,by simp;omega,by simpa using hpad,?_⟩
    simp+decide (disch:=first|exact D3 h9 h10 h11|fail) only[go_sem,↓reduceIte,h9,h10,h11]
    simp
   rw[if_neg hc2]at hpad
   simp+decide (disch:=first|exact D5 h9 h10 h11 hx hy|fail) only[go_sem,↓reduceIte,h9,h10,h11,hx,hy]
   refine Qgf ?_ ?_
   all_goals
    simp+decide (disch:=first|exact D5 h9 h10 h11 hx hy|fail) only[go_sem,↓reduceIte,h9,h10,h11,hx,hy]
    refine Qa hP (Qw7 (s:=x) (t:=y) (k:=2^33) (by omega) (by omega) (by omega)) rfl rfl rfl ?_
    simp+decide (disch:=first|exact D5 h9 h10 h11 hx hy|fail) only[go_sem,↓reduceIte,h9,h10,h11,hx,hy]
    refine Qb (fun hz=> ?_) (fun hz=> ?_)
    ·rw[if_neg hz]at hpad
     simp+decide (disch:=first|exact D5 h9 h10 h11 hx hy|fail) only[go_sem,↓reduceIte,h9,h10,h11,hx,hy]
     rw[Qai (f:=PV.term) (y:=(x.1+y.1,x.2)) (xs:=out) (ty':=74) (fz:=false) (T1 hh) Tr0 (by omega) rfl (by omega) (by omega)]
     simp+decide (disch:=first|exact D5 h9 h10 h11 hx hy|fail) only[go_sem,↓reduceIte,h9,h10,h11,hx,hy]
     refine Qh ((p.length-(i+1))+(q.length-(k+1))) (by omega) ⟨i+1,k+1,out++[(x.1+y.1,x.2)],rfl,by omega,by omega,by simp;omega,by simpa using hpad,?_⟩
     simp+decide (disch:=first|exact D3 h9 h10 h11|fail) only[go_sem,↓reduceIte,h9,h10,h11]
     simp
    ·rw[if_pos (Decidable.not_not.1 hz)]at hpad
     simp+decide (disch:=first|exact D5 h9 h10 h11 hx hy|fail) only[go_sem,↓reduceIte,h9,h10,h11,hx,hy]
     refine Qh ((p.length-(i+1))+(q.length-(k+1))) (by omega) ⟨i+1,k+1,out,rfl,by omega,by omega,by omega,hpad,?_⟩
     simp+decide (disch:=first|exact D4 h9 h10 h11 hh|fail) only[go_sem,↓reduceIte,h9,h10,h11,hh]
  ·have hfin:(out++p.drop i++q.drop k).take (out.length+(p.drop i).length+(q.drop k).length)=Q7 p q:=by
    rw[List.take_of_length_le (by simp;omega),<-hpad,List.drop_of_length_le (by omega:q.length<=k),Qb3,List.append_nil]
   simp+decide (disch:=first|exact D3 h9 h10 h11|fail) only[go_sem,↓reduceIte,h9,h10,h11]
   rw[Qcd (f:=PV.term) (xs:=out) (ys:=p.drop i) (T1 hh) rfl (by omega) (by simp;omega) (by simp;omega)]
   simp+decide (disch:=first|exact D3 h9 h10 h11|fail) only[go_sem,↓reduceIte,h9,h10,h11]
   rw[Qcd (f:=PV.term) (xs:=out++p.drop i) (ys:=q.drop k) T0 (by simp) (by omega) (by simp;omega) (by simp;omega)]
   simp+decide (disch:=first|exact E3 h9 h10 h11|fail) only[go_sem,↓reduceIte,h9,h10,h11,Qz,List.contains_cons,List.contains_nil,List.flatMap_cons,List.flatMap_nil,List.append_nil]
   exact Qc (by rw[<-List.map_take,hfin]) rfl
 ·have hfin:(out++p.drop i++q.drop k).take (out.length+(p.drop i).length+(q.drop k).length)=Q7 p q:=by
   rw[List.take_of_length_le (by simp;omega),<-hpad,List.drop_of_length_le (by omega:p.length<=i),Qep,List.append_nil]
  simp+decide (disch:=first|exact D3 h9 h10 h11|fail) only[go_sem,↓reduceIte,h9,h10,h11]
  rw[Qcd (f:=PV.term) (xs:=out) (ys:=p.drop i) (T1 hh) rfl (by omega) (by simp;omega) (by simp;omega)]
  simp+decide (disch:=first|exact D3 h9 h10 h11|fail) only[go_sem,↓reduceIte,h9,h10,h11]
  rw[Qcd (f:=PV.term) (xs:=out++p.drop i) (ys:=q.drop k) T0 (by simp) (by omega) (by simp;omega) (by simp;omega)]
  simp+decide (disch:=first|exact E3 h9 h10 h11|fail) only[go_sem,↓reduceIte,h9,h10,h11,Qz,List.contains_cons,List.contains_nil,List.flatMap_cons,List.flatMap_nil,List.append_nil]
  exact Qc (by rw[<-List.map_take,hfin]) rfl
theorem Qri{p q:List Tm}{K E:Nat}(hp:PB K E p)(hq:PB K E q)(hK:K<=2^33)(hE:E<=2^38)(hlp:p.length<=2^36)(hlq:q.length<=2^36):
  Qd Tryz.prog 125 [PV.poly p,PV.poly q] (· =PV.poly (Q7 p q)):=by
 refine Qf Ql Tryz.func125 rfl Qab4 (by simp[Q8n]) fun C hP=> ?_;simp only[Q8n,Zo,Zg,Zm,Zc,Zf,Zl,Zh,Zs,Zi,Zb,Zk,Zn,Zu,Zq,Zr,Zz]
 simp+decide (disch:=first|exact D0|fail) only[go_sem,↓reduceIte]
 refine Qa hP (Qw8 hp hq hK hE hlp hlq) rfl rfl rfl ?_
 simp+decide (disch:=first|exact D0|fail) only[go_sem,↓reduceIte]
 exact Qc rfl rfl
end Go.Proofs.YtdacdnoebgcjhaaGreat
namespace Go.Proofs.YtdacdnoebgcjhaaGreat
open Go Go.FW
set_option linter.unusedSimpArgs false
set_option linter.unusedVariables false
set_option maxRecDepth 100000
theorem Qrj{K E:Nat}(hE:E<=2^38):∀(n:Nat)(l:List (List Tm)),l.length<=n->(∀p∈l,PB K E p)->l.length*K<=2^33->l.length<=2^36->Qmb l<=2^36->Qd Tryz.prog 139 [PV.polys l] (· =PV.poly (Qa4 l)):=by
 intro n
 induction n with
 |zero=>
  intro l hl _ _ _ _
  have:l=[]:=List.length_eq_zero_iff.1 (by omega)
  subst this
  refine Qf Ql Tryz.func139 rfl Qzo (by simp[Qw6]) fun C hP=> ?_;simp only[Qw6,Zo,Zg,Zm,Zc,Zf,Zl,Zh,Zs,Zi,Zb,Zk,Zn,Zu,Zq,Zr,Zz]
  simp+decide (disch:=first|omega|rfl|(simp+decide only[go_sem,↓reduceIte,List.map_nil,List.length_nil]<;>rfl)|fail) only[go_sem,↓reduceIte,List.map_nil,List.length_nil]
  exact Qdu (Qnj (by rw[Qa4])) rfl
 | succ n ih=>
  intro l hl hb hK hll hpl
  refine Qf Ql Tryz.func139 rfl Qzo (by simp[Qw6]) fun C hP=> ?_;simp only[Qw6,Zo,Zg,Zm,Zc,Zf,Zl,Zh,Zs,Zi,Zb,Zk,Zn,Zu,Zq,Zr,Zz]
  simp+decide (disch:=first|exact D0|fail) only[go_sem,↓reduceIte]
  refine Qb (fun h0=> ?_) (fun h0=> ?_)
  ·have:l=[]:=List.length_eq_zero_iff.1 (by omega)
   subst this
   simp+decide (disch:=first|exact D0|fail) only[go_sem,↓reduceIte]
   exact Qdu (Qnj (by rw[Qa4])) rfl
  simp+decide (disch:=first|exact D0|fail) only[go_sem,↓reduceIte]
  refine Qb (fun h1=> ?_) (fun h1=> ?_)
  ·obtain⟨p,rfl⟩:∃p,l=[p]:=List.length_eq_one_iff.1 (by omega)
   simp+decide (disch:=first|omega|rfl|(simp+decide only[go_sem,↓reduceIte,List.map_cons,List.map_nil]<;>rfl)|fail) only[go_sem,↓reduceIte,List.map_cons,List.map_nil]
   exact Qc (by rw[Qa4];rfl) rfl
  have h2:2<=l.length:=by omega
  have hs:=Qqw l (l.length/2)
  have e:(2:Int)=((2:Nat):Int):=rfl
  have hq:∀d fr hp K,Qau .quo false (.int .i64 (l.length:Int)) (.int .i64 2) d fr hp K=K (upd fr d (.int .i64 ((l.length/2:Nat):Int))) hp:=fun d fr hp K=>by
   rw[e,Qoe (by omega) (by omega)]
  have b1:=Qmc (K:=K) (E:=E) _ (l.take (l.length/2)) (Nat.le_refl _) (fun p hp=>hb p (List.mem_of_mem_take hp))
  have b2:=Qmc (K:=K) (E:=E) _ (l.drop (l.length/2)) (Nat.le_refl _) (fun p hp=>hb p (List.mem_of_mem_drop hp))
  have l1:(l.take (l.length/2)).length*K<=l.length*K:=Nat.mul_le_mul_right _ (by rw[List.length_take];omega)
  have l2:(l.drop (l.length/2)).length*K<=l.length*K:=Nat.mul_le_mul_right _ (by rw[List.length_drop];omega)
  simp+decide (disch:=first|exact D1 hq|fail) only[go_sem,↓reduceIte,hq]
  refine Qa hP (ih (l.take (l.length/2)) (by rw[List.length_take];omega) (fun p hp=>hb p (List.mem_of_mem_take hp)) (by omega) (by rw[List.length_take];omega) (by omega)) rfl rfl rfl ?_
  simp+decide (disch:=first|exact D1 hq|fail) only[go_sem,↓reduceIte,hq]
  refine Qa hP (ih (l.drop (l.length/2)) (by rw[List.length_drop];omega) (fun p hp=>hb p (List.mem_of_mem_drop hp)) (by omega) (by rw[List.length_drop];omega) (by omega)) rfl rfl rfl ?_
  simp+decide (disch:=first|exact D1 hq|fail) only[go_sem,↓reduceIte,hq]
  refine Qa hP (Qri (b1.1.mono (K':=l.length*K) l1 (Nat.le_refl _)) (b2.1.mono l2 (Nat.le_refl _)) hK hE (by omega) (by omega)) rfl rfl rfl ?_
  simp+decide (disch:=first|exact D0|fail) only[go_sem,↓reduceIte]
  exact Qc (by rw[Qid h2]) rfl
theorem Qk0{p:List Tm}{t:Tm}{i:Nat}(h:i<p.length):Q9 (p.take (i+1)) t=Q9 (p.take i) t++(if p[i].1*t.1=0 then []else [(p[i].1*t.1,Qby p[i].2 t.2)]):=by
 rw[List.take_succ_eq_append_getElem h,Q9,List.filterMap_append,Q9]
 congr 1
 simp only[List.filterMap_cons,List.filterMap_nil]
 split<;>split<;>simp_all
theorem Qjs{p:List Tm}{t:Tm}{K E:Nat}(hp:PB K E p)(ht:TB K E t)(hK:K<=2^33)(hE:E<=2^38)(hlp:p.length<=2^36):
  Qd Tryz.prog 76 [PV.poly p,PV.term t] (· =PV.poly (Q9 p t)):=by
 refine Qf Ql Tryz.func76 rfl Qagf (by simp[c76]) fun C hP=> ?_;simp only[c76,Zo,Zg,Zm,Zc,Zf,Zl,Zh,Zs,Zi,Zb,Zk,Zn,Zu,Zq,Zr,Zz]
 simp+decide (disch:=first|exact D0|fail) only[go_sem,↓reduceIte]
 refine Qw (by repeat (first|exact Qu|exact Qn|exact Qo|exact Qp|exact Qq|apply Qm|apply Qt|apply Qy|apply Q5|apply Q6|apply Qk)) [(5,5),(7,8),(14,36)] [7,8,11,34,35] (fun n J hp=>∃i,n=p.length-i/\i<=p.length/\J 5= .ms 11 (Q9 (p.take i) t).length/\J 14= .int .i64 (i:Nat)/\hp 3=some ⟨4,74,[PV.term t],false⟩/\hp 11=some ⟨4,74,(Q9 (p.take i) t).map PV.term,false⟩) p.length ?_ ?_
 ·refine⟨0,rfl,by omega,?_⟩
  simp+decide (disch:=first|exact D0|fail) only[go_sem,↓reduceIte]
  simp[Q9]
 rintro _ J h ⟨i,rfl,hi,h5,h14,hh3,hh11⟩
 simp+decide (disch:=first|exact D2 h5 h14|fail) only[go_sem,↓reduceIte,h5,h14]
 refine Qb (fun hg=> ?_) (fun hg=> ?_)
 ·have hi':i<p.length:=by omega
  have htp:=hp.get hi'
  have htk:=Qk0 (t:=t) hi'
  have hlen:=Qdv (p.take i) t
  rw[List.length_take]at hlen
  have c1:=htp.c
  have c2:=ht.c
  have hrm:=Qjo p[i].1 t.1
  generalize hx:p[i]=x at *
  simp+decide (disch:=first|exact D4 h5 h14 hh3 hx|fail) only[go_sem,↓reduceIte,h5,h14,hh3,hx]
  refine Qa hP (Qrg (a:=x.1) (b:=t.1) (k:=2^33) (by omega) (by omega) (by omega)) rfl rfl rfl ?_
  simp+decide (disch:=first|exact D4 h5 h14 hh3 hx|fail) only[go_sem,↓reduceIte,h5,h14,hh3,hx]
  refine Qa hP (Qnw (a:=x.1*t.1) (by omega)) rfl rfl rfl ?_
  simp+decide (disch:=first|exact D4 h5 h14 hh3 hx|fail) only[go_sem,↓reduceIte,h5,h14,hh3,hx]
  refine Qb (fun hz=> ?_) (fun hz=> ?_)
  ·rw[if_neg (fun h=>hz (Qaw.2 h))]at htk
   simp+decide (disch:=first|exact D4 h5 h14 hh3 hx|fail) only[go_sem,↓reduceIte,h5,h14,hh3,hx]
   refine Qa hP (Q1j htp.m ht.m (by omega)) rfl rfl rfl ?_
   simp+decide (disch:=first|exact D4 h5 h14 hh3 hx|fail) only[go_sem,↓reduceIte,h5,h14,hh3,hx]
   rw[Qai (f:=PV.term) (y:=(x.1*t.1,Qby x.2 t.2)) (xs:=Q9 (p.take i) t) (ty':=74) (fz:=false) (T1 hh11) Tr0 (by omega) rfl (by omega) (by omega)]
   rw[<-htk]
   simp+decide (disch:=first|exact D4 h5 h14 hh3 hx|fail) only[go_sem,↓reduceIte,h5,h14,hh3,hx]
   refine Qh (p.length-(i+1)) (by omega) ⟨i+1,rfl,by omega,?_⟩
   rw[htk]
   simp+decide (disch:=first|omega|rfl|(simp+decide only[go_sem,↓reduceIte,h5,h14,hh3,List.length_append]<;>rfl)|fail) only[go_sem,↓reduceIte,h5,h14,hh3,List.length_append]
  ·rw[if_pos (Qaw.1 (Decidable.not_not.1 hz)),List.append_nil]at htk
   simp+decide (disch:=first|exact D4 h5 h14 hh3 hx|fail) only[go_sem,↓reduceIte,h5,h14,hh3,hx]
   refine Qh (p.length-(i+1)) (by omega) ⟨i+1,rfl,by omega,?_⟩
   rw[htk]
   simp+decide (disch:=first|exact D4 h5 h14 hh3 hh11|fail) only[go_sem,↓reduceIte,h5,h14,hh3,hh11]
 ·obtain rfl:i=p.length:=by omega
  rw[List.take_length]at h5 hh11
  simp+decide (disch:=first|exact E2 h5 hh11|fail) only[go_sem,↓reduceIte,h5,hh11,Qz,List.contains_cons,List.contains_nil,List.flatMap_cons,List.flatMap_nil,List.append_nil]
  exact Qc (by simp[List.take_of_length_le]) rfl
theorem Qrk{p q:List Tm}{K E:Nat}(hp:PB K E p)(hq:PB K E q)(hE:E<=2^37)(hlp:p.length<=2^30)(hlq:q.length<=2^30)(hlm:p.length*q.length<=2^36)(hK:min p.length q.length*(K+K)<=2^33)(hK2:K<=2^33):
  Qd Tryz.prog 124 [PV.poly p,PV.poly q] (· =PV.poly (Qbb p q)):=by
 have main:∀(p q:List Tm),PB K E p->PB K E q->p.length<=2^30->q.length<=2^30->p.length*q.length<=2^36->p.length*(K+K)<=2^33->p.length<=q.length->True:=fun _ _ _ _ _ _ _ _ _=>trivial
 refine Qf Ql Tryz.func124 rfl Qab5 (by simp[Q8o]) fun C hP=> ?_;simp only[Q8o,Zo,Zg,Zm,Zc,Zf,Zl,Zh,Zs,Zi,Zb,Zk,Zn,Zu,Zq,Zr,Zz]
 simp+decide (disch:=first|exact D0|fail) only[go_sem,↓reduceIte]
 refine Qb (fun hg=> ?_) (fun hg=> ?_)
 ·have hfin:Qf5 q p=Qbb p q:=by rw[Qbb,if_pos (by omega)]
  have hK3:q.length*(K+K)<=2^33:=by rw[Nat.min_eq_right (by omega)]at hK;exact hK
  have hlm2:q.length*p.length<=2^36:=by rw[Nat.mul_comm];exact hlm
  simp+decide (disch:=first|exact D0|fail) only[go_sem,↓reduceIte]
  refine Qw (by repeat (first|exact Qu|exact Qn|exact Qo|exact Qp|exact Qq|apply Qm|apply Qt|apply Qy|apply Q5|apply Q6|apply Qk)) [(5,5),(7,7),(20,30)] [7,17,28,29] (fun n J hp=>∃i,n=q.length-i/\i<=q.length/\J 5= .ms 17 i/\J 20= .int .i64 (i:Nat)/\hp 17=some ⟨1,35,((q.take i).map (Q9 p)).map PV.poly,false⟩) q.length ?_ ?_
  ·refine⟨0,rfl,by omega,?_⟩
   simp+decide (disch:=first|exact D0|fail) only[go_sem,↓reduceIte]
   simp
  rintro _ J h ⟨i,rfl,hi,h5,h20,hh⟩
  simp+decide (disch:=first|exact D2 h5 h20|fail) only[go_sem,↓reduceIte,h5,h20]
  refine Qb (fun hg2=> ?_) (fun hg2=> ?_)
  ·have hi':i<q.length:=by omega
   have htp:=hq.get hi'
   have htk:(q.take (i+1)).map (Q9 p)=(q.take i).map (Q9 p)++[Q9 p q[i]]:=by
    rw[List.take_succ_eq_append_getElem hi',List.map_append];rfl
   generalize hx:q[i]=x at *
   simp+decide (disch:=first|exact D3 h5 h20 hx|fail) only[go_sem,↓reduceIte,h5,h20,hx]
   refine Qa hP (Qjs (t:=x) hp htp hK2 (by omega) (by omega)) rfl rfl rfl ?_
   simp+decide (disch:=first|exact D3 h5 h20 hx|fail) only[go_sem,↓reduceIte,h5,h20,hx]
   rw[Qai (f:=PV.poly) (y:=Q9 p x) (xs:=(q.take i).map (Q9 p)) (ty':=35) (fz:=false) (T1 hh) Tr0 (by omega) (by simp;omega) (by omega) (by omega)]
   rw[<-htk]
   simp+decide (disch:=first|exact D3 h5 h20 hx|fail) only[go_sem,↓reduceIte,h5,h20,hx]
   refine Qh (q.length-(i+1)) (by omega) ⟨i+1,rfl,by omega,?_⟩
   simp+decide (disch:=first|exact D2 h5 h20|fail) only[go_sem,↓reduceIte,h5,h20]
  ·obtain rfl:i=q.length:=by omega
   rw[List.take_length]at hh
   have hpl:=Qhk q p
   simp+decide (disch:=first|exact D2 h5 hh|fail) only[go_sem,↓reduceIte,h5,hh]
   refine Qc2 hP (Qrj (K:=K+K) (E:=E+E) (by omega) _ (q.map (Q9 p)) (Nat.le_refl _) (fun x hx=>by
    obtain⟨t,ht,rfl⟩:=List.mem_map.1 hx
    exact Qfl hp (hq t ht)) (by rw[List.length_map];omega) (by rw[List.length_map];omega) (by omega)) (by simp+decide (disch:=first|exact E1 hh|fail) only[go_sem,↓reduceIte,hh,Qz,List.contains_cons,List.contains_nil,List.flatMap_cons,List.flatMap_nil,List.append_nil];simp[List.take_of_length_le]) rfl ?_
   simp+decide (disch:=first|exact D0|fail) only[go_sem,↓reduceIte]
   exact Qc (congrArg PV.poly hfin) rfl
 ·have hfin:Qf5 p q=Qbb p q:=by rw[Qbb,if_neg (by omega)]
  have hK3:p.length*(K+K)<=2^33:=by rw[Nat.min_eq_left (by omega)]at hK;exact hK
  simp+decide (disch:=first|exact D0|fail) only[go_sem,↓reduceIte]
  refine Qw (by repeat (first|exact Qu|exact Qn|exact Qo|exact Qp|exact Qq|apply Qm|apply Qt|apply Qy|apply Q5|apply Q6|apply Qk)) [(5,5),(7,7),(20,30)] [7,17,28,29] (fun n J hp=>∃i,n=p.length-i/\i<=p.length/\J 5= .ms 17 i/\J 20= .int .i64 (i:Nat)/\hp 17=some ⟨1,35,((p.take i).map (Q9 q)).map PV.poly,false⟩) p.length ?_ ?_
  ·refine⟨0,rfl,by omega,?_⟩
   simp+decide (disch:=first|exact D0|fail) only[go_sem,↓reduceIte]
   simp
  rintro _ J h ⟨i,rfl,hi,h5,h20,hh⟩
  simp+decide (disch:=first|exact D2 h5 h20|fail) only[go_sem,↓reduceIte,h5,h20]
  refine Qb (fun hg2=> ?_) (fun hg2=> ?_)
  ·have hi':i<p.length:=by omega
   have htp:=hp.get hi'
   have htk:(p.take (i+1)).map (Q9 q)=(p.take i).map (Q9 q)++[Q9 q p[i]]:=by
    rw[List.take_succ_eq_append_getElem hi',List.map_append];rfl
   generalize hx:p[i]=x at *
   simp+decide (disch:=first|exact D3 h5 h20 hx|fail) only[go_sem,↓reduceIte,h5,h20,hx]
   refine Qa hP (Qjs (t:=x) hq htp hK2 (by omega) (by omega)) rfl rfl rfl ?_
   simp+decide (disch:=first|exact D3 h5 h20 hx|fail) only[go_sem,↓reduceIte,h5,h20,hx]
   rw[Qai (f:=PV.poly) (y:=Q9 q x) (xs:=(p.take i).map (Q9 q)) (ty':=35) (fz:=false) (T1 hh) Tr0 (by omega) (by simp;omega) (by omega) (by omega)]
   rw[<-htk]
   simp+decide (disch:=first|exact D3 h5 h20 hx|fail) only[go_sem,↓reduceIte,h5,h20,hx]
   refine Qh (p.length-(i+1)) (by omega) ⟨i+1,rfl,by omega,?_⟩
   simp+decide (disch:=first|exact D2 h5 h20|fail) only[go_sem,↓reduceIte,h5,h20]
  ·obtain rfl:i=p.length:=by omega
   rw[List.take_length]at hh
   have hpl:=Qhk p q
   simp+decide (disch:=first|exact D2 h5 hh|fail) only[go_sem,↓reduceIte,h5,hh]
   refine Qc2 hP (Qrj (K:=K+K) (E:=E+E) (by omega) _ (p.map (Q9 q)) (Nat.le_refl _) (fun x hx=>by
    obtain⟨t,ht,rfl⟩:=List.mem_map.1 hx
    exact Qfl hq (hp t ht)) (by rw[List.length_map];omega) (by rw[List.length_map];omega) (by omega)) (by simp+decide (disch:=first|exact E1 hh|fail) only[go_sem,↓reduceIte,hh,Qz,List.contains_cons,List.contains_nil,List.flatMap_cons,List.flatMap_nil,List.append_nil];simp[List.take_of_length_le]) rfl ?_
   simp+decide (disch:=first|exact D0|fail) only[go_sem,↓reduceIte]
   exact Qc (congrArg PV.poly hfin) rfl
end Go.Proofs.YtdacdnoebgcjhaaGreat
namespace Go.Proofs.YtdacdnoebgcjhaaGreat
open Go Go.FW
set_option linter.unusedSimpArgs false
set_option linter.unusedVariables false
set_option maxRecDepth 100000
theorem Q4h{k l:Nat}{a b:List Int}(ha:MB k a)(hb:MB l b)(h1:a.getLast? ≠some 0)(h2:b.getLast? ≠some 0):Qfk (· + ·) a b=Qby a b:=by
 rw[Qby,Qwf]
 rw[List.getLast?_eq_getElem?,Qb4]
 intro h
 obtain⟨hl,hv⟩:=List.getElem?_eq_some_iff.1 h
 rw[<-Qcu hl,Qzf (by simp)]at hv
 rw[Qb4]at hl
 have p1:=(ha.eN (max a.length b.length-1)).1
 have p2:=(hb.eN (max a.length b.length-1)).1
 by_cases hc:b.length<=a.length
 ·apply h1
  have e:max a.length b.length-1=a.length-1:=by omega
  rw[e]at hv p1 p2
  rw[List.getLast?_eq_getElem?,List.getElem?_eq_getElem (by omega),<-Qcu (by omega)]
  congr 1;omega
 ·apply h2
  have e:max a.length b.length-1=b.length-1:=by omega
  rw[e]at hv p1 p2
  rw[List.getLast?_eq_getElem?,List.getElem?_eq_getElem (by omega),<-Qcu (by omega)]
  congr 1;omega
theorem Quo{p:List Tm}{t:Tm}{K E:Nat}(hp:PB K E p)(ht:TB K E t)(hnz:NZ p)(ht0:t.1≠0)(hK:K<=2^33)(hE:E<=2^38)(hlp:p.length<=2^36):
  Qd Tryz.prog 37 [PV.poly p,PV.term t] (· =PV.poly (Q9 p t)):=by
 refine Qf Ql Tryz.func37 rfl Qafa (by simp[c37]) fun C hP=> ?_;simp only[c37,Zo,Zg,Zm,Zc,Zf,Zl,Zh,Zs,Zi,Zb,Zk,Zn,Zu,Zq,Zr,Zz]
 simp+decide (disch:=first|exact D0|fail) only[go_sem,↓reduceIte]
 refine Qgj 5 900 4 74 (by omega) T0 ?_
 refine Qw (by repeat (first|exact Qu|exact Qn|exact Qo|exact Qp|exact Qq|apply Qm|apply Qt|apply Qy|apply Q5|apply Q6|apply Qk|apply Q2)) [(5,32)] [31,32,900] (fun n J hp=>∃i,n=p.length-i/\i<=p.length/\J 5= .ms 900 (Q9 (p.take i) t).length/\J 6= .int .i64 (i:Nat)/\hp 3=some ⟨4,74,[PV.term t],false⟩/\hp 900=some ⟨4,74,(Q9 (p.take i) t).map PV.term,false⟩) p.length ?_ ?_
 ·refine⟨0,rfl,by omega,?_⟩
  simp+decide (disch:=first|exact D0|fail) only[go_sem,↓reduceIte]
  simp[Q9]
 rintro _ J h ⟨i,rfl,hi,h5,h6,hh3,hh⟩
 simp+decide (disch:=first|exact D2 h5 h6|fail) only[go_sem,↓reduceIte,h5,h6]
 refine Qb (fun hg=> ?_) (fun hg=> ?_)
 ·have hi':i<p.length:=by omega
  have htp:=hp.get hi'
  have htk:=Qk0 (t:=t) hi'
  have hlen:=Qdv (p.take i) t
  rw[List.length_take]at hlen
  have c1:=htp.c
  have c2:=ht.c
  have hn0:=hnz _ (List.getElem_mem hi')
  generalize hx:p[i]=x at *
  have hzz:=Q4h htp.m ht.m htp.l ht.l
  rw[if_neg (fun h=>by rcases Rat.mul_eq_zero.1 h with h|h<;>contradiction)]at htk
  simp+decide (disch:=first|exact D4 h5 h6 hh3 hx|fail) only[go_sem,↓reduceIte,h5,h6,hh3,hx]
  refine Qa hP (Qw5 (a:=x.1) (b:=t.1) (k:=2^33) (by omega) (by omega) (by omega)) rfl rfl rfl ?_
  simp+decide (disch:=first|exact D4 h5 h6 hh3 hx|fail) only[go_sem,↓reduceIte,h5,h6,hh3,hx]
  refine Qa hP (Qyi htp.m ht.m (by omega)) rfl rfl rfl ?_
  rw[hzz]
  simp+decide (disch:=first|exact D4 h5 h6 hh3 hx|fail) only[go_sem,↓reduceIte,h5,h6,hh3,hx]
  rw[Qai (f:=PV.term) (y:=(x.1*t.1,Qby x.2 t.2)) (xs:=Q9 (p.take i) t) (ty':=74) (fz:=false) (T1 hh) Tr0 (by omega) rfl (by omega) (by omega)]
  rw[<-htk]
  simp+decide (disch:=first|exact D4 h5 h6 hh3 hx|fail) only[go_sem,↓reduceIte,h5,h6,hh3,hx]
  refine Qh (p.length-(i+1)) (by omega) ⟨i+1,rfl,by omega,?_⟩
  rw[htk]
  simp+decide (disch:=first|omega|rfl|(simp+decide only[go_sem,↓reduceIte,h5,h6,hh3,List.length_append]<;>rfl)|fail) only[go_sem,↓reduceIte,h5,h6,hh3,List.length_append]
 ·obtain rfl:i=p.length:=by omega
  rw[List.take_length]at h5 hh
  simp+decide (disch:=first|exact E2 h5 hh|fail) only[go_sem,↓reduceIte,h5,hh,Qz,List.contains_cons,List.contains_nil,List.flatMap_cons,List.flatMap_nil,List.append_nil]
  exact Qc (by simp[List.take_of_length_le]) rfl
theorem Q1k{p q:List Tm}{i:Nat}(h:i<q.length):Qf7 p (q.take (i+1))=Q7 (Qf7 p (q.take i)) (Q9 p q[i]):=by
 rw[List.take_succ_eq_append_getElem h,Qf7,List.foldl_append,Qf7];rfl
theorem Qo7{K E:Nat}{p:List Tm}(hp:PB K E p):∀(q out:List Tm)(L:Nat),PB K E q->PB L (E+E) out->PB (q.length*(K+K)+L) (E+E) (q.foldl (fun out t=>Q7 out (Q9 p t)) out)/\(q.foldl (fun out t=>Q7 out (Q9 p t)) out).length<=q.length*p.length+out.length
 | [],out,L,_,ho=>⟨by simpa using ho,by simp⟩
 |t::q,out,L,hq,ho=>by
  obtain⟨h1,h2⟩:=Qo7 hp q (Q7 out (Q9 p t)) (L+(K+K)) (PB.cons.1 hq).2 (Qsk _ _ ho (Qfl hp (PB.cons.1 hq).1))
  have h3:=Qow out (Q9 p t)
  have h4:=Qdv p t
  refine⟨h1.mono (by rw[List.length_cons,Nat.add_mul];omega) (Nat.le_refl _),Nat.le_trans h2 ?_⟩
  rw[List.length_cons,Nat.add_mul];omega
theorem Q8p{K E:Nat}{p q:List Tm}(hp:PB K E p)(hq:PB K E q):PB (q.length*(K+K)) (E+E) (Qf7 p q)/\(Qf7 p q).length<=q.length*p.length:=by
 have:=Qo7 hp q [] 0 hq (PB.nil _ _)
 simpa[Qf7]using this
theorem Qym{p q:List Tm}{K E:Nat}(hp:PB K E p)(hq:PB K E q)(hnp:NZ p)(hnq:NZ q)(hE:E<=2^37)(hlp:p.length<=2^30)(hlq:q.length<=2^30)(hlm:q.length*p.length<=2^36)(hK:q.length*(K+K)+(K+K)<=2^32):
  Qd Tryz.prog 18 [PV.poly p,PV.poly q] (· =PV.poly (Qf7 p q)):=by
 refine Qf Ql Tryz.func18 rfl Qae6 (by simp[c18]) fun C hP=> ?_;simp only[c18,Zo,Zg,Zm,Zc,Zf,Zl,Zh,Zs,Zi,Zb,Zk,Zn,Zu,Zq,Zr,Zz]
 simp+decide (disch:=first|exact D0|fail) only[go_sem,↓reduceIte]
 refine Qi7 5 4 T0 ?_
 refine Qw (by repeat (first|exact Qu|exact Qn|exact Qo|exact Qp|exact Qq|apply Qm|apply Qt|apply Qy|apply Q5|apply Q6|apply Qk|apply Q2)) [(5,20)] [] (fun n J hp=>∃i,n=q.length-i/\i<=q.length/\J 5=PV.poly (Qf7 p (q.take i))/\J 6= .int .i64 (i:Nat)) q.length ?_ ?_
 ·refine⟨0,rfl,by omega,?_⟩
  simp+decide (disch:=first|exact D0|fail) only[go_sem,↓reduceIte]
  simp[Qf7]
 rintro _ J h ⟨i,rfl,hi,h5,h6⟩
 simp+decide (disch:=first|exact D2 h5 h6|fail) only[go_sem,↓reduceIte,h5,h6]
 refine Qb (fun hg=> ?_) (fun hg=> ?_)
 ·have hi':i<q.length:=by omega
  have htq:=hq.get hi'
  have htk:=Q1k (p:=p) hi'
  have hn0:=hnq _ (List.getElem_mem hi')
  obtain⟨hb1,hb2⟩:=Q8p hp (hq.take i)
  have hbt:=Qfl hp htq
  have hlt:=Qdv p q[i]
  generalize hx:q[i]=x at *
  have e1:(q.take i).length=i:=by rw[List.length_take];omega
  rw[e1]at hb1 hb2
  have e2:i*(K+K)<=q.length*(K+K):=Nat.mul_le_mul_right _ hi
  have e3:i*p.length<=q.length*p.length:=Nat.mul_le_mul_right _ hi
  simp+decide (disch:=first|exact D3 h5 h6 hx|fail) only[go_sem,↓reduceIte,h5,h6,hx]
  refine Qa hP (Quo (t:=x) hp htq hnp hn0 (by omega) (by omega) (by omega)) rfl rfl rfl ?_
  simp+decide (disch:=first|exact D3 h5 h6 hx|fail) only[go_sem,↓reduceIte,h5,h6,hx]
  refine Qa hP (Qyl (K:=q.length*(K+K)+(K+K)) (E:=E+E) (hb1.mono (by omega) (by omega)) (hbt.mono (by omega) (by omega)) hK (by omega) (by omega) (by omega)) rfl rfl rfl ?_
  simp+decide (disch:=first|exact D3 h5 h6 hx|fail) only[go_sem,↓reduceIte,h5,h6,hx]
  refine Qh (q.length-(i+1)) (by omega) ⟨i+1,rfl,by omega,?_⟩
  rw[htk]
  simp+decide (disch:=first|exact D0|fail) only[go_sem,↓reduceIte]
 ·obtain rfl:i=q.length:=by omega
  rw[List.take_length]at h5
  simp+decide (disch:=first|exact D1 h5|fail) only[go_sem,↓reduceIte,h5]
  exact Qc rfl rfl
theorem Qup{p:List Tm}{a:Rat}{K E:Nat}(hp:PB K E p)(hnz:NZ p)(ha:rs a+1<=K)(hK:K<=2^33)(hE:E<=2^38)(hlp:p.length<=2^36):
  Qd Tryz.prog 19 [PV.poly p,PV.rat a] (· =PV.poly (Qc7 p a)):=by
 refine Qf Ql Tryz.func19 rfl Qae8 (by simp[c19]) fun C hP=> ?_;simp only[c19,Zo,Zg,Zm,Zc,Zf,Zl,Zh,Zs,Zi,Zb,Zk,Zn,Zu,Zq,Zr,Zz]
 simp+decide (disch:=first|exact D0|fail) only[go_sem,↓reduceIte]
 refine Qgj 5 900 4 74 (by omega) T0 ?_
 refine Qw (by repeat (first|exact Qu|exact Qn|exact Qo|exact Qp|exact Qq|apply Qm|apply Qt|apply Qy|apply Q5|apply Q6|apply Qk|apply Q2)) [(5,33)] [32,33,900] (fun n J hp=>∃i,n=p.length-i/\i<=p.length/\J 5= .ms 900 (Q9 (p.take i) (a,[])).length/\J 6= .int .i64 (i:Nat)/\hp 3=some ⟨3,50,[PV.rat a],false⟩/\hp 900=some ⟨4,74,(Q9 (p.take i) (a,[])).map PV.term,false⟩) p.length ?_ ?_
 ·refine⟨0,rfl,by omega,?_⟩
  simp+decide (disch:=first|exact D0|fail) only[go_sem,↓reduceIte]
  simp[Q9]
 rintro _ J h ⟨i,rfl,hi,h5,h6,hh3,hh⟩
 simp+decide (disch:=first|exact D2 h5 h6|fail) only[go_sem,↓reduceIte,h5,h6]
 refine Qan (fun hg=> ?_) (fun hg=> ?_)
 ·have hi':i<p.length:=by omega
  have htp:=hp.get hi'
  have htk:=Qk0 (t:=(a,[])) hi'
  have hlen:=Qdv (p.take i) (a,[])
  rw[List.length_take]at hlen
  have c1:=htp.c
  have hn0:=hnz _ (List.getElem_mem hi')
  generalize hx:p[i]=x at *
  simp+decide (disch:=first|exact D4 h5 h6 hh3 hx|fail) only[go_sem,↓reduceIte,h5,h6,hh3,hx]
  refine Qa hP (Qnu (a:=a) (by omega)) rfl rfl rfl ?_
  simp+decide (disch:=first|exact D4 h5 h6 hh3 hx|fail) only[go_sem,↓reduceIte,h5,h6,hh3,hx]
  refine Qb (fun hz=> ?_) (fun hz=> ?_)
  ·rw[if_neg (fun h=>by rcases Rat.mul_eq_zero.1 h with h|h;exact hn0 h;exact hz (Qaw.2 h)),Q6m htp.l]at htk
   simp+decide (disch:=first|exact D4 h5 h6 hh3 hx|fail) only[go_sem,↓reduceIte,h5,h6,hh3,hx]
   refine Qa hP (Qw5 (a:=x.1) (b:=a) (k:=2^33) (by omega) (by omega) (by omega)) rfl rfl rfl ?_
   simp+decide (disch:=first|exact D4 h5 h6 hh3 hx|fail) only[go_sem,↓reduceIte,h5,h6,hh3,hx]
   rw[Qai (f:=PV.term) (y:=(x.1*a,x.2)) (xs:=Q9 (p.take i) (a,[])) (ty':=74) (fz:=false) (T1 hh) Tr0 (by omega) rfl (by omega) (by omega)]
   rw[<-htk]
   simp+decide (disch:=first|exact D4 h5 h6 hh3 hx|fail) only[go_sem,↓reduceIte,h5,h6,hh3,hx]
   refine Qh (p.length-(i+1)) (by omega) ⟨i+1,rfl,by omega,?_⟩
   rw[htk]
   simp+decide (disch:=first|omega|rfl|(simp+decide only[go_sem,↓reduceIte,h5,h6,hh3,List.length_append]<;>rfl)|fail) only[go_sem,↓reduceIte,h5,h6,hh3,List.length_append]
  ·have ha0:=Qaw.1 (Decidable.not_not.1 hz)
   have e0:∀l:List Tm,Q9 l (a,[])=[]:=fun l=>by rw[ha0];simp[Q9]
   simp+decide (disch:=first|exact E3 h5 hh hh3|fail) only[go_sem,↓reduceIte,h5,hh,hh3,Qz,List.contains_cons,List.contains_nil,List.flatMap_cons,List.flatMap_nil,List.append_nil]
   refine Qc ?_ rfl
   rw[e0,Qc7,if_pos ha0];rfl
 ·obtain rfl:i=p.length:=by omega
  rw[List.take_length]at h5 hh
  simp+decide (disch:=first|exact E3 h5 hh hh3|fail) only[go_sem,↓reduceIte,h5,hh,hh3,Qz,List.contains_cons,List.contains_nil,List.flatMap_cons,List.flatMap_nil,List.append_nil]
  refine Qc ?_ rfl
  rw[List.take_of_length_le (by simp),Qc7]
  split
  ·rename_i ha0;rw[ha0];simp[Q9]
  ·rfl
end Go.Proofs.YtdacdnoebgcjhaaGreat
namespace Go.Proofs.YtdacdnoebgcjhaaGreat
open Go Go.FW
set_option linter.unusedSimpArgs false
set_option linter.unusedVariables false
set_option maxRecDepth 100000
theorem Qw9{p:List Tm}{a:Rat}{K E:Nat}(hp:PB K E p)(ha:rs a+1<=K)(hK:K<=2^33)(hE:E<=2^38)(hlp:p.length<=2^36):Qd Tryz.prog 43 [PV.poly p,PV.rat a] (· =PV.poly (Qc7 p a)):=by
 refine Qf Ql Tryz.func43 rfl Qagg (by simp[c43]) fun C hP=> ?_;simp only[c43,Zo,Zg,Zm,Zc,Zf,Zl,Zh,Zs,Zi,Zb,Zk,Zn,Zu,Zq,Zr,Zz]
 simp+decide (disch:=first|exact D0|fail) only[go_sem,↓reduceIte]
 refine Qa hP (Qnw (a:=a) (by omega)) rfl rfl rfl ?_
 simp+decide (disch:=first|exact D0|fail) only[go_sem,↓reduceIte]
 refine Qb (fun h0=> ?_) (fun h0=> ?_)
 ·simp+decide (disch:=first|exact D0|fail) only[go_sem,↓reduceIte]
  exact Qdu (Qnj (by rw[Qc7,if_pos (Qaw.1 h0)])) rfl
 ·simp+decide (disch:=first|exact D0|fail) only[go_sem,↓reduceIte]
  refine Qa hP ((Qjs (t:=(a,[])) hp (TB.num ha) hK hE hlp).le (args':=[PV.poly p,.agg [.bool (decide (a.num<0)),PV.num a.num.natAbs,PV.num a.den,.nilS]]) ⟨Q8 _,⟨rfl,Qjk _,Qjk _,trivial,trivial⟩,trivial⟩) rfl rfl rfl ?_
  simp+decide (disch:=first|exact D0|fail) only[go_sem,↓reduceIte]
  exact Qc (by rw[Qc7,if_neg (fun h=>h0 (Qaw.2 h))]) rfl
theorem Q1l{n:Bool}{a d:List Nat}{k:Nat}(hp:Raw k n a d)(hk:k<2^36):Qd Tryz.prog 49 [PV.rr n a d,PV.rat ((0:Int):Rat)] (· =PV.rat (rv n a d)):=by
 have h0:rs ((0:Int):Rat)<=k:=by have:=Q6p;have:=hp.k1;have e:((0:Int):Rat)=0:=rfl;rw[e];omega
 have:=Qtq hp (Qb5 h0) hk
 rw[Qct]at this
 have e:rv n a d+((0:Int):Rat)=rv n a d:=Rat.add_zero _
 rwa[e]at this
theorem Qxa{n:Bool}{a d:List Nat}{k:Nat}(hp:Raw k n a d)(hk:k<2^36):Qd Tryz.prog 123 [PV.rr n a d] (· =PV.poly (Qbm (rv n a d))):=by
 have hr:=hp.rs
 refine Qf Ql Tryz.func123 rfl Qab3 (by simp[Q8m]) fun C hP=> ?_;simp only[Q8m,Zo,Zg,Zm,Zc,Zf,Zl,Zh,Zs,Zi,Zb,Zk,Zn,Zu,Zq,Zr,Zz]
 simp+decide (disch:=first|exact D0|fail) only[go_sem,↓reduceIte]
 refine Qa hP (Qkj (x:=0) (by omega) (by omega)) rfl rfl rfl ?_
 simp+decide (disch:=first|exact D0|fail) only[go_sem,↓reduceIte]
 refine Qa hP (Q1l hp hk) rfl rfl rfl ?_
 simp+decide (disch:=first|exact D0|fail) only[go_sem,↓reduceIte]
 refine Qa hP ((Qun (c:=rv n a d) (m:=[]) (by omega)).le (args':=[PV.rat (rv n a d),.nilS]) ⟨Q8 _,trivial,trivial⟩) rfl rfl rfl ?_
 simp+decide (disch:=first|exact D0|fail) only[go_sem,↓reduceIte]
 exact Qc rfl rfl
theorem Qyn{s t:Tm}{K E:Nat}(hs:TB K E s)(ht:TB K E t)(hK:K<=2^33)(hE:E<=2^38):Qd Tryz.prog 90 [PV.term s,PV.term t] (· = .int .i64 (Qg0 s t)):=by
 have c1:=hs.c
 have c2:=ht.c
 refine Qf Ql Tryz.func90 rfl Qage (by simp[c90]) fun C hP=> ?_;simp only[c90,Zo,Zg,Zm,Zc,Zf,Zl,Zh,Zs,Zi,Zb,Zk,Zn,Zu,Zq,Zr,Zz]
 simp+decide (disch:=first|exact D0|fail) only[go_sem,↓reduceIte]
 refine Qa hP (Qrh (s:=s) (t:=t) hs.m ht.m hE) rfl rfl rfl ?_
 simp+decide (disch:=first|exact D0|fail) only[go_sem,↓reduceIte]
 refine Qb (fun h=> ?_) (fun h=> ?_)
 ·simp+decide (disch:=first|exact D0|fail) only[go_sem,↓reduceIte]
  exact Qc (by rw[Qg0,if_pos h]) rfl
 ·simp+decide (disch:=first|exact D0|fail) only[go_sem,↓reduceIte]
  refine Qa hP (Qah2 (a:=s.1) (b:=t.1) (k:=2^33) (by omega) (by omega) (by omega)) rfl rfl rfl ?_
  simp+decide (disch:=first|exact D0|fail) only[go_sem,↓reduceIte]
  exact Qc (by rw[Qg0,if_neg h]) rfl
theorem Qnx{p q:List Tm}{K E:Nat}(hp:PB K E p)(hq:PB K E q)(hK:K<=2^33)(hE:E<=2^38)(hlp:p.length<=2^36)(hlq:q.length<=2^36):
  Qd Tryz.prog 93 [PV.poly p,PV.poly q,.fn 90 [] []] (· = .int .i64 (Qea p q)):=by
 refine Qf Ql Tryz.func93 rfl Qagk (by simp[c93]) fun C hP=> ?_;simp only[c93,Zo,Zg,Zm,Zc,Zf,Zl,Zh,Zs,Zi,Zb,Zk,Zn,Zu,Zq,Zr,Zz]
 simp+decide (disch:=first|exact D0|fail) only[go_sem,↓reduceIte]
 refine Qw (by repeat (first|exact Qu|exact Qn|exact Qo|exact Qp|exact Qq|apply Qm|apply Qt|apply Qy|apply Q5|apply Q6|apply Qk)) [(6,10),(13,33)] [8,9] (fun n J hp=>∃i,n=p.length-i/\i<=p.length/\(i<=q.length)/\Qea (p.drop i) (q.drop i)=Qea p q/\J 13= .int .i64 (i:Nat)) p.length ?_ ?_
 ·refine⟨0,rfl,by omega,by omega,rfl,?_⟩
  simp+decide (disch:=first|exact D0|fail) only[go_sem,↓reduceIte]
  rfl
 rintro _ J h ⟨i,rfl,hi,hi2,hpc,h13⟩
 simp+decide (disch:=first|exact D1 h13|fail) only[go_sem,↓reduceIte,h13]
 refine Qb (fun hg=> ?_) (fun hg=> ?_)
 ·have hi':i<p.length:=by omega
  have htp:=hp.get hi'
  have hdp:p.drop i=p[i]::p.drop (i+1):=List.drop_eq_getElem_cons hi'
  have hpcd:=fun hk=>Qtk (q:=q) hi' hk
  generalize hx:p[i]=x at *
  simp+decide (disch:=first|exact D2 h13 hx|fail) only[go_sem,↓reduceIte,h13,hx]
  refine Qb (fun hk=> ?_) (fun hk=> ?_)
  ·rw[hdp,List.drop_of_length_le (show q.length<=i by omega),Qea]at hpc
   simp+decide (disch:=first|exact D0|fail) only[go_sem,↓reduceIte]
   exact Qc (by rw[hpc]) rfl
  ·have hk':i<q.length:=by omega
   have htq:=hq.get hk'
   have hpcd:=hpcd hk'
   generalize hy:q[i]=y at *
   rw[hpcd]at hpc
   simp+decide (disch:=first|exact D3 h13 hx hy|fail) only[go_sem,↓reduceIte,h13,hx,hy]
   refine Qa hP (Qyn (s:=x) (t:=y) htp htq hK hE) rfl rfl rfl ?_
   simp+decide (disch:=first|exact D3 h13 hx hy|fail) only[go_sem,↓reduceIte,h13,hx,hy]
   refine Qb (fun hc=> ?_) (fun hc=> ?_)
   ·rw[if_pos hc]at hpc
    simp+decide (disch:=first|exact D0|fail) only[go_sem,↓reduceIte]
    exact Qc (by rw[hpc]) rfl
   ·rw[if_neg hc]at hpc
    simp+decide (disch:=first|exact D1 h13|fail) only[go_sem,↓reduceIte,h13]
    refine Qh (p.length-(i+1)) (by omega) ⟨i+1,rfl,by omega,by omega,hpc,?_⟩
    simp+decide (disch:=first|exact D0|fail) only[go_sem,↓reduceIte]
 ·obtain rfl:i=p.length:=by omega
  rw[List.drop_of_length_le (Nat.le_refl _),Qjp]at hpc
  simp+decide (disch:=first|exact D0|fail) only[go_sem,↓reduceIte]
  refine Qb (fun hk=> ?_) (fun hk=> ?_)
  ·rw[if_neg (by rw[List.length_drop];omega)]at hpc
   simp+decide (disch:=first|exact D0|fail) only[go_sem,↓reduceIte]
   exact Qc (by rw[hpc]) rfl
  ·rw[if_pos (by rw[List.length_drop];omega)]at hpc
   simp+decide (disch:=first|exact D0|fail) only[go_sem,↓reduceIte]
   exact Qc (by rw[hpc]) rfl
theorem Q1m{p q:List Tm}{K E:Nat}(hp:PB K E p)(hq:PB K E q)(hK:K<=2^33)(hE:E<=2^38)(hlp:p.length<=2^36)(hlq:q.length<=2^36):Qd Tryz.prog 58 [PV.poly p,PV.poly q] (· = .int .i64 (Qea p q)):=by
 refine Qf Ql Tryz.func58 rfl Qagd (by simp[c58]) fun C hP=> ?_;simp only[c58,Zo,Zg,Zm,Zc,Zf,Zl,Zh,Zs,Zi,Zb,Zk,Zn,Zu,Zq,Zr,Zz]
 simp+decide (disch:=first|exact D0|fail) only[go_sem,↓reduceIte]
 refine Qa hP (Qnx hp hq hK hE hlp hlq) rfl rfl rfl ?_
 simp+decide (disch:=first|exact D0|fail) only[go_sem,↓reduceIte]
 exact Qc rfl rfl
theorem Qjt{p q:List Tm}{K E:Nat}(hp:PB K E p)(hq:PB K E q)(hK:K<=2^33)(hE:E<=2^38)(hlp:p.length<=2^36)(hlq:q.length<=2^36):Qd Tryz.prog 30 [PV.poly p,PV.poly q] (· = .bool (decide (p=q))):=by
 refine Qf Ql Tryz.func30 rfl Qagc (by simp[c30]) fun C hP=> ?_;simp only[c30,Zo,Zg,Zm,Zc,Zf,Zl,Zh,Zs,Zi,Zb,Zk,Zn,Zu,Zq,Zr,Zz]
 simp+decide (disch:=first|exact D0|fail) only[go_sem,↓reduceIte]
 refine Qa hP (Q1m hp hq hK hE hlp hlq) rfl rfl rfl ?_
 simp+decide (disch:=first|exact D0|fail) only[go_sem,↓reduceIte]
 exact Qc (congrArg PV.bool (decide_eq_decide.2 (Qsl hp.last hq.last))) rfl
end Go.Proofs.YtdacdnoebgcjhaaGreat
namespace Go.Proofs.YtdacdnoebgcjhaaGreat
open Go Go.FW
set_option linter.unusedSimpArgs false
set_option linter.unusedVariables false
set_option maxRecDepth 100000
theorem RB.raw{k:Nat}{t:RTm}(h:RB k t)(hk:1<=k):Raw k t.n t.a t.d:=⟨h.r.1,h.r.2.1,h.r.2.2.1,h.r.2.2.2,hk⟩
theorem Qab6{s t:RTm}{E:Nat}(hs:MB E s.m)(ht:MB E t.m)(hE:E<=2^38):Qd Tryz.prog 91 [PV.rterm s,PV.rterm t] (· = .int .i64 (Qah s.m t.m)):=by
 refine Qf Ql Tryz.func91 rfl Q4g (by simp[c91]) fun C hP=> ?_;simp only[c91,Zo,Zg,Zm,Zc,Zf,Zl,Zh,Zs,Zi,Zb,Zk,Zn,Zu,Zq,Zr,Zz]
 simp+decide (disch:=first|exact D0|fail) only[go_sem,↓reduceIte]
 refine Qa hP (Qrf (o:=0) hs ht (by omega)) rfl rfl rfl ?_
 simp+decide (disch:=first|exact D0|fail) only[go_sem,↓reduceIte]
 exact Qc (by rw[Qqx]) rfl
theorem Qo8{l:List RTm}{k:Nat}(hb:∀t∈l,RB k t)(hk1:1<=k)(hk:k<2^36)(hll:l.length<2^40):Qd Tryz.prog 103 [PV.rpoly l] (· = .bool (Qbc l)):=by
 have hiff:=Qpq l
 have bad:∀ {b:Bool},(b=true->False)->b=false:=fun {b} h=>by cases b<;>simp_all
 refine Qf Ql Tryz.func103 rfl Qab2 (by simp[Q8l]) fun C hP=> ?_;simp only[Q8l,Zo,Zg,Zm,Zc,Zf,Zl,Zh,Zs,Zi,Zb,Zk,Zn,Zu,Zq,Zr,Zz]
 simp+decide (disch:=first|exact D0|fail) only[go_sem,↓reduceIte]
 refine Qw (by repeat (first|exact Qu|exact Qn|exact Qo|exact Qp|exact Qq|apply Qm|apply Qt|apply Qy|apply Q5|apply Q6|apply Qk)) [(2,4),(7,42)] [4] (fun n J hp=>∃i,n=l.length-i/\i<=l.length/\(∀j (h:j<l.length),j<i->rOk l[j]=true)/\(∀j (h:j+1<l.length),j+1<i->0<Qah l[j].m l[j+1].m)/\J 7= .int .i64 (i:Nat)) l.length ?_ ?_
 ·refine⟨0,rfl,by omega,by omega,by omega,?_⟩
  simp+decide (disch:=first|exact D0|fail) only[go_sem,↓reduceIte]
  rfl
 rintro _ J h ⟨i,rfl,hi,h1,h2,h7⟩
 simp+decide (disch:=first|exact D1 h7|fail) only[go_sem,↓reduceIte,h7]
 refine Qb (fun hg=> ?_) (fun hg=> ?_)
 ·have hi':i<l.length:=by omega
  have hbt:=hb _ (List.getElem_mem hi')
  have hr:=(RB.raw hbt hk1).rs
  have hml:=hbt.l
  have hbadt:Qbc l=true->rOk l[i]=true:=fun h=>(hiff.1 h).1 i hi'
  have hbadc:∀(j:Nat)(hj:j+1=i),Qbc l=true->0<Qah (l[j]'(by omega)).m l[i].m:=fun j hj h=>by subst hj;exact(hiff.1 h).2 j hi'
  have hadd1:rOk l[i]=true->∀j (h:j<l.length),j<i+1->rOk l[j]=true:=fun h j hj hji=>by
   by_cases e:j=i
   ·subst e;exact h
   ·exact h1 j hj (by omega)
  have hprev:∀(j:Nat)(hj:j+1=i),MB 1048576 (l[j]'(by omega)).m:=fun j hj=>by
   have:=h1 j (by omega) (by omega)
   simp only[rOk,Bool.and_eq_true]at this
   exact MB.ofOk this.2.2
  have hadd2:(∀(j:Nat)(hj:j+1=i),0<Qah (l[j]'(by omega)).m l[i].m)->∀j (h:j+1<l.length),j+1<i+1->0<Qah l[j].m l[j+1].m:=fun h j hj hji=>by
   by_cases e:j+1=i
   ·subst e;exact h j rfl
   ·exact h2 j hj (by omega)
  generalize hx:l[i]=x at *
  have hr':rs (rv x.n x.a x.d)<2^36:=by omega
  simp+decide (disch:=first|exact D2 h7 hx|fail) only[go_sem,↓reduceIte,h7,hx]
  refine Qa hP (Qye (RB.raw hbt hk1) hk) rfl rfl rfl ?_
  simp+decide (disch:=first|exact D1 h7|fail) only[go_sem,↓reduceIte,h7]
  cases hok:Qf4 x.n x.a x.d
  ·have hf:Qbc l=false:=bad fun h=>by have:=hbadt h;simp[rOk,hok]at this
   simp+decide (disch:=first|omega|rfl|(simp+decide only[go_sem,↓reduceIte,h7,Bool.not_false]<;>rfl)|fail) only[go_sem,↓reduceIte,h7,Bool.not_false]
   exact Qc (by rw[hf]) rfl
  simp+decide (disch:=first|omega|rfl|(simp+decide only[go_sem,↓reduceIte,h7,Bool.not_true]<;>rfl)|fail) only[go_sem,↓reduceIte,h7,Bool.not_true]
  refine Qa hP (Qiw (RB.raw hbt hk1) hk) rfl rfl rfl ?_
  simp+decide (disch:=first|exact D1 h7|fail) only[go_sem,↓reduceIte,h7]
  refine Qv (fun hz=> ?_) (fun hz=> ?_)
  ·have hf:Qbc l=false:=bad fun h=>by have:=hbadt h;simp[rOk,RTm.q,Qaw.1 hz]at this
   simp+decide (disch:=first|exact D1 h7|fail) only[go_sem,↓reduceIte,h7]
   exact Qc (by rw[hf]) rfl
  simp+decide (disch:=first|exact D1 h7|fail) only[go_sem,↓reduceIte,h7]
  refine Qa hP (Qw4 (by omega)) rfl rfl rfl ?_
  simp+decide (disch:=first|exact D1 h7|fail) only[go_sem,↓reduceIte,h7]
  cases hmo:Qcc x.m
  ·have hf:Qbc l=false:=bad fun h=>by have:=hbadt h;simp[rOk,hmo]at this
   simp+decide (disch:=first|omega|rfl|(simp+decide only[go_sem,↓reduceIte,h7,Bool.not_false]<;>rfl)|fail) only[go_sem,↓reduceIte,h7,Bool.not_false]
   exact Qc (by rw[hf]) rfl
  have hrok:rOk x=true:=by
   simp only[rOk,hok,hmo,Bool.true_and,Bool.and_true,decide_eq_true_eq]
   exact fun h=>hz (Qaw.2 h)
  simp+decide (disch:=first|omega|rfl|(simp+decide only[go_sem,↓reduceIte,h7,Bool.not_true]<;>rfl)|fail) only[go_sem,↓reduceIte,h7,Bool.not_true]
  refine Qan (fun hi0=> ?_) (fun hi0=> ?_)
  ·obtain⟨j,rfl⟩:∃j,i=j+1:=⟨i-1,by omega⟩
   have e:((j+1:Nat):Int)-1=j:=by omega
   have hjl:j<l.length:=by omega
   have hpj:=hprev j rfl
   have hbadj:=hbadc j rfl
   have hadd2':0<Qah (l[j]'(by omega)).m x.m->∀j2 (h:j2+1<l.length),j2+1<j+1+1->0<Qah l[j2].m l[j2+1].m:=fun h=>hadd2 (fun j' hj'=>by
    obtain rfl:j'=j:=by omega
    exact h)
   generalize hy:l[j]'(by omega)=y at *
   simp+decide (disch:=first|exact D3 h7 e hy|fail) only[go_sem,↓reduceIte,h7,e,hy]
   refine Qa hP (Qab6 (s:=y) (t:=x) hpj (MB.ofOk hmo) (by omega)) rfl rfl rfl ?_
   simp+decide (disch:=first|exact D2 h7 e|fail) only[go_sem,↓reduceIte,h7,e]
   refine Qb (fun hc=> ?_) (fun hc=> ?_)
   ·have hf:Qbc l=false:=bad fun h=>by have:=hbadj h;omega
    simp+decide (disch:=first|exact D1 h7|fail) only[go_sem,↓reduceIte,h7]
    exact Qc (by rw[hf]) rfl
   ·simp+decide (disch:=first|exact D1 h7|fail) only[go_sem,↓reduceIte,h7]
    refine Qh (l.length-(j+1+1)) (by omega) ⟨j+1+1,rfl,by omega,hadd1 hrok,hadd2' (by omega),?_⟩
    simp+decide (disch:=first|exact D0|fail) only[go_sem,↓reduceIte]
  ·obtain rfl:i=0:=by omega
   simp+decide (disch:=first|exact D1 h7|fail) only[go_sem,↓reduceIte,h7]
   refine Qh (l.length-1) (by omega) ⟨1,rfl,by omega,hadd1 hrok,hadd2 (fun j hj=>by omega),?_⟩
   simp+decide (disch:=first|exact D0|fail) only[go_sem,↓reduceIte]
 ·obtain rfl:i=l.length:=by omega
  have hf:Qbc l=true:=hiff.2 ⟨fun j hj=>h1 j hj hj,fun j hj=>h2 j hj hj⟩
  simp+decide (disch:=first|exact D0|fail) only[go_sem,↓reduceIte]
  exact Qc (by rw[hf]) rfl
end Go.Proofs.YtdacdnoebgcjhaaGreat
namespace Go.Proofs.YtdacdnoebgcjhaaGreat
open Go Go.FW
set_option linter.unusedSimpArgs false
set_option linter.unusedVariables false
set_option maxRecDepth 100000
theorem Qju{l:List RTm}{k:Nat}(hb:∀t∈l,RB k t)(hk1:1<=k)(hk:k<2^36)(hll:l.length<2^40):Qd Tryz.prog 32 [PV.rpoly l] (· = .bool (Qbc l)):=by
 have hiff:=Qpq l
 have bad:∀ {b:Bool},(b=true->False)->b=false:=fun {b} h=>by cases b<;>simp_all
 refine Qf Ql Tryz.func32 rfl Qae7 (by simp[c32]) fun C hP=> ?_;simp only[c32,Zo,Zg,Zm,Zc,Zf,Zl,Zh,Zs,Zi,Zb,Zk,Zn,Zu,Zq,Zr,Zz]
 simp+decide (disch:=first|exact D0|fail) only[go_sem,↓reduceIte]
 refine Qw (by repeat (first|exact Qu|exact Qn|exact Qo|exact Qp|exact Qq|apply Qm|apply Qt|apply Qy|apply Q5|apply Q6|apply Qk|apply Q2)) [(2,51)] [] (fun n J hp=>∃i,n=l.length-i/\i<=l.length/\(∀j (h:j<l.length),j<i->rOk l[j]=true)/\(∀j (h:j+1<l.length),j+1<i->0<Qah l[j].m l[j+1].m)/\J 3= .int .i64 (i:Nat)) l.length ?_ ?_
 ·refine⟨0,rfl,by omega,by omega,by omega,?_⟩
  simp+decide (disch:=first|exact D0|fail) only[go_sem,↓reduceIte]
  rfl
 rintro _ J h ⟨i,rfl,hi,h1,h2,h7⟩
 simp+decide (disch:=first|exact D1 h7|fail) only[go_sem,↓reduceIte,h7]
 refine Qb (fun hg=> ?_) (fun hg=> ?_)
 ·have hi':i<l.length:=by omega
  have hbt:=hb _ (List.getElem_mem hi')
  have hr:=(RB.raw hbt hk1).rs
  have hml:=hbt.l
  have hbadt:Qbc l=true->rOk l[i]=true:=fun h=>(hiff.1 h).1 i hi'
  have hbadc:∀(j:Nat)(hj:j+1=i),Qbc l=true->0<Qah (l[j]'(by omega)).m l[i].m:=fun j hj h=>by subst hj;exact(hiff.1 h).2 j hi'
  have hadd1:rOk l[i]=true->∀j (h:j<l.length),j<i+1->rOk l[j]=true:=fun h j hj hji=>by
   by_cases e:j=i
   ·subst e;exact h
   ·exact h1 j hj (by omega)
  have hprev:∀(j:Nat)(hj:j+1=i),MB 1048576 (l[j]'(by omega)).m:=fun j hj=>by
   have:=h1 j (by omega) (by omega)
   simp only[rOk,Bool.and_eq_true]at this
   exact MB.ofOk this.2.2
  have hadd2:(∀(j:Nat)(hj:j+1=i),0<Qah (l[j]'(by omega)).m l[i].m)->∀j (h:j+1<l.length),j+1<i+1->0<Qah l[j].m l[j+1].m:=fun h j hj hji=>by
   by_cases e:j+1=i
   ·subst e;exact h j rfl
   ·exact h2 j hj (by omega)
  generalize hx:l[i]=x at *
  have hr':rs (rv x.n x.a x.d)<2^36:=by omega
  simp+decide (disch:=first|exact D2 h7 hx|fail) only[go_sem,↓reduceIte,h7,hx]
  refine Qa hP (Qmy (RB.raw hbt hk1) hk) rfl rfl rfl ?_
  simp+decide (disch:=first|exact D1 h7|fail) only[go_sem,↓reduceIte,h7]
  cases hok:Qf4 x.n x.a x.d
  ·have hf:Qbc l=false:=bad fun h=>by have:=hbadt h;simp[rOk,hok]at this
   simp+decide (disch:=first|omega|rfl|(simp+decide only[go_sem,↓reduceIte,h7,Bool.not_false]<;>rfl)|fail) only[go_sem,↓reduceIte,h7,Bool.not_false]
   exact Qc (by rw[hf]) rfl
  simp+decide (disch:=first|omega|rfl|(simp+decide only[go_sem,↓reduceIte,h7,Bool.not_true,hx]<;>rfl)|fail) only[go_sem,↓reduceIte,h7,Bool.not_true,hx]
  refine Qa hP (Qg5 (RB.raw hbt hk1) hk) rfl rfl rfl ?_
  simp+decide (disch:=first|exact D1 h7|fail) only[go_sem,↓reduceIte,h7]
  refine Qv (fun hz=> ?_) (fun hz=> ?_)
  ·have hf:Qbc l=false:=bad fun h=>by have:=hbadt h;simp[rOk,RTm.q,Qaw.1 hz]at this
   simp+decide (disch:=first|exact D1 h7|fail) only[go_sem,↓reduceIte,h7]
   exact Qc (by rw[hf]) rfl
  simp+decide (disch:=first|exact D2 h7 hx|fail) only[go_sem,↓reduceIte,h7,hx]
  refine Qa hP (Qul (by omega)) rfl rfl rfl ?_
  simp+decide (disch:=first|exact D1 h7|fail) only[go_sem,↓reduceIte,h7]
  cases hmo:Qcc x.m
  ·have hf:Qbc l=false:=bad fun h=>by have:=hbadt h;simp[rOk,hmo]at this
   simp+decide (disch:=first|omega|rfl|(simp+decide only[go_sem,↓reduceIte,h7,Bool.not_false]<;>rfl)|fail) only[go_sem,↓reduceIte,h7,Bool.not_false]
   exact Qc (by rw[hf]) rfl
  have hrok:rOk x=true:=by
   simp only[rOk,hok,hmo,Bool.true_and,Bool.and_true,decide_eq_true_eq]
   exact fun h=>hz (Qaw.2 h)
  simp+decide (disch:=first|omega|rfl|(simp+decide only[go_sem,↓reduceIte,h7,Bool.not_true]<;>rfl)|fail) only[go_sem,↓reduceIte,h7,Bool.not_true]
  refine Qan (fun hi0=> ?_) (fun hi0=> ?_)
  ·obtain⟨j,rfl⟩:∃j,i=j+1:=⟨i-1,by omega⟩
   have e:((j+1:Nat):Int)-1=j:=by omega
   have hjl:j<l.length:=by omega
   have hpj:=hprev j rfl
   have hbadj:=hbadc j rfl
   have hadd2':0<Qah (l[j]'(by omega)).m x.m->∀j2 (h:j2+1<l.length),j2+1<j+1+1->0<Qah l[j2].m l[j2+1].m:=fun h=>hadd2 (fun j' hj'=>by
    obtain rfl:j'=j:=by omega
    exact h)
   generalize hy:l[j]'(by omega)=y at *
   simp+decide (disch:=first|exact D4 h7 e hx hy|fail) only[go_sem,↓reduceIte,h7,e,hx,hy]
   refine Qa hP (Qnv hpj (MB.ofOk hmo) (by omega)) rfl rfl rfl ?_
   simp+decide (disch:=first|exact D2 h7 e|fail) only[go_sem,↓reduceIte,h7,e]
   refine Qb (fun hc=> ?_) (fun hc=> ?_)
   ·have hf:Qbc l=false:=bad fun h=>by have:=hbadj h;omega
    simp+decide (disch:=first|exact D1 h7|fail) only[go_sem,↓reduceIte,h7]
    exact Qc (by rw[hf]) rfl
   ·simp+decide (disch:=first|exact D1 h7|fail) only[go_sem,↓reduceIte,h7]
    refine Qh (l.length-(j+1+1)) (by omega) ⟨j+1+1,rfl,by omega,hadd1 hrok,hadd2' (by omega),?_⟩
    simp+decide (disch:=first|exact D0|fail) only[go_sem,↓reduceIte]
  ·obtain rfl:i=0:=by omega
   simp+decide (disch:=first|exact D1 h7|fail) only[go_sem,↓reduceIte,h7]
   refine Qh (l.length-1) (by omega) ⟨1,rfl,by omega,hadd1 hrok,hadd2 (fun j hj=>by omega),?_⟩
   simp+decide (disch:=first|exact D0|fail) only[go_sem,↓reduceIte]
 ·obtain rfl:i=l.length:=by omega
  have hf:Qbc l=true:=hiff.2 ⟨fun j hj=>h1 j hj hj,fun j hj=>h2 j hj hj⟩
  simp+decide (disch:=first|exact D0|fail) only[go_sem,↓reduceIte]
  exact Qc (by rw[hf]) rfl
end Go.Proofs.YtdacdnoebgcjhaaGreat
namespace Go.Proofs.YtdacdnoebgcjhaaGreat
open Go Go.FW
set_option maxRecDepth 100000
end Go.Proofs.YtdacdnoebgcjhaaGreat
namespace Go.Proofs.YtdacdnoebgcjhaaGreat
open Go Go.FW
set_option linter.unusedSimpArgs false
set_option linter.unusedVariables false
set_option maxRecDepth 100000
end Go.Proofs.YtdacdnoebgcjhaaGreat
namespace Go.Proofs.YtdacdnoebgcjhaaGreat
open Go Go.FW
set_option linter.unusedSimpArgs false
set_option linter.unusedVariables false
set_option maxRecDepth 100000
end Go.Proofs.YtdacdnoebgcjhaaGreat
namespace Go.Proofs.YtdacdnoebgcjhaaGreat
open Go Go.FW
set_option maxRecDepth 100000
def c17:SFn:=⟨19,[.t 2],Zr (Zo (.mv 2 (.c .nilS)) .nil)<| .seq (Zr (Zm 4 0<|
 Zk 5 .lss 4 0<|
 Zm 6 5<|
 Zg 6 false (.mv 7 (.t 0))<|
 Zg 6 false (.bin 8 .geq false (.t 7) (.c (Zz 64)))<|
 Zo (.pick 9 (.t 6) (.c (.bool true)) (.t 8)) .nil)<| .cond (.t 9) (Zr (Zo (.mv 2 (.c .nilS)) .nil) .ret) .skip)<|Zr (Zm 10 0<|
 Zk 11 .add 10 1<|
 Zo (.mk 12 1 8 3 (Zz 0) (.t 11) (.t 11))<|
 Zm 3 12 .nil)<|Zr (Zm 13 3<|
 Zm 14 0<|
 Zi 15 1 13 14<|
 Zo (.st 1 (.t 15) (.c (Zz 1))) .nil)<|Zr (Zq 16 false 20 [.c (Zz 1)]<|
 Zm 17 3<|
 Zq 18 false 35 [.c .nilS,.t 16,.t 17]<|
 Zm 2 18 .nil) .ret⟩
theorem Qagl:Qe Tryz.prog Tryz.f17=some c17:=by kernel_rfl
end Go.Proofs.YtdacdnoebgcjhaaGreat
namespace Go.Proofs.YtdacdnoebgcjhaaGreat
open Go Go.FW
set_option maxRecDepth 100000
def c13:SFn:=⟨63,[.t 2],Zr (Zo (.mv 2 (.c (.bool false))) .nil)<| .seq (Zr (Zm 5 0<|
 Zn 6 5<|
 Zk 7 .gtr 6 6 .nil)<| .cond (.t 7) (Zr (Zo (.mv 2 (.c (.bool false))) .nil) .ret) .skip)<| .seq (Zr (Zc 3 0 .nil)<| .block 0<| .loop<| .seq (Zr (Zm 8 3<|
 Zm 9 0<|
 Zn 10 9<|
 Zb 11 .lss 8 10 .nil)<| .cond (.t 11) .skip (.exit 0))<| .seq (.block 1<| .seq (Zr (Zm 14 0<|
 Zm 15 3<|
 Zi 16 4 14 15<|
 Zf 17 3 16<|
 Zl 18 1 17<|
 Zn 19 18<|
 Zk 20 .gtr 19 4<|
 Zm 21 20<|
 Zg 21 false (.mv 22 (.t 0))<|
 Zg 21 false (.mv 23 (.t 3))<|
 Zg 21 false (.idx 24 4 (.t 22) (.t 23))<|
 Zg 21 false (.fld 25 0 (.t 24))<|
 Zg 21 false (.fld 26 0 (.t 25))<|
 Zg 21 false (.fld 27 1 (.t 26))<|
 Zg 21 false (.ld 28 1 false (.t 27))<|
 Zg 21 false (.len 29 (.t 28))<|
 Zg 21 false (.bin 30 .gtr false (.t 29) (.c (Zz 2)))<|
 Zo (.pick 31 (.t 21) (.c (.bool true)) (.t 30))<|
 Zm 32 31<|
 Zg 32 false (.mv 33 (.t 0))<|
 Zg 32 false (.mv 34 (.t 3))<|
 Zg 32 false (.idx 35 4 (.t 33) (.t 34))<|
 Zg 32 false (.fld 36 0 (.t 35))<|
 Zg 32 false (.fld 37 2 (.t 36))<|
 Zg 32 false (.ld 38 1 false (.t 37))<|
 Zg 32 false (.len 39 (.t 38))<|
 Zg 32 false (.bin 40 .gtr false (.t 39) (.c (Zz 2)))<|
 Zo (.pick 41 (.t 32) (.c (.bool true)) (.t 40)) .nil)<| .cond (.t 41) (Zr (Zo (.mv 2 (.c (.bool false))) .nil) .ret) .skip)<|Zr (Zc 4 0 .nil)<| .block 2<| .loop<| .seq (Zr (Zm 42 4<|
 Zm 43 0<|
 Zm 44 3<|
 Zi 45 4 43 44<|
 Zf 46 3 45<|
 Zl 47 1 46<|
 Zn 48 47<|
 Zb 49 .lss 42 48 .nil)<| .cond (.t 49) .skip (.exit 2))<| .seq (.block 3<|Zr (Zm 52 0<|
 Zm 53 3<|
 Zi 54 4 52 53<|
 Zf 55 3 54<|
 Zl 56 1 55<|
 Zm 57 4<|
 Zi 58 1 56 57<|
 Zl 59 1 58<|
 Zk 60 .gtr 59 4 .nil)<| .cond (.t 60) (Zr (Zo (.mv 2 (.c (.bool false))) .nil) .ret) .skip)<| .rg (Zm 50 4<|
 Zk 51 .add 50 1<|
 Zm 4 51 .nil))<| .rg (Zm 12 3<|
 Zk 13 .add 12 1<|
 Zm 3 13 .nil))<|Zr (Zm 61 0<|
 Zq 62 false 32 [.t 61]<|
 Zm 2 62 .nil) .ret⟩
theorem Qagm:Qe Tryz.prog Tryz.f13=some c13:=by kernel_rfl
def c33:SFn:=⟨19,[.t 2],Zr (Zo (.mv 2 (.c (.bool false))) .nil)<| .seq (Zr (Zm 4 0<|
 Zn 5 4<|
 Zk 6 .gtr 5 4 .nil)<| .cond (.t 6) (Zr (Zo (.mv 2 (.c (.bool false))) .nil) .ret) .skip)<| .seq (Zr (Zc 3 0 .nil)<| .block 0<| .loop<| .seq (Zr (Zm 7 3<|
 Zm 8 0<|
 Zn 9 8<|
 Zb 10 .lss 7 9 .nil)<| .cond (.t 10) .skip (.exit 0))<| .seq (.block 1<|Zr (Zm 13 0<|
 Zm 14 3<|
 Zi 15 1 13 14<|
 Zl 16 1 15<|
 Zq 17 false 13 [.t 16]<|
 Zu 18 17 .nil)<| .cond (.t 18) (Zr (Zo (.mv 2 (.c (.bool false))) .nil) .ret) .skip)<| .rg (Zm 11 3<|
 Zk 12 .add 11 1<|
 Zm 3 12 .nil))<|Zr (Zo (.mv 2 (.c (.bool true))) .nil) .ret⟩
theorem Qagn:Qe Tryz.prog Tryz.f33=some c33:=by kernel_rfl
def c14:SFn:=⟨17,[.t 2],Zr (Zo (.box 1 4 39 (.t 0))<|
 Zo (.mv 2 (.c (.bool false))) .nil)<|Zr (Zf 3 0 1<|
 Zl 4 1 3<|
 Zq 5 false 33 [.t 4]<|
 Zm 6 5<|
 Zg 6 true (.fld 7 3 (.t 1))<|
 Zg 6 true (.ld 8 1 false (.t 7))<|
 Zg 6 true (.call (some 9) false (.c (.fn 33 [] [])) [.t 8])<|
 Zo (.pick 10 (.t 6) (.t 9) (.c (.bool false)))<|
 Zm 11 10<|
 Zg 11 true (.fld 12 1 (.t 1))<|
 Zg 11 true (.ld 13 1 false (.t 12))<|
 Zg 11 true (.len 14 (.t 13))<|
 Zg 11 true (.bin 15 .leq false (.t 14) (.c (Zz 6)))<|
 Zo (.pick 16 (.t 11) (.t 15) (.c (.bool false)))<|
 Zm 2 16 .nil) .ret⟩
theorem Qago:Qe Tryz.prog Tryz.f14=some c14:=by kernel_rfl
def Q8q:SFn:=⟨19,[.t 6,.t 7],Zr (Zo (.mv 6 (.c .nilS))<|
 Zc 7 0 .nil)<| .seq (Zr (Zm 8 2<|
 Zc 9 0 .nil)<| .block 0<| .loop<|Zr (Zb 10 .lss 9 8 .nil)<| .seq (.cond (.t 10) .skip (.exit 0))<| .seq (.block 1<|Zr (Zm 11 0<|
 Zm 12 1<|
 Zq 13 false 124 [.t 11,.t 12]<|
 Zm 0 13 .nil)<|Zr (Zm 14 0<|
 Zn 15 14<|
 Zk 16 .gtr 15 4000 .nil)<| .cond (.t 16) (Zr (Zo (.mv 6 (.c .nilS))<|
 Zc 7 4 .nil) .ret) .skip)<| .rg (Zk 17 .add 9 1<|
 Zm 9 17 .nil))<|Zr (Zm 18 0<|
 Zm 6 18<|
 Zc 7 0 .nil) .ret⟩
theorem Qab7:Qe Tryz.prog Tryz.f105=some Q8q:=by kernel_rfl
def Q8r:SFn:=⟨34,[.t 4,.t 5],Zr (Zo (.mv 4 (.c .nilS))<|
 Zc 5 0 .nil)<| .seq (Zr (Zm 8 0<|
 Zn 9 8<|
 Zm 10 1<|
 Zn 11 10<|
 Zb 12 .neq 9 11 .nil)<| .cond (.t 12) (Zr (Zo (.mv 4 (.c .nilS))<|
 Zc 5 16 .nil) .ret) .skip)<|Zr (Zo (.mv 6 (.c .nilS)) .nil)<| .seq (Zr (Zm 13 1<|
 Zn 14 13<|
 Zc 15 0 .nil)<| .block 0<| .loop<|Zr (Zb 16 .lss 15 14 .nil)<| .seq (.cond (.t 16) .skip (.exit 0))<| .seq (.block 1<|Zr (Zm 17 15<|
 Zm 7 17 .nil)<|Zr (Zm 18 6<|
 Zm 19 0<|
 Zm 20 7<|
 Zi 21 1 19 20<|
 Zl 22 1 21<|
 Zm 23 1<|
 Zm 24 7<|
 Zi 25 1 23 24<|
 Zl 26 1 25<|
 Zq 27 false 124 [.t 22,.t 26]<|
 Zq 28 false 125 [.t 18,.t 27]<|
 Zm 6 28 .nil)<|Zr (Zm 29 6<|
 Zn 30 29<|
 Zk 31 .gtr 30 4000 .nil)<| .cond (.t 31) (Zr (Zo (.mv 4 (.c .nilS))<|
 Zc 5 4 .nil) .ret) .skip)<| .rg (Zk 32 .add 15 1<|
 Zm 15 32 .nil))<|Zr (Zm 33 6<|
 Zm 4 33<|
 Zc 5 0 .nil) .ret⟩
theorem Qab8:Qe Tryz.prog Tryz.f106=some Q8r:=by kernel_rfl
def Q8s:SFn:=⟨56,[.t 4,.t 5],Zr (Zo (.mv 4 (.c .nilS))<|
 Zc 5 0 .nil)<| .seq (Zr (Zm 12 0<|
 Zn 13 12<|
 Zm 14 1<|
 Zn 15 14<|
 Zb 16 .neq 13 15 .nil)<| .cond (.t 16) (Zr (Zo (.mv 4 (.c .nilS))<|
 Zc 5 16 .nil) .ret) .skip)<| .seq (Zr (Zm 17 1<|
 Zn 18 17<|
 Zc 19 0 .nil)<| .block 0<| .loop<|Zr (Zb 20 .lss 19 18 .nil)<| .seq (.cond (.t 20) .skip (.exit 0))<| .seq (.block 1<|Zr (Zi 21 1 17 19<|
 Zl 22 1 21<|
 Zm 7 22 .nil)<|Zr (Zm 23 7<|
 Zk 24 .lss 23 0<|
 Zm 25 24<|
 Zg 25 false (.mv 26 (.t 7))<|
 Zg 25 false (.bin 27 .gtr false (.t 26) (.c (Zz 64)))<|
 Zo (.pick 28 (.t 25) (.c (.bool true)) (.t 27)) .nil)<| .cond (.t 28) (Zr (Zo (.mv 4 (.c .nilS))<|
 Zc 5 2 .nil) .ret) .skip)<| .rg (Zk 29 .add 19 1<|
 Zm 19 29 .nil))<|Zr (Zq 30 false 46 [.c (Zz 1)]<|
 Zq 31 false 123 [.t 30]<|
 Zm 8 31 .nil)<| .seq (Zr (Zm 32 0<|
 Zn 33 32<|
 Zc 34 0 .nil)<| .block 2<| .loop<|Zr (Zb 35 .lss 34 33 .nil)<| .seq (.cond (.t 35) .skip (.exit 2))<| .seq (.block 3<|Zr (Zm 36 34<|
 Zm 9 36 .nil)<|Zr (Zm 38 8<|
 Zm 39 0<|
 Zm 40 9<|
 Zi 41 1 39 40<|
 Zl 42 1 41<|
 Zm 43 1<|
 Zm 44 9<|
 Zi 45 1 43 44<|
 Zl 46 1 45<|
 Zq 47 false 105 [.t 38,.t 42,.t 46]<|
 Zm 37 47<|
 Zo (.ext 48 (.t 37) 0)<|
 Zo (.ext 49 (.t 37) 1)<|
 Zm 10 48<|
 Zm 11 49 .nil)<| .seq (Zr (Zm 50 11<|
 Zk 51 .neq 50 0 .nil)<| .cond (.t 51) (Zr (Zm 52 11<|
 Zo (.mv 4 (.c .nilS))<|
 Zm 5 52 .nil) .ret) .skip)<| .rg (Zm 53 10<|
 Zm 8 53 .nil))<| .rg (Zk 54 .add 34 1<|
 Zm 34 54 .nil))<|Zr (Zm 55 8<|
 Zm 4 55<|
 Zc 5 0 .nil) .ret⟩
theorem Qab9:Qe Tryz.prog Tryz.f104=some Q8s:=by kernel_rfl
def c78:SFn:=⟨73,[.t 6],Zr (Zo (.box 3 4 39 (.t 0))<|
 Zc 6 0 .nil)<|Zr (Zf 13 0 3<|
 Zl 14 1 13<|
 Zf 15 1 3<|
 Zl 16 1 15<|
 Zq 17 false 104 [.t 14,.t 16]<|
 Zm 12 17<|
 Zo (.ext 18 (.t 12) 0)<|
 Zo (.ext 19 (.t 12) 1)<|
 Zm 7 18<|
 Zm 8 19 .nil)<| .seq (Zr (Zm 20 8<|
 Zk 21 .neq 20 0 .nil)<| .cond (.t 21) (Zr (Zm 22 8<|
 Zm 6 22 .nil) .ret) .skip)<| .seq (Zr (Zf 23 0 3<|
 Zl 24 1 23<|
 Zn 25 24<|
 Zc 26 0 .nil)<| .block 0<| .loop<|Zr (Zb 27 .lss 26 25 .nil)<| .seq (.cond (.t 27) .skip (.exit 0))<| .seq (.block 1<|Zr (Zi 28 1 24 26<|
 Zl 29 1 28<|
 Zm 10 29 .nil)<|Zr (Zm 30 10<|
 Zn 31 30<|
 Zk 32 .eql 31 0 .nil)<| .cond (.t 32) (Zr (Zc 6 3 .nil) .ret) .skip)<| .rg (Zk 33 .add 26 1<|
 Zm 26 33 .nil))<| .seq (Zr (Zf 34 2 3<|
 Zl 35 1 34<|
 Zk 36 .lss 35 1<|
 Zm 37 36<|
 Zg 37 false (.fld 38 2 (.t 3))<|
 Zg 37 false (.ld 39 1 false (.t 38))<|
 Zg 37 false (.bin 40 .gtr false (.t 39) (.c (Zz 64)))<|
 Zo (.pick 41 (.t 37) (.c (.bool true)) (.t 40)) .nil)<| .cond (.t 41) (Zr (Zc 6 2 .nil) .ret) .skip)<| .seq (Zr (Zf 42 3 3<|
 Zl 43 1 42<|
 Zn 44 43<|
 Zm 45 1<|
 Zn 46 45<|
 Zb 47 .neq 44 46 .nil)<| .cond (.t 47) (Zr (Zc 6 16 .nil) .ret) .skip)<| .seq (Zr (Zm 49 7<|
 Zm 50 2<|
 Zf 51 2 3<|
 Zl 52 1 51<|
 Zq 53 false 105 [.t 49,.t 50,.t 52]<|
 Zm 48 53<|
 Zo (.ext 54 (.t 48) 0)<|
 Zo (.ext 55 (.t 48) 1)<|
 Zm 7 54<|
 Zm 8 55 .nil)<|Zr (Zm 56 8<|
 Zk 57 .neq 56 0 .nil)<| .cond (.t 57) (Zr (Zm 58 8<|
 Zm 6 58 .nil) .ret) .skip)<|Zr (Zf 60 3 3<|
 Zl 61 1 60<|
 Zm 62 1<|
 Zq 63 false 106 [.t 61,.t 62]<|
 Zm 59 63<|
 Zo (.ext 64 (.t 59) 0)<|
 Zo (.ext 65 (.t 59) 1)<|
 Zm 11 64<|
 Zm 8 65 .nil)<| .seq (Zr (Zm 66 8<|
 Zk 67 .neq 66 0 .nil)<| .cond (.t 67) (Zr (Zm 68 8<|
 Zm 6 68 .nil) .ret) .skip)<| .seq (Zr (Zm 69 7<|
 Zm 70 11<|
 Zq 71 false 30 [.t 69,.t 70]<|
 Zu 72 71 .nil)<| .cond (.t 72) (Zr (Zc 6 17 .nil) .ret) .skip)<|Zr (Zc 6 0 .nil) .ret⟩
theorem Qagp:Qe Tryz.prog Tryz.f78=some c78:=by kernel_rfl
def c10:SFn:=⟨33,[.t 4],Zr (Zo (.mv 4 (.c (.bool false))) .nil)<| .seq (Zr (Zc 5 0 .nil)<| .block 0<| .loop<| .seq (Zr (Zm 6 5<|
 Zm 7 0<|
 Zn 8 7<|
 Zb 9 .lss 6 8<|
 Zm 10 9<|
 Zg 10 true (.mv 11 (.t 5))<|
 Zg 10 true (.mv 12 (.t 1))<|
 Zg 10 true (.len 13 (.t 12))<|
 Zg 10 true (.bin 14 .lss false (.t 11) (.t 13))<|
 Zo (.pick 15 (.t 10) (.t 14) (.c (.bool false))) .nil)<| .cond (.t 15) .skip (.exit 0))<| .seq (.block 1<|Zr (Zm 18 0<|
 Zm 19 5<|
 Zi 20 1 18 19<|
 Zl 21 1 20<|
 Zm 22 1<|
 Zm 23 5<|
 Zi 24 1 22 23<|
 Zl 25 1 24<|
 Zq 26 false 28 [.t 21,.t 25]<|
 Zu 27 26 .nil)<| .cond (.t 27) (Zr (Zo (.mv 4 (.c (.bool false))) .nil) .ret) .skip)<| .rg (Zm 16 5<|
 Zk 17 .add 16 1<|
 Zm 5 17 .nil))<|Zr (Zm 28 0<|
 Zn 29 28<|
 Zm 30 1<|
 Zn 31 30<|
 Zb 32 .eql 29 31<|
 Zm 4 32 .nil) .ret⟩
theorem Qagq:Qe Tryz.prog Tryz.f10=some c10:=by kernel_rfl
end Go.Proofs.YtdacdnoebgcjhaaGreat
namespace Go.FW
open Go
theorem Qrl(x y:Int)(hy:y≠0):mkRat (zv (decide (x<0) !=decide (y<0)) (dig x.natAbs)) y.natAbs=(x:Rat)/(y:Rat):=by
 rw[Rat.mkRat_eq_div,Qia,<-Rat.intCast_natCast]
 have h3:(y:Rat)≠0:=by rw[Ne,Rat.intCast_eq_zero_iff];exact hy
 by_cases hy0:y<0
 ·have e2:(((y.natAbs:Nat):Int):Rat)= -(y:Rat):=by rw[<-Rat.intCast_neg];congr 1;omega
  have e1:(if(decide (x<0) !=decide (y<0))=true then -(x.natAbs:Int)else x.natAbs)= -x:=by
   by_cases hx:x<0<;>simp[hx,hy0]<;>omega
  rw[e1,e2,Rat.intCast_neg]
  grind
 ·have e2:(((y.natAbs:Nat):Int):Rat)=(y:Rat):=by congr 1;omega
  have e1:(if(decide (x<0) !=decide (y<0))=true then -(x.natAbs:Int)else x.natAbs)=x:=by
   by_cases hx:x<0<;>simp[hx,hy0]<;>omega
  rw[e1,e2]
theorem Qagr{n m:Bool}{a d b c:List Nat}(hd:val d≠0)(hc:val c≠0)(hb:zv m b≠0):((zv n a*(val c:Int):Int):Rat)/((zv m b*(val d:Int):Int):Rat)=rv n a d/rv m b c:=by
 have h1:((val d:Int):Rat)≠0:=by rw[Ne,Rat.intCast_eq_zero_iff];omega
 have h2:((val c:Int):Rat)≠0:=by rw[Ne,Rat.intCast_eq_zero_iff];omega
 have h3:((zv m b:Int):Rat)≠0:=by rw[Ne,Rat.intCast_eq_zero_iff];exact hb
 unfold rv
 rw[Rat.mkRat_eq_div,Rat.mkRat_eq_div,Rat.intCast_mul,Rat.intCast_mul]
 rw[<-Rat.intCast_natCast,<-Rat.intCast_natCast]
 grind
end Go.FW
namespace Go.FW
open Go
theorem Qxb(x y:Int)(hy:y≠0):rs ((x:Rat)/(y:Rat))<=max (nl x.natAbs) (max (nl y.natAbs) 1):=by
 rw[<-Qrl x y hy]
 have:=Ql9 (zv (decide (x<0) !=decide (y<0)) (dig x.natAbs)) y.natAbs
 rwa[Qa8,Q3]at this
theorem Qags(q:Rat)(h:q≠0):rs q⁻¹ <=rs q:=by
 have hn:q.num≠0:=fun e=>h (Rat.num_eq_zero.1 e)
 have e:q⁻¹ =(((q.den:Int):Int):Rat)/((q.num:Int):Rat):=by
  have d1:q=(q.num:Rat)/((q.den:Int):Rat):=by
   conv=>lhs;rw[<-Rat.mkRat_self q]
   rw[Rat.mkRat_eq_div,Rat.intCast_natCast]
  have k1:((q.den:Int):Rat)≠0:=by rw[Ne,Rat.intCast_eq_zero_iff];have:=q.den_nz;omega
  have k3:((q.num:Int):Rat)≠0:=by rw[Ne,Rat.intCast_eq_zero_iff];exact hn
  generalize(q.num:Rat)=A at *
  generalize((q.den:Int):Rat)=D at *
  rw[d1]
  grind
 have h2:=Qxb (q.den:Int) q.num hn
 have h3:=Qv7 q
 rw[e]
 unfold rs at h3⊢
 unfold rs at h2
 rw[Int.natAbs_natCast]at h2
 have h4:1<=nl q.den:=by
  have:=q.den_nz
  apply Decidable.byContradiction;intro hc
  exact this (Qfv.1 (by omega))
 omega
end Go.FW
namespace Go.FW
open Go
def hdT(p:List Tm):Tm:=p.headD (0,[])
theorem Qzp{p:List Tm}(h:0<p.length):p[0]=hdT p:=by cases p with
 |nil=>simp at h
 |cons t p=>rfl
theorem Qoi{p:List Tm}(h:p≠[]):hdT p∈p:=by cases p with
 |nil=>exact absurd rfl h
 |cons t p=>simp[hdT]
end Go.FW
namespace Go.FW
open Go
def Qcr(c:Rat):Rat:=if c<0 then -c else c
theorem Qcx(c:Rat):0<=Qcr c:=by unfold Qcr;grind
theorem Q8t(a b:Rat):Qcr (a+b)<=Qcr a+Qcr b:=by unfold Qcr;grind
theorem Qmq(a b:Rat):Qcr (a*b)=Qcr a*Qcr b:=by
 have pos:∀x:Rat,0<=x->Qcr x=x:=fun x h=>by unfold Qcr;grind
 have neg:∀x:Rat,x<=0->Qcr x= -x:=fun x h=>by unfold Qcr;grind
 rcases Decidable.em (0<=a)with ha|ha<;>rcases Decidable.em (0<=b)with hb|hb
 ·rw[pos _ (Rat.mul_nonneg ha hb),pos _ ha,pos _ hb]
 ·have h:=Rat.mul_nonneg ha (show 0<= -b by grind)
  rw[neg (a*b) (by grind),pos _ ha,neg b (by grind)];grind
 ·have h:=Rat.mul_nonneg (show 0<= -a by grind) hb
  rw[neg (a*b) (by grind),neg a (by grind),pos _ hb];grind
 ·have h:=Rat.mul_nonneg (show 0<= -a by grind) (show 0<= -b by grind)
  rw[pos (a*b) (by grind),neg a (by grind),neg b (by grind)];grind
theorem Qhn(z:Int):Qcr (z:Rat)=((z.natAbs:Nat):Rat):=by
 rw[<-Rat.intCast_natCast]
 unfold Qcr
 split
 ·rename_i h
  have h':z<0:=by have:=(Rat.intCast_lt_intCast (a:=z) (b:=0)).1 (by simpa using h);exact this
  rw[<-Rat.intCast_neg];congr 1;omega
 ·rename_i h
  have h':¬z<0:=fun hz=>h (by have:=(Rat.intCast_lt_intCast (a:=z) (b:=0)).2 hz;simpa using this)
  congr 1;omega
def psi(m:List Int):Nat:=(eN m 3).toNat*729+(eN m 2).toNat*81+(eN m 1).toNat*9+(eN m 0).toNat
theorem cmp4{a b:List Int}(ha:a.length<=4)(hb:b.length<=4):Qah a b=Qbz a b 4:=(Qhi (by omega)).symm
theorem Qaca{a b:List Int}(ha:a.length<=4)(hb:b.length<=4)(h:Qah a b<0):
  eN a 3<eN b 3∨(eN a 3=eN b 3/\(eN a 2<eN b 2∨(eN a 2=eN b 2/\(eN a 1<eN b 1∨(eN a 1=eN b 1/\eN a 0<eN b 0))))):=by
 rw[cmp4 ha hb]at h
 simp only[Qbz]at h
 have z3:=Qi5 (x:=eN a 3) (y:=eN b 3)
 have z2:=Qi5 (x:=eN a 2) (y:=eN b 2)
 have z1:=Qi5 (x:=eN a 1) (y:=eN b 1)
 have z0:=Qi5 (x:=eN a 0) (y:=eN b 0)
 by_cases e3:eN a 3=eN b 3
 ·rw[if_pos e3]at h
  refine .inr ⟨e3,?_⟩
  by_cases e2:eN a 2=eN b 2
  ·rw[if_pos e2]at h
   refine .inr ⟨e2,?_⟩
   by_cases e1:eN a 1=eN b 1
   ·rw[if_pos e1]at h
    refine .inr ⟨e1,?_⟩
    by_cases e0:eN a 0=eN b 0
    ·rw[if_pos e0]at h;omega
    ·rw[if_neg e0]at h;exact z0.1 h
   ·rw[if_neg e1]at h;exact .inl (z1.1 h)
  ·rw[if_neg e2]at h;exact .inl (z2.1 h)
 ·rw[if_neg e3]at h;exact .inl (z3.1 h)
def nW(W:Rat):List Tm->Rat
 | []=>0
 |t::p=>Qcr t.1*W^psi t.2+nW W p
theorem Qrm{W:Rat}(h:0<=W):∀n:Nat,0<=W^n
 |0=>by rw[Rat.pow_zero];decide
 |n+1=>by rw[Rat.pow_succ];exact Rat.mul_nonneg (Qrm h n) h
theorem Qrn{W:Rat}(h:1<=W):∀n:Nat,1<=W^n
 |0=>by rw[Rat.pow_zero];decide
 |n+1=>by
  rw[Rat.pow_succ]
  have h1:=Qrn h n
  have:=Rat.mul_le_mul_of_nonneg_right h1 (show(0:Rat)<=W by grind)
  grind
theorem Qo9{W:Rat}(h:0<=W)(c:Rat)(m:List Int):0<=Qcr c*W^psi m:=Rat.mul_nonneg (Qcx c) (Qrm h _)
theorem Qt0{W:Rat}(h:0<=W):∀p,0<=nW W p
 | []=>by simp only[nW];decide
 |t::p=>by
  have h1:=Qo9 h t.1 t.2
  have h2:=Qt0 h p
  simp only[nW];grind
def Pos(p:List Tm):Prop:=∀t∈p,∀i,0<=eN t.2 i
def IsI(c:Rat):Prop:=∃z:Int,c=(z:Rat)
theorem IsI.add{a b:Rat}:IsI a->IsI b->IsI (a+b):=fun⟨x,hx⟩ ⟨y,hy⟩=>⟨x+y,by rw[hx,hy,Rat.intCast_add]⟩
theorem IsI.mul{a b:Rat}:IsI a->IsI b->IsI (a*b):=fun⟨x,hx⟩ ⟨y,hy⟩=>⟨x*y,by rw[hx,hy,Rat.intCast_mul]⟩
theorem IsI.nat(n:Nat):IsI (n:Rat):=⟨n,(Rat.intCast_natCast n).symm⟩
def IW(D F:Rat)(N:Nat)(p:List Tm):Prop:=∀t∈p,psi t.2<=N/\IsI (t.1*(D*F^(N-psi t.2)))
theorem IW.cons{D F:Rat}{N:Nat}{t:Tm}{p:List Tm}:IW D F N (t::p)↔(psi t.2<=N/\IsI (t.1*(D*F^(N-psi t.2))))/\IW D F N p:=by simp[IW]
end Go.FW
namespace Go.FW
open Go
def c4(m:List Int):Nat:=(((eN m 3).toNat*81+(eN m 2).toNat)*729+(eN m 1).toNat)*6561+(eN m 0).toNat
theorem Qah3{a b:List Int}(ha:∀i,0<=eN a i)(hb:∀i,0<=eN b i)(la:a.length<=4)(lb:b.length<=4)(pa:psi a<=6560)(pb:psi b<=6560)(h:Qah a b<0):c4 a<c4 b:=by
 have a0:=ha 0;have a1:=ha 1;have a2:=ha 2;have a3:=ha 3
 have b0:=hb 0;have b1:=hb 1;have b2:=hb 2;have b3:=hb 3
 have:=Qaca la lb h
 simp only[psi]at pa pb
 simp only[c4,Zo,Zg,Zm,Zc,Zf,Zl,Zh,Zs,Zi,Zb,Zk,Zn,Zu,Zq,Zr,Zz]
 omega
theorem Q9h{a:List Int}(pa:psi a<=6560):c4 a<2^32:=by
 simp only[psi]at pa
 simp only[c4,Zo,Zg,Zm,Zc,Zf,Zl,Zh,Zs,Zi,Zb,Zk,Zn,Zu,Zq,Zr,Zz]
 omega
structure ExI(D F W N0:Rat)(p:List Tm):Prop where
 i:IW D F 6560 p
 n:nW W p<=N0
 pos:Pos p
 ml:ML 4 p
 nrm:Nrm p
theorem Qro{p:List Tm}:(∀t∈p,psi t.2<=6560)->Pos p->ML 4 p->Qb1 p->p≠[]->p.length<=c4 (hdT p).2+1:=by
 induction p with
 |nil=>intro _ _ _ _ h;exact absurd rfl h
 | cons t p ih=>
  intro hp hP hM hs _
  cases p with
  |nil=>simp
  |cons s p=>
   have h1:=ih (fun x hx=>hp x (by simp[hx])) (fun x hx=>hP x (by simp[hx])) (fun x hx=>hM x (by simp[hx])) hs.2 (by simp)
   have h2:=hs.1 s (by simp)
   have h3:=Qhj t.2 s.2
   have h4:=Qah3 (hP s (by simp)) (hP t (by simp)) (hM s (by simp)) (hM t (by simp)) (hp s (by simp)) (hp t (by simp)) (by omega)
   simp only[hdT,List.headD_cons,List.length_cons]at h1⊢
   omega
theorem ExI.len{D F W N0:Rat}{p:List Tm}(h:ExI D F W N0 p):p.length<=2^32:=by
 by_cases h0:p=[]
 ·subst h0;simp
 ·have h1:=Qro (fun t ht=>(h.i t ht).1) h.pos h.ml h.nrm.s h0
  have:=Q9h (h.i _ (Qoi h0)).1
  omega
theorem Q4i{W:Rat}(h:1<=W):∀ {p:List Tm} {t:Tm},t∈p->Qcr t.1<=nW W p
 | s::p,t,ht=>by
  have h0:(0:Rat)<=W:=by grind
  have h1:=Qt0 h0 p
  have h2:=Qo9 h0 s.1 s.2
  simp only[nW]
  rcases List.mem_cons.1 ht with rfl|ht
  ·have h3:=Rat.mul_le_mul_of_nonneg_left (Qrn h (psi t.2)) (Qcx t.1)
   grind
  ·have:=Q4i h ht
   grind
theorem ExI.PB{d f w n0 L:Nat}{p:List Tm}(h:ExI d f w n0 p)(hd:0<d)(hf:0<f)(hw:0<w)(hn0:0<n0)(hL:nl (n0*(d*f^6560))<L):PB L 6560 p:=by
 intro t ht
 obtain⟨h1,z,hz⟩:=h.i t ht
 have hw1:(1:Rat)<=(w:Rat):=by
  rw[<-Rat.intCast_natCast,show(1:Rat)=((1:Int):Rat)from rfl,Rat.intCast_le_intCast];omega
 have hN:Qcr t.1<=(n0:Rat):=by have:=Q4i hw1 ht;have:=h.n;grind
 have hX:(d:Rat)*(f:Rat)^(6560-psi t.2)=((d*f^(6560-psi t.2):Nat):Rat):=by
  rw[Rat.natCast_mul,Rat.natCast_pow]
 have hkey:∀N k:Nat,k<=N->d*f^k<=d*f^N:=fun N k h=>Nat.mul_le_mul_left _ (Nat.pow_le_pow_right hf h)
 have hXl:=hkey 6560 (6560-psi t.2) (Nat.sub_le _ _)
 have hX0:0<d*f^(6560-psi t.2):=Nat.mul_pos hd (Nat.pow_pos hf)
 rw[hX]at hz
 generalize d*f^(6560-psi t.2)=X at *
 generalize d*f^6560=Y at *
 have hXr:((X:Int):Rat)≠0:=by rw[Ne,Rat.intCast_eq_zero_iff];omega
 have e:t.1=(z:Rat)/((X:Int):Rat):=by rw[<-hz,Rat.intCast_natCast];rw[Rat.intCast_natCast]at hXr;grind
 have hzl:z.natAbs<=n0*Y:=by
  have h2:Qcr (z:Rat)=Qcr t.1*(X:Rat):=by
   rw[<-hz,Qmq];congr 1
   rw[<-Rat.intCast_natCast,Qhn,Int.natAbs_natCast,Rat.intCast_natCast]
  rw[Qhn]at h2
  have h3:(0:Rat)<=(X:Rat):=by rw[<-Rat.intCast_natCast,show(0:Rat)=((0:Int):Rat)from rfl,Rat.intCast_le_intCast];omega
  have h4:=Rat.mul_le_mul_of_nonneg_right hN h3
  rw[<-h2,<-Rat.natCast_mul,<-Rat.intCast_natCast,<-Rat.intCast_natCast,Rat.intCast_le_intCast]at h4
  have h5:=Nat.mul_le_mul_left n0 hXl
  omega
 have hr:=Qxb z (X:Int) (by omega)
 rw[<-e,Int.natAbs_natCast]at hr
 have g1:=Qa7 hzl
 have g2:nl X<=nl (n0*Y):=by
  exact Qa7 (Nat.le_trans hXl (Nat.le_mul_of_pos_left _ hn0))
 have g3:1<=nl X:=by
  apply Decidable.byContradiction;intro hc
  have:=Qfv.1 (show nl X=0 by omega)
  omega
 refine⟨by omega,⟨by have:=h.ml t ht;omega,fun x hx=> ?_,fun x hx=> ?_⟩,h.nrm.c t ht⟩
 all_goals
  obtain⟨i,hi,rfl⟩:=List.getElem_of_mem hx
  have hp:=h.pos t ht i
  rw[Qcu hi]at hp
 ·exact hp
 ·have hl:=h.ml t ht
  simp only[psi]at h1
  rw[<-Qcu hi]
  rw[<-Qcu hi]at hp
  have:i=0∨i=1∨i=2∨i=3:=by omega
  rcases this with rfl|rfl|rfl|rfl<;>omega
def Qk1(p:List Tm):Nat:=(p.map fun t=>t.1.den).foldr (· * ·) 1
def Qg6(p:List Tm):Nat:=(p.map fun t=>t.1.num.natAbs).foldr (· + ·) 0
theorem Qxc(p:List Tm):0<Qk1 p:=by
 induction p with
 |nil=>simp[Qk1]
 |cons t p ih=>exact Nat.mul_pos (Nat.pos_of_ne_zero t.1.den_nz) ih
theorem Qpx:∀ {p:List Tm} {t:Tm},t∈p->t.1.den∣Qk1 p
 |s::p,t,ht=>by
  rcases List.mem_cons.1 ht with rfl|ht
  ·exact Nat.dvd_mul_right _ _
  ·exact Nat.dvd_trans (Qpx ht) (Nat.dvd_mul_left _ _)
theorem Qacb{p:List Tm}{K E:Nat}(hp:FW.PB K E p):nl (Qk1 p)<=p.length*K+1:=by
 induction p with
 |nil=>simp[Qk1,Qfj]
 |cons t p ih=>
  have h1:=ih (PB.cons.1 hp).2
  have h2:=(PB.cons.1 hp).1.c
  have h3:=Qcz t.1.den (Qk1 p)
  unfold rs at h2
  rw[List.length_cons,Nat.succ_mul]
  have e:Qk1 (t::p)=t.1.den*Qk1 p:=rfl
  rw[e];omega
theorem Qacc{p:List Tm}{K E:Nat}(hp:FW.PB K E p):nl (Qg6 p)<=p.length+K:=by
 induction p with
 |nil=>simp[Qg6,Qn9]
 |cons t p ih=>
  have h1:=ih (PB.cons.1 hp).2
  have h2:=(PB.cons.1 hp).1.c
  have h3:=Qnc t.1.num.natAbs (Qg6 p)
  unfold rs at h2
  have e:Qg6 (t::p)=t.1.num.natAbs+Qg6 p:=rfl
  rw[e,List.length_cons];omega
theorem Qzq{c:Rat}{L:Nat}(h:c.den∣L):IsI (c*(L:Rat)):=by
 obtain⟨k,rfl⟩:=h
 refine⟨c.num*(k:Int),?_⟩
 have hd0:=c.den_nz
 have d1:c=(c.num:Rat)/((c.den:Int):Rat):=by
  conv=>lhs;rw[<-Rat.mkRat_self c]
  rw[Rat.mkRat_eq_div,Rat.intCast_natCast]
 have k1:((c.den:Int):Rat)≠0:=by rw[Ne,Rat.intCast_eq_zero_iff];omega
 rw[Rat.natCast_mul,Rat.intCast_mul,Rat.intCast_natCast,<-Rat.intCast_natCast c.den]
 generalize((c.den:Int):Rat)=D at *
 generalize(c.num:Rat)=N at *
 rw[d1]
 grind
theorem Q8u(c:Rat):Qcr c*(c.den:Rat)=((c.num.natAbs:Nat):Rat):=by
 have d1:c*(c.den:Rat)=(c.num:Rat):=by
  have e:c=(c.num:Rat)/((c.den:Int):Rat):=by
   conv=>lhs;rw[<-Rat.mkRat_self c]
   rw[Rat.mkRat_eq_div,Rat.intCast_natCast]
  have k1:((c.den:Int):Rat)≠0:=by rw[Ne,Rat.intCast_eq_zero_iff];have:=c.den_nz;omega
  rw[<-Rat.intCast_natCast]
  generalize((c.den:Int):Rat)=D at *
  generalize(c.num:Rat)=N at *
  rw[e];grind
 rw[<-Qhn,<-d1,Qmq]
 congr 1
 rw[<-Rat.intCast_natCast,Qhn,Int.natAbs_natCast,Rat.intCast_natCast]
theorem Qyo{a b:Nat}(h:a<=b):(a:Rat)<=(b:Rat):=by
 rw[<-Rat.intCast_natCast,<-Rat.intCast_natCast,Rat.intCast_le_intCast];omega
theorem Qyp(c:Rat):Qcr c<=((c.num.natAbs:Nat):Rat):=by
 have h:=Q8u c
 have h1:(1:Rat)<=(c.den:Rat):=Qyo (a:=1) (Nat.pos_of_ne_zero c.den_nz)
 have:=Rat.mul_le_mul_of_nonneg_left h1 (Qcx c)
 grind
end Go.FW
namespace Go.FW
open Go
def n1:List Tm->Rat
 | []=>0
 |t::p=>Qcr t.1+n1 p
theorem Qkl:∀p,0<=n1 p
 | []=>Rat.le_refl
 |t::p=>by
  have h1:=Qcx t.1
  have h2:=Qkl p
  simp only[n1];grind
theorem Qzr(p q:List Tm):n1 (Q7 p q)<=n1 p+n1 q:=by
 induction p,q using Q7.induct with
 |case1 q=>rw[Qep];simp only[n1];grind
 |case2 p hp=>rw[Qb3];simp only[n1];grind
 |case3 c m p d l q h1 ih=>rw[Q7,if_pos h1];simp only[n1]at ih ⊢;grind
 |case4 c m p d l q h1 h2 ih=>rw[Q7,if_neg h1,if_pos h2];simp only[n1]at ih ⊢;grind
 |case5 c m p d l q h1 h2 h3 ih=>
  rw[Q7,if_neg h1,if_neg h2,if_pos h3]
  have g1:=Qcx c
  have g2:=Qcx d
  simp only[n1]at ih ⊢;grind
 |case6 c m p d l q h1 h2 h3 ih=>
  rw[Q7,if_neg h1,if_neg h2,if_neg h3]
  have g:=Q8t c d
  simp only[n1]at ih⊢
  grind
theorem Qt1(t:Tm):∀p:List Tm,n1 (Q9 p t)<=Qcr t.1*n1 p
 | []=>by simp only[Q9,List.filterMap_nil,n1];grind
 |s::p=>by
  have ih:=Qt1 t p
  have g:=Qmq s.1 t.1
  have g2:=Rat.mul_nonneg (Qcx t.1) (Qcx s.1)
  unfold Q9 at ih⊢
  rw[List.filterMap_cons]
  by_cases e:s.1*t.1=0
  ·rw[if_pos e];simp only[n1];grind
  ·rw[if_neg e];simp only[n1];grind
def n1s:List (List Tm)->Rat
 | []=>0
 |p::l=>n1 p+n1s l
theorem Qrp:∀a b:List (List Tm),n1s (a++b)=n1s a+n1s b
 | [],b=>by simp only[List.nil_append,n1s];grind
 |p::a,b=>by
  simp only[List.cons_append,n1s]
  rw[Qrp a b];grind
theorem Qzs(l:List (List Tm)):n1 (Qa4 l)<=n1s l:=by
 induction l using Qa4.induct with
 |case1=>rw[Qa4];exact Rat.le_refl
 |case2 p=>rw[Qa4];simp only[n1s];grind
 |case3 p q r h1 h2=>
  rw[Qa4]
  have h3:=Qzr (Qa4 ((p::q::r).take ((p::q::r).length/2))) (Qa4 ((p::q::r).drop ((p::q::r).length/2)))
  have h4:=Qrp ((p::q::r).take ((p::q::r).length/2)) ((p::q::r).drop ((p::q::r).length/2))
  rw[List.take_append_drop]at h4
  rw[h4]
  grind
theorem Qny(q:List Tm):∀p:List Tm,n1s (p.map (Q9 q))<=n1 p*n1 q
 | []=>by simp only[List.map_nil,n1s,n1];grind
 |t::p=>by
  have ih:=Qny q p
  have h:=Qt1 t q
  simp only[List.map_cons,n1s,n1]
  grind
theorem Qacd(p q:List Tm):n1 (Qbb p q)<=n1 p*n1 q:=by
 unfold Qbb
 split
 ·have h1:=Qzs (q.map (Q9 p))
  have h2:=Qny p q
  unfold Qf5;grind
 ·have h1:=Qzs (p.map (Q9 q))
  have h2:=Qny q p
  unfold Qf5;grind
def Dn(D:Nat)(p:List Tm):Prop:=∀t∈p,IsI (t.1*(D:Rat))
theorem Qzt{D:Nat}(p q:List Tm):Dn D p->Dn D q->Dn D (Q7 p q):=by
 induction p,q using Q7.induct with
 |case1 q=>intro _ h;rwa[Qep]
 |case2 p hp=>intro h _;rwa[Qb3]
 |case3 c m p d l q h1 ih=>
  intro hp hq;rw[Q7,if_pos h1]
  intro t ht
  rcases List.mem_cons.1 ht with rfl|ht
  ·exact hp _ (List.mem_cons_self ..)
  ·exact ih (fun t ht=>hp t (List.mem_cons_of_mem _ ht)) hq t ht
 |case4 c m p d l q h1 h2 ih=>
  intro hp hq;rw[Q7,if_neg h1,if_pos h2]
  intro t ht
  rcases List.mem_cons.1 ht with rfl|ht
  ·exact hq _ (List.mem_cons_self ..)
  ·exact ih hp (fun t ht=>hq t (List.mem_cons_of_mem _ ht)) t ht
 |case5 c m p d l q h1 h2 h3 ih=>
  intro hp hq;rw[Q7,if_neg h1,if_neg h2,if_pos h3]
  exact ih (fun t ht=>hp t (List.mem_cons_of_mem _ ht)) fun t ht=>hq t (List.mem_cons_of_mem _ ht)
 | case6 c m p d l q h1 h2 h3 ih=>
  intro hp hq;rw[Q7,if_neg h1,if_neg h2,if_neg h3]
  intro t ht
  rcases List.mem_cons.1 ht with rfl|ht
  ·have a:=hp (c,m) (List.mem_cons_self ..)
   have b:=hq (d,l) (List.mem_cons_self ..)
   show IsI ((c+d)*(D:Rat))
   rw[Rat.add_mul];exact a.add b
  ·exact ih (fun t ht=>hp t (List.mem_cons_of_mem _ ht)) (fun t ht=>hq t (List.mem_cons_of_mem _ ht)) t ht
theorem Qzu{D:Nat}(l:List (List Tm)):(∀p∈l,Dn D p)->Dn D (Qa4 l):=by
 induction l using Qa4.induct with
 |case1=>intro _;rw[Qa4];intro t ht;cases ht
 |case2 p=>intro h;rw[Qa4];exact h p (List.mem_cons_self ..)
 |case3 p q r h1 h2=>
  intro h
  rw[Qa4]
  exact Qzt _ _ (h1 fun x hx=>h x (List.mem_of_mem_take hx)) (h2 fun x hx=>h x (List.mem_of_mem_drop hx))
theorem Qt2{D D':Nat}{t:Tm}(ht:IsI (t.1*(D':Rat))){p:List Tm}(hp:Dn D p):Dn (D*D') (Q9 p t):=by
 intro x hx
 simp only[Q9,List.mem_filterMap]at hx
 obtain⟨s,hs,e⟩:=hx
 split at e
 ·cases e
 ·obtain rfl:(s.1*t.1,Qby s.2 t.2)=x:=by simpa using e
  have:=(hp s hs).mul ht
  show IsI (s.1*t.1*((D*D':Nat):Rat))
  rw[Rat.natCast_mul,show s.1*t.1*((D:Rat)*(D':Rat))=s.1*(D:Rat)*(t.1*(D':Rat))by grind]
  exact this
theorem Qace{D D':Nat}{p q:List Tm}(hp:Dn D p)(hq:Dn D' q):Dn (D*D') (Qbb p q):=by
 unfold Qbb
 split
 ·refine Qzu _ fun x hx=> ?_
  obtain⟨t,ht,rfl⟩:=List.mem_map.1 hx
  exact Qt2 (hq t ht) hp
 ·refine Qzu _ fun x hx=> ?_
  obtain⟨t,ht,rfl⟩:=List.mem_map.1 hx
  rw[Nat.mul_comm]
  exact Qt2 (hp t ht) hq
theorem Q4j:∀ {p:List Tm} {t:Tm},t∈p->Qcr t.1<=n1 p
 | s::p,t,ht=>by
  have h1:=Qkl p
  have h2:=Qcx s.1
  simp only[n1]
  rcases List.mem_cons.1 ht with rfl|ht
  ·grind
  ·have:=Q4j ht
   grind
theorem Qxd{D N:Nat}{p:List Tm}(hD:0<D)(hN:0<N)(hp:Dn D p)(hn:n1 p<=(N:Rat)){t:Tm}(ht:t∈p):rs t.1<=nl (N*D)+nl D+2:=by
 obtain⟨z,hz⟩:=hp t ht
 have hT:=Q4j ht
 have hNt:Qcr t.1<=(N:Rat):=by grind
 have hXr:((D:Int):Rat)≠0:=by rw[Ne,Rat.intCast_eq_zero_iff];omega
 have e:t.1=(z:Rat)/((D:Int):Rat):=by rw[<-hz,Rat.intCast_natCast];rw[Rat.intCast_natCast]at hXr;grind
 have hzl:z.natAbs<=N*D:=by
  have h2:Qcr (z:Rat)=Qcr t.1*(D:Rat):=by
   rw[<-hz,Qmq];congr 1
   rw[<-Rat.intCast_natCast,Qhn,Int.natAbs_natCast,Rat.intCast_natCast]
  rw[Qhn]at h2
  have h3:(0:Rat)<=(D:Rat):=by rw[<-Rat.intCast_natCast,show(0:Rat)=((0:Int):Rat)from rfl,Rat.intCast_le_intCast];omega
  have h4:=Rat.mul_le_mul_of_nonneg_right hNt h3
  rw[<-h2,<-Rat.natCast_mul,<-Rat.intCast_natCast,<-Rat.intCast_natCast,Rat.intCast_le_intCast]at h4
  omega
 have hr:=Qxb z (D:Int) (by omega)
 rw[<-e,Int.natAbs_natCast]at hr
 have g1:=Qa7 hzl
 omega
end Go.FW
