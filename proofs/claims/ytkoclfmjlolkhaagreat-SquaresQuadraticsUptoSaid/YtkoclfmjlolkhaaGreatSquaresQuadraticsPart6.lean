/- Part 6 of the proof of SquaresQuadratics: L1, CM, CP, CS2, CS3, CU, CA, CQ, R3, R4, M1, M2, P1, P2, P3, P4, P8, CS, S1, S2, S3, S4, S5, S6, S7, S8, S9, T1, T1b, T1c, T1d, U1, U2, U3, CL, U4, U7, U8, U10, P9, FwUD, FwUE, FwUF, FwUI, FwUJ, FwUH, FwUK, FwXA. Own lemmas; no conditions. -/
import Derived.Test.YtkoclfmjlolkhaaGreatSquaresQuadraticsPart5
set_option maxHeartbeats 1000000
set_option linter.unusedSimpArgs false
set_option linter.unusedVariables false
set_option linter.unnecessarySimpa false
set_option maxRecDepth 100000
namespace Go.Proofs.YtkoclfmjlolkhaaGreat
open Go Go.FW Go.ChangeShapes Go.WideShapes Go.ChangeAt Go.RowKit
variable {H : Type} {enc : TypeId × Value -> H}
variable {w : World} {base : Nat} {spare : Nat -> Bool} {held : Bool} {r : Reach} {b0 : Nat} {v : Value} {d : DataW H} {ps : List MemPlace}
end Go.Proofs.YtkoclfmjlolkhaaGreat
namespace Go.Proofs.YtkoclfmjlolkhaaGreat
open Go Go.FW
def aqg:ay:=⟨47,[.t 6],Zr (YE 6)<|Zr (kR 11<|
 Zo (.mx 15 (.t 12) (.t 14))<|
 Zo (.mk 16 1 8 3 (Zz 0) (.t 15) (.t 15))<|
 Zm 7 16 .nil)<| .seq (Zr (YV 17 7)<| .block 0<| .loop<|Zr (Yz 20 19 18)<| .seq (.cond (.t 20) .skip (.exit 0))<| .seq (.block 1<|Zr (YZ 21 19 8)<|Zr (Zc 9 0<|
 Yj 10 0)<| .seq (Zr (Yo 22 8 0)<| .cond (.t 25) (.rg (Ym 26 0 8<|
 Ye 9 29)) .skip)<| .seq (Zr (Yo 30 8 1)<| .cond (.t 33) (.rg (Ym 34 1 8<|
 Ye 10 37)) .skip)<| .rg (Ya 38 7 8<|
 YY 40 2 9 10<|
 Zo (.call (some 43) false (.t 40) [.t 41,.t 42])<|
 YS 44 1 38 39 43))<| .rg (Yu 45 19 19))<|Zr (YZ 46 7 6) .ret⟩
theorem ajE:Qe Tryz.prog Tryz.f167=some aqg:=by kernel_rfl
def aqf:ay:=⟨24,[.t 2],Zr (YE 2)<|Zr (Yp 4 0<|
 Zm 3 5 .nil)<| .seq (.block 0<| .loop<| .seq (Zr (YB 6 3 1<|
 Zg 8 true (.ld 13 1 false (.t 12))<|
 Zg 8 true (.bin 14 .eql false (.t 13) (.c (Zz 0)))<|
 Yq 15 8 14 .nil)<| .cond (.t 15) .skip (.exit 0))<| .block 1<| .rg (rM 16 3))<| .seq (Zr (Zm 18 3<|
 jj 19 18 0)<| .cond (.t 19) (Zr (YE 2) .ret) .skip)<|Zr (YY 20 0 3 3<|
 Zo (.sl 23 1 (.t 20) none (some (.t 21)) (some (.t 22)))<|
 Ye 2 23) .ret⟩
theorem ajF:Qe Tryz.prog Tryz.f166=some aqf:=by kernel_rfl
def apN:ay:=⟨35,[.t 2],Zr (Yh 2)<| .seq (Zr (Yp 5 0<|
 Zk 7 .gtr 6 64<|
 sR 8 7 0<|
 vA 8 0<|
 Zg 8 false (.mv 12 (.t 11))<|
 Zg 12 true (.mv 13 (.t 0))<|
 Zg 12 true (.mv 14 (.t 0))<|
 Zg 12 true (.len 15 (.t 14))<|
 Zg 12 true (.bin 16 .sub false (.t 15) (.c (Zz 1)))<|
 Zg 12 true (.idx 17 1 (.t 13) (.t 16))<|
 Zg 12 true (.ld 18 1 false (.t 17))<|
 Zg 12 true (.bin 19 .eql false (.t 18) (.c (Zz 0)))<|
 Zg 8 false (.pick 20 (.t 12) (.t 19) (.c (.bool false)))<|
 fQ 21 8 20)<| .cond (.t 21) (Zr (Yh 2) .ret) .skip)<| .seq (Zr (YV 22 0)<| .block 0<| .loop<|Zr (Yz 25 24 23)<| .seq (.cond (.t 25) .skip (.exit 0))<| .seq (.block 1<|Zr (YM 26 22 24<|
 Ye 4 27)<|Zr (Zm 28 4<|
 Zk 29 .lss 28 0<|
 Yw 30 29 4<|
 Zg 30 false (.bin 32 .gtr false (.t 31) (.c (Zz 1048576)))<|
 fQ 33 30 32)<| .cond (.t 33) (Zr (Yh 2) .ret) .skip)<| .rg (YC 34 24 24))<|Zr (YO 2) .ret⟩
theorem ajG:Qe Tryz.prog Tryz.f135=some apN:=by kernel_rfl
def ap6:ay:=⟨10,[.t 2],Zr (YE 2)<|Zr (YD 3 0 166<|
 Zm 0 4 .nil)<| .seq (Zr (YD 5 0 135<|
 Zu 7 6 .nil)<| .cond (.t 7) (Zr (YE 2) .ret) .skip)<|Zr (Zm 8 0<|
 Zo (.app 9 1 8 3 (.c .au) (.t 8))<|
 Zm 2 9 .nil) .ret⟩
theorem ajH:Qe Tryz.prog Tryz.f156=some ap6:=by kernel_rfl
def apv:ay:=⟨17,[.t 2],Zr (Yj 2 0)<|Zr (Yj 3 0)<| .seq (Zr (YV 6 0)<| .block 0<| .loop<|Zr (Yz 9 8 7)<| .seq (.cond (.t 9) .skip (.exit 0))<| .seq (.block 1<|Zr (YM 10 6 8<|
 Zm 5 11 .nil)<| .rg (Ya 12 3 5<|
 dx 14 12 13<|
 Zm 3 14 .nil))<| .rg (YC 15 8 8))<|Zr (YZ 16 3 2) .ret⟩
theorem ajI:Qe Tryz.prog Tryz.f114=some apv:=by kernel_rfl
def arb:ay:=⟨17,[.t 4],Zr (Yj 4 0)<| .seq (Zr (Zm 5 1<|
 Zk 6 .lss 5 0<|
 qM 7 6 1 0<|
 Zg 7 false (.len 10 (.t 9))<|
 Zg 7 false (.bin 11 .geq false (.t 8) (.t 10))<|
 fQ 12 7 11)<| .cond (.t 12) (Zr (Yj 4 0) .ret) .skip)<|Zr (Ym 13 0 1<|
 Zm 4 16 .nil) .ret⟩
theorem ajJ:Qe Tryz.prog Tryz.f223=some arb:=by kernel_rfl
def apl:ay:=⟨7,[.t 2],Zr (Yj 2 0)<|Zr (YD 3 0 166<|
 Zn 5 4<|
 Zk 6 .sub 5 1<|
 Zm 2 6 .nil) .ret⟩
theorem ajK:Qe Tryz.prog Tryz.f104=some apl:=by kernel_rfl
def c96:ay:=⟨9,[.t 4],Zr (YE 4)<|Zr (Ya 5 0 1<|
 Zq 7 false 167 [.t 5,.t 6,.c (.fn 168 [] [])]<|
 Yl 8 166 7<|
 Zm 4 8 .nil) .ret⟩
theorem am4:Qe Tryz.prog Tryz.f96=some c96:=by kernel_rfl
def aqh:ay:=⟨8,[.t 4],Zr (Yj 4 0)<|Zr (Ya 5 0 1<|
 Zb 7 .add 5 6<|
 Zm 4 7 .nil) .ret⟩
theorem ajL:Qe Tryz.prog Tryz.f168=some aqh:=by kernel_rfl
def aqI:ay:=⟨46,[.t 6],Zr (Yj 6 0)<| .seq (Zr (Zm 12 2<|
 jj 13 12 1)<| .cond (.t 13) (Zr (nJ 14 114<|
 Zm 7 15<|
 Zm 8 17 .nil)<|Zr (Ya 18 7 8<|
 jU 20 18 19)<| .cond (.t 20) (.seq (Zr (Ya 21 7 8<|
 Yz 23 21 22)<| .cond (.t 23) (Zr (kQ 6) .ret) .skip)<|Zr (Yj 6 1) .ret) .skip) .skip)<| .seq (Zr (kR 24<|
 Zo (.mx 28 (.t 25) (.t 27))<|
 Zk 29 .sub 28 1<|
 Ye 9 29)<| .block 0<| .loop<| .seq (Zr (Zm 30 9<|
 Zk 31 .geq 30 0 .nil)<| .cond (.t 31) .skip (.exit 0))<| .seq (.block 1<|Zr (YK 34 0 9 223<|
 YK 37 1 9 223<|
 dp 10 36 39)<|Zr (Ya 40 10 11<|
 jU 42 40 41)<| .cond (.t 42) (.seq (Zr (Ya 43 10 11<|
 Yz 45 43 44)<| .cond (.t 45) (Zr (kQ 6) .ret) .skip)<|Zr (Yj 6 1) .ret) .skip)<| .rg (rM 32 9))<|Zr (Yj 6 0) .ret⟩
theorem ajM:Qe Tryz.prog Tryz.f193=some aqI:=by kernel_rfl
def aqW:ay:=⟨97,[.t 8],Zr (YE 8)<|Zr (kR 15<|
 dx 19 16 18<|
 Zo (.mk 20 4 80 95 (.agg [.bool false,.au,.au,.au]) (.c (Zz 0)) (.t 19))<|
 Zm 9 20 .nil)<|Zr (Zc 10 0<|
 Yj 11 0)<| .seq (.block 0<| .loop<| .seq (Zr (Ya 21 10 0<|
 Zn 23 22<|
 Zb 24 .lss 21 23<|
 YN 25 24 11<|
 Zg 25 true (.mv 27 (.t 1))<|
 Zg 25 true (.len 28 (.t 27))<|
 Zg 25 true (.bin 29 .lss false (.t 26) (.t 28))<|
 Yq 30 25 29 .nil)<| .cond (.t 30) .skip (.exit 0))<| .block 1<|Zr (YY 31 2 0 10<|
 Yx 34 4 32 33<|
 iB 36 1 11 4<|
 Zo (.call (some 40) false (.t 31) [.t 35,.t 39])<|
 Ye 12 40)<| .block 2<|Zr (Zm 64 12<|
 Zk 65 .gtr 64 0<|
 Zm 63 65 .nil)<| .cond (.t 63) (Zr (YY 66 9 0 10<|
 Yx 69 4 67 68<|
 Zo (.bs 71 4 95 [.t 70])<|
 Zo (.app 72 4 80 95 (.t 66) (.t 71))<|
 Ye 9 72)<| .rg (YX 73 10 10)) (Zr (Zm 76 12<|
 Zk 77 .lss 76 0<|
 Zm 75 77 .nil)<| .cond (.t 75) (Zr (YY 78 9 1 11<|
 Yx 81 4 79 80<|
 Zo (.bs 83 4 95 [.t 82])<|
 Zo (.app 84 4 80 95 (.t 78) (.t 83))<|
 Ye 9 84)<| .rg (YX 85 11 11)) (.seq (Zr (YY 42 3 0 10<|
 Yx 45 4 43 44<|
 iB 47 1 11 4<|
 .br (Zo (.call (some 51) true (.t 42) [.t 46,.t 50])<|
 Zm 41 51<|
 Yd 52 41<|
 Zo (.alloc 13 4 95 (.agg [.bool false,.au,.au,.au]))<|
 Zs 4 13 52<|
 Ye 14 53) (Zo (.alloc 13 4 95 (.agg [.bool false,.au,.au,.au]))<|
 Zo (.call (some 51) true (.t 42) [.t 46,.t 50])<|
 Zm 41 51<|
 Yd 52 41<|
 Zs 4 13 52<|
 Ye 14 53))<|Zr (Ye 54 14)<| .cond (.t 54) (.rg (Zm 55 9<|
 Zh 56 4 13<|
 Ys 57 4 95 56 80 55 9)) .skip)<|Zr (YX 59 10 10)<| .rg (YX 61 11 11))))<|Zr (YY 87 9 0 10<|
 Zo (.sl 90 4 (.t 88) (some (.t 89)) none none)<|
 Zo (.app 91 4 80 95 (.t 87) (.t 90))<|
 Ye 9 91)<|Zr (YY 92 9 1 11<|
 Zo (.sl 95 4 (.t 93) (some (.t 94)) none none)<|
 mo 96 4 80 95 92 95<|
 Ye 8 96) .ret⟩
theorem ajN:Qe Tryz.prog Tryz.f206=some aqW:=by kernel_rfl
def apO:ay:=⟨10,[.t 4],Zr (iS 2 95<|
 jT 3 95 1<|
 Yj 4 0)<|Zr (ff 5 3 2 3 3<|
 Zq 9 false 193 [.t 6,.t 8,.c (Zz 0)]<|
 Zm 4 9 .nil) .ret⟩
theorem SA:Qe Tryz.prog Tryz.f136=some apO:=by kernel_rfl
def aqX:ay:=⟨19,[.cell 4 4 true,.t 5],Zr (iS 2 95<|
 jT 3 95 1<|
 Zo (.alloc 4 4 95 (.agg [.bool false,.au,.au,.au]))<|
 Yh 5)<|Zr (YP 7 2 3<|
 YP 9 3 3<|
 Yn 11 107 8 10<|
 Yc 6<|
 Zs 3 6 11 .nil)<|Zr (Zh 12 3 6<|
 Yi 13 3 2<|
 YG 15 12 14<|
 Zh 16 3 6<|
 dQ 17 38 16<|
 Zk 18 .neq 17 0<|
 Zs 4 4 15<|
 Ye 5 18) .ret⟩
theorem aje:Qe Tryz.prog Tryz.f207=some aqX:=by kernel_rfl
def ap7:ay:=⟨25,[.t 2],Zr (YE 2)<| .seq (Zr (Yp 4 0 .nil)<| .block 0<|Zr (Zk 7 .eql 5 0<|
 Zm 6 7 .nil)<| .cond (.t 6) (Zr (YE 2) .ret) (Zr (Zk 9 .eql 5 1<|
 Zm 8 9 .nil)<| .cond (.t 8) (Zr (Zm 10 0<|
 Zo (.idx 11 1 (.t 10) (.c (Zz 0)))<|
 Zl 12 1 11<|
 Zm 2 12 .nil) .ret) .skip))<|Zr (Yp 13 0<|
 Zk 15 .quo 14 2<|
 Zm 3 15 .nil)<|Zr (Ya 16 0 3<|
 uj 18 1 16 17<|
 Ya 20 0 3<|
 Zo (.sl 22 1 (.t 20) (some (.t 21)) none none)<|
 Yl 19 157 18<|
 Yl 23 157 22<|
 Yn 24 170 19 23<|
 Ye 2 24) .ret⟩
theorem SB:Qe Tryz.prog Tryz.f157=some ap7:=by kernel_rfl
def ap5:ay:=⟨12,[.t 4],Zr (jT 2 51 0<|
 YE 4)<| .seq (Zr (dn 5 3 2 38<|
 jj 7 6 0)<| .cond (.t 7) (Zr (YE 4) .ret) .skip)<|Zr (Zh 8 3 2<|
 Zm 9 1<|
 YG 10 8 9<|
 Zo (.bs 11 4 95 [.t 10])<|
 Zm 4 11 .nil) .ret⟩
theorem ajf:Qe Tryz.prog Tryz.f155=some ap5:=by kernel_rfl
def c72:ay:=⟨43,[.t 2],Zr (Yh 2)<| .seq (Zr (YV 5 0)<| .block 0<| .loop<|Zr (Yz 8 7 6)<| .seq (.cond (.t 8) .skip (.exit 0))<| .seq (.block 1<|Zr (Zm 9 7<|
 Yx 10 4 5 7<|
 Zo (.alloc 4 4 95 (.agg [.bool false,.au,.au,.au]))<|
 Zm 3 9<|
 Zs 4 4 11 .nil)<|Zr (YP 12 4 3<|
 dQ 14 122 13<|
 Zu 15 14<|
 Zm 16 15<|
 Zg 16 false (.gI 17 0 (.t 4))<|
 Zg 16 false (.ld 18 3 true (.t 17))<|
 Zg 16 false (.call (some 19) true (.c (.fn 38 [] [])) [.t 18])<|
 Zg 16 false (.bin 20 .eql false (.t 19) (.c (Zz 0)))<|
 Yk 21 16 20<|
 YA 22 21 3 4<|
 Zg 22 false (.call (some 25) true (.c (.fn 135 [] [])) [.t 24])<|
 Zg 22 false (.un 26 .not (.t 25))<|
 Yk 27 22 26<|
 Yw 28 27 3<|
 Zg 28 false (.bin 30 .gtr false (.t 29) (.c (Zz 0)))<|
 Zg 28 false (.mv 31 (.t 30))<|
 Zg 31 true (.mv 32 (.t 0))<|
 Zg 31 true (.mv 33 (.t 3))<|
 Zg 31 true (.bin 34 .sub false (.t 33) (.c (Zz 1)))<|
 Zg 31 true (.idx 35 4 (.t 32) (.t 34))<|
 Zg 31 true (.ld 36 4 true (.t 35))<|
 Zg 31 true (.ld 37 4 true (.t 4))<|
 Zg 31 true (.call (some 38) true (.c (.fn 136 [] [])) [.t 36,.t 37])<|
 Zg 31 true (.bin 39 .leq false (.t 38) (.c (Zz 0)))<|
 Zg 28 false (.pick 40 (.t 31) (.t 39) (.c (.bool false)))<|
 fQ 41 28 40)<| .cond (.t 41) (Zr (Yh 2) .ret) .skip)<| .rg (Yu 42 7 7))<|Zr (YO 2) .ret⟩
theorem am5:Qe Tryz.prog Tryz.f72=some c72:=by kernel_rfl
def c91:ay:=⟨54,[.t 2],Zr (YE 2)<|Zr (YE 3)<| .seq (Zr (YV 8 0)<| .block 0<| .loop<|Zr (Yz 11 10 9)<| .seq (.cond (.t 11) .skip (.exit 0))<| .seq (.block 1<|Zr (YH 12 8 10 5 95)<|Zr (Yi 14 3 5<|
 Zn 16 15<|
 Zm 6 16 .nil)<| .seq (.block 2<| .loop<| .seq (Zr (Zm 17 6<|
 Zk 18 .gtr 17 0<|
 Zm 19 18<|
 YT 19 3 5<|
 Zg 19 true (.mv 22 (.t 6))<|
 Zg 19 true (.bin 23 .sub false (.t 22) (.c (Zz 1)))<|
 Zg 19 true (.idx 24 1 (.t 21) (.t 23))<|
 Zg 19 true (.ld 25 1 false (.t 24))<|
 Zg 19 true (.bin 26 .eql false (.t 25) (.c (Zz 0)))<|
 Yq 27 19 26 .nil)<| .cond (.t 27) .skip (.exit 2))<| .block 3<| .rg (rM 28 6))<| .seq (Zr (Yi 30 3 5<|
 Zm 32 6<|
 uj 33 1 31 32<|
 Yl 34 135 33<|
 Zu 35 34 .nil)<| .cond (.t 35) (.exit 1) .skip)<|Zr (YP 36 5 3<|
 Yi 40 3 5<|
 Zq 38 true 61 [.c (Zz 0)]<|
 Yr 39 107 37 38<|
 dQ 42 156 41<|
 Yr 43 155 39 42<|
 Ye 7 43)<|Zr (Yp 44 7<|
 Zk 46 .gtr 45 0 .nil)<| .cond (.t 46) (.rg (Ya 47 3 7<|
 Ys 49 1 37 48 24 47 3)) .skip)<| .rg (Yu 51 10 10))<|Zr (YD 52 3 157<|
 Ye 2 53) .ret⟩
theorem amB:Qe Tryz.prog Tryz.f91=some c91:=by kernel_rfl
def c97:ay:=⟨9,[.t 4],Zr (Yh 4)<|Zr (YK 5 0 1 169<|
 Zk 8 .eql 7 0<|
 Zm 4 8 .nil) .ret⟩
theorem amC:Qe Tryz.prog Tryz.f97=some c97:=by kernel_rfl
def aqi:ay:=⟨10,[.t 4],Zr (Yj 4 0)<|Zr (Zo (.mv 5 (.c (.fn 203 [] []))) .nil)<|Zr (YY 6 0 1 5<|
 Zq 9 false 205 [.t 6,.t 7,.t 8]<|
 Zm 4 9 .nil) .ret⟩
theorem ajg:Qe Tryz.prog Tryz.f169=some aqi:=by kernel_rfl
def aqT:ay:=⟨17,[.t 4],Zr (iS 2 95<|
 jT 3 95 1<|
 Yj 4 0)<| .seq (Zr (mY 6 4 2 3 136<|
 Zm 5 8 .nil)<|Zr (Zm 9 5<|
 iT 10 9)<| .cond (.t 10) (Zr (jC 11 5 4) .ret) .skip)<|Zr (YP 12 2 3<|
 YP 14 3 3<|
 Yn 16 204 13 15<|
 Zm 4 16 .nil) .ret⟩
theorem ajh:Qe Tryz.prog Tryz.f203=some aqT:=by kernel_rfl
def aqk:ay:=⟨8,[.t 4],Zr (YE 4)<|Zr (Ya 5 0 1<|
 Zq 7 false 206 [.t 5,.t 6,.c (.fn 136 [] []),.c (.fn 207 [] [])]<|
 Zm 4 7 .nil) .ret⟩
theorem aji:Qe Tryz.prog Tryz.f170=some aqk:=by kernel_rfl
def aqm:ay:=⟨38,[.t 4],Zr (jT 3 95 1<|
 YE 4)<|Zr (Yp 9 0<|
 Zo (.mk 11 4 80 95 (.agg [.bool false,.au,.au,.au]) (.c (Zz 0)) (.t 10))<|
 Zm 5 11 .nil)<| .seq (Zr (YV 12 0)<| .block 0<| .loop<|Zr (Yz 15 14 13)<| .seq (.cond (.t 15) .skip (.exit 0))<| .seq (.block 1<|Zr (YH 16 12 14 7 95)<|Zr (YP 18 7 3<|
 YP 20 3 3<|
 Yn 22 105 19 21<|
 fu 8 22 .nil)<|Zr (dn 23 3 8 38<|
 iT 25 24)<| .cond (.t 25) (.rg (ku 26 5 8<|
 ff 28 3 7 3 3<|
 Yr 32 96 29 31<|
 YG 33 27 32<|
 Ys 34 4 95 33 80 26 5)) .skip)<| .rg (Yu 36 14 14))<|Zr (YZ 37 5 4) .ret⟩
theorem ajj:Qe Tryz.prog Tryz.f172=some aqm:=by kernel_rfl
def apk:ay:=⟨33,[.t 4],Zr (YE 4)<| .seq (Zr (kR 8<|
 Zb 12 .gtr 9 11 .nil)<| .cond (.t 12) (.rg (Ya 13 1 0<|
 dp 0 13 14)) .skip)<|Zr (Yp 15 0<|
 Zo (.mk 17 1 24 37 .au (.c (Zz 0)) (.t 16))<|
 Zm 5 17 .nil)<| .seq (Zr (YV 18 0)<| .block 0<| .loop<|Zr (Yz 21 20 19)<| .seq (.cond (.t 21) .skip (.exit 0))<| .seq (.block 1<|Zr (YH 22 18 20 7 95)<| .rg (Ya 24 5 1<|
 Zh 26 4 7<|
 Yn 27 172 25 26<|
 Zo (.bs 28 1 37 [.t 27])<|
 Zo (.app 29 1 24 37 (.t 24) (.t 28))<|
 Ye 5 29))<| .rg (YC 30 20 20))<|Zr (YD 31 5 157<|
 Ye 4 32) .ret⟩
theorem ajk:Qe Tryz.prog Tryz.f103=some apk:=by kernel_rfl
def apj:ay:=⟨12,[.t 4],Zr (Zo (.box 3 3 51 (.t 1))<|
 YE 4)<| .seq (Zr (dn 5 3 3 38<|
 jj 7 6 0)<| .cond (.t 7) (Zr (YE 4) .ret) .skip)<|Zr (ku 8 0 3<|
 Zo (.eB 10 [.bool false,.au,.au,.au] [(0,3,.t 9)])<|
 Yn 11 172 8 10<|
 Zm 4 11 .nil) .ret⟩
theorem ajl:Qe Tryz.prog Tryz.f102=some apj:=by kernel_rfl
def c43:ay:=⟨19,[.t 2],Zr (Yj 2 0)<|Zr (kQ 3)<| .seq (Zr (YV 6 0)<| .block 0<| .loop<|Zr (Yz 9 8 7)<| .seq (.cond (.t 9) .skip (.exit 0))<| .seq (.block 1<|Zr (YH 10 6 8 5 95)<| .rg (Zm 12 3<|
 Yi 13 3 5<|
 Yl 15 114 14<|
 Zo (.mx 16 (.t 12) (.t 15))<|
 Ye 3 16))<| .rg (YC 17 8 8))<|Zr (YZ 18 3 2) .ret⟩
theorem amD:Qe Tryz.prog Tryz.f43=some c43:=by kernel_rfl
def c44:ay:=⟨47,[.t 2],Zr (YE 2)<|Zr (Zo (.alloc 3 64 128 (.agg [.bool false,.bool false,.bool false,.bool false,.bool false,.bool false,.bool false,.bool false,.bool false,.bool false,.bool false,.bool false,.bool false,.bool false,.bool false,.bool false,.bool false,.bool false,.bool false,.bool false,.bool false,.bool false,.bool false,.bool false,.bool false,.bool false,.bool false,.bool false,.bool false,.bool false,.bool false,.bool false,.bool false,.bool false,.bool false,.bool false,.bool false,.bool false,.bool false,.bool false,.bool false,.bool false,.bool false,.bool false,.bool false,.bool false,.bool false,.bool false,.bool false,.bool false,.bool false,.bool false,.bool false,.bool false,.bool false,.bool false,.bool false,.bool false,.bool false,.bool false,.bool false,.bool false,.bool false,.bool false])) .nil)<| .seq (Zr (YV 11 0)<| .block 0<| .loop<|Zr (Yz 14 13 12)<| .seq (.cond (.t 14) .skip (.exit 0))<| .seq (.block 1<|Zr (YH 15 11 13 5 95)<|Zr (Yi 17 3 5<|
 Zn 19 18<|
 Yj 20 0)<| .block 2<| .loop<|Zr (Yz 21 20 19)<| .seq (.cond (.t 21) .skip (.exit 2))<| .seq (.block 3<|Zr (Zm 22 20<|
 YM 23 18 20<|
 dp 6 22 24)<|Zr (Zm 25 7<|
 Zk 26 .neq 25 0<|
 YN 27 26 6<|
 Zg 27 true (.bin 29 .lss false (.t 28) (.c (Zz 64)))<|
 Yq 30 27 29 .nil)<| .cond (.t 30) (.rg (Zm 31 6<|
 Zo (.BV 32 64 1 (.t 3) (.t 31))<|
 Zo (.st 1 (.t 32) (.c (.bool true))) .nil)) .skip)<| .rg (Yu 33 20 20))<| .rg (Yu 34 13 13))<|Zr (YE 8)<| .seq (Zr (Zh 35 64 3<|
 Yj 36 0)<| .block 4<| .loop<|Zr (Zk 37 .lss 36 64 .nil)<| .seq (.cond (.t 37) .skip (.exit 4))<| .seq (.block 5<|Zr (Zm 38 36<|
 Zo (.BW 39 64 1 false (.t 35) (.t 36))<|
 dp 9 38 39)<|Zr (Ye 40 10)<| .cond (.t 40) (.rg (Ya 41 8 9<|
 Ys 43 1 3 42 8 41 8)) .skip)<| .rg (YC 45 36 36))<|Zr (YZ 46 8 2) .ret⟩
theorem amE:Qe Tryz.prog Tryz.f44=some c44:=by kernel_rfl
def apn:ay:=⟨23,[.cell 4 3 true],Zr (jT 2 51 0<|
 Yc 4 .nil)<|Zr (iA 6 61 1<|
 Yc 5<|
 Zs 3 5 6 .nil)<| .seq (.block 0<| .loop<| .seq (Zr (Zm 7 1<|
 Zk 8 .gtr 7 0 .nil)<| .cond (.t 8) .skip (.exit 0))<| .seq (.block 1<| .seq (Zr (Zm 11 1<|
 Zk 12 .rem 11 2<|
 jj 13 12 1)<| .cond (.t 13) (.rg (mY 14 3 5 2 105<|
 Zs 3 5 16 .nil)) .skip)<|Zr (Zm 17 1<|
 Zk 18 .gtr 17 1 .nil)<| .cond (.t 18) (.rg (mY 19 3 2 2 105<|
 Zs 3 2 21 .nil)) .skip)<| .rg (Zm 9 1<|
 Zk 10 .quo 9 2<|
 Zm 1 10 .nil))<|Zr (Zh 22 3 5<|
 jE 3 22) .ret⟩
theorem ajm:Qe Tryz.prog Tryz.f106=some apn:=by kernel_rfl
def c37:ay:=⟨61,[.cell 4 3 true,.t 5],Zr (Yc 4<|
 Yj 5 0)<| .seq (Zr (YV 14 0)<| .block 0<| .loop<|Zr (Yz 17 16 15)<| .seq (.cond (.t 17) .skip (.exit 0))<| .seq (.block 1<|Zr (YH 18 14 16 7 95)<|Zr (Yi 20 3 7<|
 Yl 22 104 21<|
 Yp 23 1<|
 Zb 25 .geq 22 24 .nil)<| .cond (.t 25) (Zr (Zo (.eB 26 [.bool false,.au,.au] [])<|
 Zs 3 4 26<|
 Yj 5 2) .ret) .skip)<| .rg (YC 27 16 16))<|Zr (iA 28 61 0<|
 fu 8 28 .nil)<| .seq (Zr (YV 29 0)<| .block 2<| .loop<|Zr (Yz 32 31 30)<| .seq (.cond (.t 32) .skip (.exit 2))<| .seq (.block 3<|Zr (YH 33 29 31 10 95)<|Zr (YP 35 10 3<|
 fu 11 36 .nil)<| .seq (Zr (Yi 37 3 10<|
 Zn 39 38<|
 Yj 40 0)<| .block 4<| .loop<|Zr (Yz 41 40 39)<| .seq (.cond (.t 41) .skip (.exit 4))<| .seq (.block 5<|Zr (Zm 42 40<|
 YM 43 38 40<|
 dp 12 42 44)<|Zr (Zm 45 13<|
 Zk 46 .gtr 45 0 .nil)<| .cond (.t 46) (.rg (Zh 47 3 11<|
 iB 48 1 12 3<|
 Zm 52 13<|
 Yr 53 106 51 52<|
 jD 54 105 47 53 3 11)) .skip)<| .rg (Yu 55 40 40))<| .rg (mY 56 3 8 11 107<|
 Zs 3 8 58 .nil))<| .rg (Yu 59 31 31))<|Zr (Zh 60 3 8<|
 Zs 3 4 60<|
 Yj 5 0) .ret⟩
theorem amF:Qe Tryz.prog Tryz.f37=some c37:=by kernel_rfl
def aqV:ay:=⟨39,[.t 6],Zr (Yj 6 0)<| .seq (Zr (YV 11 0)<| .block 0<| .loop<|Zr (Yz 14 13 12)<| .seq (.cond (.t 14) .skip (.exit 0))<| .seq (.block 1<|Zr (Zm 15 13<|
 Yx 16 4 11 13<|
 Zo (.alloc 8 4 95 (.agg [.bool false,.au,.au,.au]))<|
 Zm 7 15<|
 Zs 4 8 17 .nil)<| .seq (Zr (Ya 18 7 1<|
 Zn 20 19<|
 Zb 21 .geq 18 20 .nil)<| .cond (.t 21) (Zr (Yj 6 1) .ret) .skip)<|Zr (Ya 22 1 7<|
 YH 24 22 23 9 95)<|Zr (Zm 26 2<|
 Zh 27 4 8<|
 Zh 28 4 9<|
 Zo (.call (some 29) false (.t 26) [.t 27,.t 28])<|
 Ye 10 29)<|Zr (Zm 30 10<|
 iT 31 30)<| .cond (.t 31) (Zr (YZ 32 10 6) .ret) .skip)<| .rg (Yu 33 13 13))<| .seq (Zr (kR 34<|
 Yz 38 35 37)<| .cond (.t 38) (Zr (kQ 6) .ret) .skip)<|Zr (Yj 6 0) .ret⟩
theorem ajn:Qe Tryz.prog Tryz.f205=some aqV:=by kernel_rfl
def aqY:ay:=⟨9,[.t 4],Zr (Yh 4)<|Zr (YK 5 0 1 225<|
 Zk 8 .geq 7 0<|
 Zm 4 8 .nil) .ret⟩
theorem ajY:Qe Tryz.prog Tryz.f208=some aqY:=by kernel_rfl
def aq1:ay:=⟨9,[.t 4],Zr (Yh 4)<|Zr (YK 5 0 1 226<|
 Zk 8 .geq 7 0<|
 Zm 4 8 .nil) .ret⟩
theorem ajZ:Qe Tryz.prog Tryz.f210=some aq1:=by kernel_rfl
def ard:ay:=⟨19,[.t 4],Zr (Yj 4 0)<| .seq (Zr (YV 6 0)<| .block 0<| .loop<|Zr (Yz 9 8 7)<| .seq (.cond (.t 9) .skip (.exit 0))<| .seq (.block 1<|Zr (jC 10 8 5)<|Zr (YY 11 1 0 5<|
 Yx 14 4 12 13<|
 Zo (.call (some 16) false (.t 11) [.t 15]) .nil)<| .cond (.t 16) (Zr (YZ 17 5 4) .ret) .skip)<| .rg (YC 18 8 8))<|Zr (kQ 4) .ret⟩
theorem aj0:Qe Tryz.prog Tryz.f225=some ard:=by kernel_rfl
def are:ay:=⟨19,[.t 4],Zr (Yj 4 0)<| .seq (Zr (YV 6 0)<| .block 0<| .loop<|Zr (Yz 9 8 7)<| .seq (.cond (.t 9) .skip (.exit 0))<| .seq (.block 1<|Zr (jC 10 8 5)<|Zr (YY 11 1 0 5<|
 YM 14 12 13<|
 Zo (.call (some 16) false (.t 11) [.t 15]) .nil)<| .cond (.t 16) (Zr (YZ 17 5 4) .ret) .skip)<| .rg (YC 18 8 8))<|Zr (kQ 4) .ret⟩
theorem aj1:Qe Tryz.prog Tryz.f226=some are:=by kernel_rfl
def c64:ay:=⟨39,[.t 2],Zr (Yh 2)<| .seq (Zr (Yp 4 0<|
 Zk 6 .gtr 5 64<|
 sR 7 6 0<|
 vA 7 0<|
 Zg 7 false (.mv 11 (.t 10))<|
 Zg 11 true (.mv 12 (.t 0))<|
 Zg 11 true (.mv 13 (.t 0))<|
 Zg 11 true (.len 14 (.t 13))<|
 Zg 11 true (.bin 15 .sub false (.t 14) (.c (Zz 1)))<|
 Zg 11 true (.idx 16 1 (.t 12) (.t 15))<|
 Zg 11 true (.ld 17 1 false (.t 16))<|
 Zg 11 true (.bin 18 .eql false (.t 17) (.c (Zz 0)))<|
 Zg 7 false (.pick 19 (.t 11) (.t 18) (.c (.bool false)))<|
 fQ 20 7 19)<| .cond (.t 20) (Zr (Yh 2) .ret) .skip)<| .seq (Zr (Yj 3 0)<| .block 0<| .loop<| .seq (Zr (Yo 21 3 0)<| .cond (.t 24) .skip (.exit 0))<| .seq (.block 1<|Zr (Ym 27 0 3<|
 Zk 31 .lss 30 0<|
 qM 32 31 0 3<|
 Zg 32 false (.idx 35 1 (.t 33) (.t 34))<|
 Zg 32 false (.ld 36 1 false (.t 35))<|
 Zg 32 false (.bin 37 .gtr false (.t 36) (.c (Zz 1048576)))<|
 fQ 38 32 37)<| .cond (.t 38) (Zr (Yh 2) .ret) .skip)<| .rg (YX 25 3 3))<|Zr (YO 2) .ret⟩
theorem amG:Qe Tryz.prog Tryz.f64=some c64:=by kernel_rfl
def aqS:ay:=⟨24,[.t 2],Zr (YE 2)<|Zr (Yp 5 0<|
 Zm 3 6 .nil)<| .seq (.block 0<| .loop<| .seq (Zr (YB 7 3 1<|
 Zg 9 true (.ld 14 1 false (.t 13))<|
 Zg 9 true (.bin 15 .eql false (.t 14) (.c (Zz 0)))<|
 Yq 16 9 15 .nil)<| .cond (.t 16) .skip (.exit 0))<| .block 1<| .rg (rM 17 3))<|Zr (YE 4)<|Zr (YY 19 4 0 3<|
 uj 22 1 20 21<|
 mo 23 1 8 3 19 22<|
 Ye 2 23) .ret⟩
theorem aj2:Qe Tryz.prog Tryz.f202=some aqS:=by kernel_rfl
def aqd:ay:=⟨9,[.t 2],Zr (YE 2)<| .seq (Zr (YD 4 0 202<|
 Zm 3 5 .nil)<|Zr (YD 6 3 64 .nil)<| .cond (.t 7) (Zr (jC 8 3 2) .ret) .skip)<|Zr (YE 2) .ret⟩
theorem aj3:Qe Tryz.prog Tryz.f164=some aqd:=by kernel_rfl
def apJ:ay:=⟨18,[.t 2],Zr (Yj 2 0)<|Zr (Yj 3 0)<| .seq (Zr (Yj 4 0)<| .block 0<| .loop<| .seq (Zr (Yo 5 4 0)<| .cond (.t 8) .skip (.exit 0))<| .seq (.block 1<| .rg (YY 11 3 0 4<|
 YM 14 12 13<|
 dx 16 11 15<|
 Ye 3 16))<| .rg (fR 9 4))<|Zr (YZ 17 3 2) .ret⟩
theorem aj4:Qe Tryz.prog Tryz.f131=some apJ:=by kernel_rfl
def c66:ay:=⟨17,[.t 4],Zr (Yj 4 0)<| .seq (Zr (Zm 5 1<|
 Zk 6 .lss 5 0<|
 qM 7 6 1 0<|
 Zg 7 false (.len 10 (.t 9))<|
 Zg 7 false (.bin 11 .geq false (.t 8) (.t 10))<|
 fQ 12 7 11)<| .cond (.t 12) (Zr (Yj 4 0) .ret) .skip)<|Zr (Ym 13 0 1<|
 Zm 4 16 .nil) .ret⟩
theorem amH:Qe Tryz.prog Tryz.f66=some c66:=by kernel_rfl
def c98:ay:=⟨30,[.t 4],Zr (YE 4)<|Zr (YE 5)<| .seq (Zr (Yj 6 0)<| .block 0<| .loop<| .seq (Zr (DS 7 6 6 .nil)<| .cond (.t 16) .skip (.exit 0))<| .seq (.block 1<| .rg (YY 19 5 0 6<|
 Yn 22 66 20 21<|
 YK 23 1 6 66<|
 dx 26 22 25<|
 Ys 27 1 3 26 8 19 5))<| .rg (fR 17 6))<|Zr (YZ 29 5 4) .ret⟩
theorem amI:Qe Tryz.prog Tryz.f98=some c98:=by kernel_rfl
def c65:ay:=⟨48,[.t 6],Zr (Yj 6 0)<| .seq (Zr (Zm 8 2<|
 Zk 9 .eql 8 1<|
 YN 10 9 0<|
 xg 10 131<|
 Zg 10 true (.mv 13 (.t 1))<|
 Zg 10 true (.call (some 14) false (.c (.fn 131 [] [])) [.t 13])<|
 Zg 10 true (.bin 15 .neq false (.t 12) (.t 14))<|
 Yq 16 10 15 .nil)<| .cond (.t 16) (Zr (nJ 17 131<|
 Zb 21 .sub 18 20<|
 Yl 22 132 21<|
 Ye 6 22) .ret) .skip)<| .seq (Zr (kR 23<|
 Zo (.mx 27 (.t 24) (.t 26))<|
 Zk 28 .sub 27 1<|
 Ye 7 28)<| .block 0<| .loop<| .seq (Zr (Zm 29 7<|
 Zk 30 .geq 29 0 .nil)<| .cond (.t 30) .skip (.exit 0))<| .seq (.block 1<|Zr (YK 33 0 7 66<|
 YK 36 1 7 66<|
 jU 39 35 38)<| .cond (.t 39) (Zr (YK 40 0 7 66<|
 YK 43 1 7 66<|
 Zb 46 .sub 42 45<|
 Yl 47 132 46<|
 Ye 6 47) .ret) .skip)<| .rg (rM 31 7))<|Zr (Yj 6 0) .ret⟩
theorem amJ:Qe Tryz.prog Tryz.f65=some c65:=by kernel_rfl
def apK:ay:=⟨7,[.t 2],Zr (Yj 2 0)<| .seq (Zr (Zm 3 0<|
 Zk 4 .lss 3 0 .nil)<| .cond (.t 4) (Zr (kQ 2) .ret) .skip)<| .seq (Zr (Zm 5 0<|
 Zk 6 .gtr 5 0 .nil)<| .cond (.t 6) (Zr (Yj 2 1) .ret) .skip)<|Zr (Yj 2 0) .ret⟩
theorem aj5:Qe Tryz.prog Tryz.f132=some apK:=by kernel_rfl
def apU:ay:=⟨26,[.t 4],Zr (Yh 4)<| .seq (Zr (kR 6<|
 jU 10 7 9)<| .cond (.t 10) (Zr (Yh 4) .ret) .skip)<| .seq (Zr (Yj 5 0)<| .block 0<| .loop<| .seq (Zr (Yo 11 5 0)<| .cond (.t 14) .skip (.exit 0))<| .seq (.block 1<|Zr (Ym 17 0 5<|
 Ym 21 1 5<|
 jU 25 20 24)<| .cond (.t 25) (Zr (Yh 4) .ret) .skip)<| .rg (fR 15 5))<|Zr (YO 4) .ret⟩
theorem aj6:Qe Tryz.prog Tryz.f142=some apU:=by kernel_rfl
def aps:ay:=⟨92,[.t 4],Zr (YE 4)<|Zr (YE 5)<|Zr (Zc 6 0<|
 Yj 7 0)<| .seq (.block 0<| .loop<| .seq (Zr (DS 10 6 7 .nil)<| .cond (.t 19) .skip (.exit 0))<| .block 1<|Zr (Yj 8 1)<| .seq (Zr (Ya 20 6 0<|
 Zn 22 21<|
 Zb 23 .eql 20 22 .nil)<| .cond (.t 23) (.rg (kQ 8)) (Zr (Yo 24 7 1)<| .cond (.t 27) (.rg (nI 28 0 6<|
 nI 33 1 7<|
 Zq 38 false 65 [.t 32,.t 37,.c (Zz 0)]<|
 Ye 8 38)) .skip))<| .block 2<|Zr (Zm 68 8<|
 Zk 69 .gtr 68 0<|
 Zm 67 69 .nil)<| .cond (.t 67) (Zr (YY 70 5 0 6<|
 Yx 73 4 71 72<|
 Zo (.bs 75 4 95 [.t 74])<|
 Zo (.app 76 4 80 95 (.t 70) (.t 75))<|
 Ye 5 76)<| .rg (YX 77 6 6)) (Zr (Zm 80 8<|
 Zk 81 .lss 80 0<|
 Zm 79 81 .nil)<| .cond (.t 79) (Zr (YY 82 5 1 7<|
 Yx 85 4 83 84<|
 Zo (.bs 87 4 95 [.t 86])<|
 Zo (.app 88 4 80 95 (.t 82) (.t 87))<|
 Ye 5 88)<| .rg (YX 89 7 7)) (.seq (Zr (sS 39 0 6<|
 sS 44 1 7<|
 .br (Yr 49 87 43 48<|
 fu 9 49 .nil) (Yc 9<|
 jD 49 87 43 48 3 9))<|Zr (dn 50 3 9 27<|
 iT 52 51)<| .cond (.t 52) (.rg (ku 53 5 9<|
 nI 55 0 6<|
 YG 60 54 59<|
 Ys 61 4 95 60 80 53 5)) .skip)<|Zr (YX 63 6 6)<| .rg (YX 65 7 7))))<|Zr (YZ 91 5 4) .ret⟩
theorem aj7:Qe Tryz.prog Tryz.f110=some aps:=by kernel_rfl
def apu:ay:=⟨58,[.t 4],Zr (Yj 4 0)<| .seq (Zr (Yj 5 0)<| .block 0<| .loop<| .seq (Zr (Ya 8 5 0<|
 Zn 10 9<|
 Zb 11 .lss 8 10<|
 YN 12 11 5<|
 Zg 12 true (.mv 14 (.t 1))<|
 Zg 12 true (.len 15 (.t 14))<|
 Zg 12 true (.bin 16 .lss false (.t 13) (.t 15))<|
 Yq 17 12 16 .nil)<| .cond (.t 17) .skip (.exit 0))<| .seq (.block 1<| .seq (Zr (nI 20 0 5<|
 nI 25 1 5<|
 Zq 30 false 65 [.t 24,.t 29,.c (Zz 0)]<|
 Ye 6 30)<|Zr (Zm 31 6<|
 iT 32 31)<| .cond (.t 32) (Zr (YZ 33 6 4) .ret) .skip)<|Zr (sS 34 0 5<|
 sS 39 1 5<|
 Yn 44 118 38 43<|
 Ye 7 44)<|Zr (Zm 45 7<|
 iT 46 45)<| .cond (.t 46) (Zr (YZ 47 7 4) .ret) .skip)<| .rg (YX 18 5 5))<| .seq (Zr (kR 48<|
 Yz 52 49 51)<| .cond (.t 52) (Zr (kQ 4) .ret) .skip)<| .seq (Zr (kR 53<|
 Zb 57 .gtr 54 56 .nil)<| .cond (.t 57) (Zr (Yj 4 1) .ret) .skip)<|Zr (Yj 4 0) .ret⟩
theorem aj8:Qe Tryz.prog Tryz.f113=some apu:=by kernel_rfl
def c70:ay:=⟨5,[.t 2],Zr (iS 1 51<|
 YE 2)<|Zr (Zh 3 3 1<|
 Zq 4 false 133 [.c .au,.t 3,.c .au]<|
 Zm 2 4 .nil) .ret⟩
theorem amK:Qe Tryz.prog Tryz.f70=some c70:=by kernel_rfl
def c76:ay:=⟨20,[.t 2],Zr (Yj 2 0)<|Zr (kQ 3)<| .seq (Zr (Yj 4 0)<| .block 0<| .loop<| .seq (Zr (Yo 5 4 0)<| .cond (.t 8) .skip (.exit 0))<| .seq (.block 1<| .rg (YY 11 3 0 4<|
 Zi 14 4 12 13<|
 Yi 15 3 14<|
 Yl 17 131 16<|
 Zo (.mx 18 (.t 11) (.t 17))<|
 Ye 3 18))<| .rg (fR 9 4))<|Zr (YZ 19 3 2) .ret⟩
theorem anh:Qe Tryz.prog Tryz.f76=some c76:=by kernel_rfl
def c40:ay:=⟨9,[.t 4],Zr (Yh 4)<|Zr (YK 5 0 1 113<|
 Zk 8 .eql 7 0<|
 Zm 4 8 .nil) .ret⟩
theorem ani:Qe Tryz.prog Tryz.f40=some c40:=by kernel_rfl
def c26:ay:=⟨68,[.cell 4 3 true,.t 5],Zr (Yc 4<|
 Yj 5 0)<|Zr (iA 11 50 0<|
 Yc 6<|
 Zs 3 6 11 .nil)<| .seq (Zr (Yj 7 0)<| .block 0<| .loop<| .seq (Zr (Yo 12 7 0)<| .cond (.t 15) .skip (.exit 0))<| .seq (.block 1<|Zr (nI 18 0 7<|
 Zn 23 22<|
 Yp 24 1<|
 Zb 26 .gtr 23 25 .nil)<| .cond (.t 26) (Zr (Zo (.eB 27 [.bool false,.au,.au] [])<|
 Zs 3 4 27<|
 Yj 5 2) .ret) .skip)<| .rg (fR 16 7))<| .seq (Zr (Yj 8 0)<| .block 2<| .loop<| .seq (Zr (Yo 28 8 0)<| .cond (.t 31) .skip (.exit 2))<| .seq (.block 3<|Zr (sS 34 0 8<|
 fu 9 38 .nil)<| .seq (Zr (Yj 10 0)<| .block 4<| .loop<| .seq (Zr (YY 39 10 0 8<|
 Zi 42 4 40 41<|
 Yi 43 3 42<|
 Zn 45 44<|
 Yz 46 39 45)<| .cond (.t 46) .skip (.exit 4))<| .seq (.block 5<| .rg (Zh 49 3 9<|
 iB 50 1 10 3<|
 nI 54 0 8<|
 Zm 59 10<|
 YM 60 58 59<|
 Yr 62 86 53 61<|
 jD 63 85 49 62 3 9))<| .rg (YX 47 10 10))<| .rg (mY 64 3 6 9 87<|
 Zs 3 6 66 .nil))<| .rg (YX 32 8 8))<|Zr (Zh 67 3 6<|
 Zs 3 4 67<|
 Yj 5 0) .ret⟩
theorem anj:Qe Tryz.prog Tryz.f26=some c26:=by kernel_rfl
def c69:ay:=⟨22,[.t 4],Zr (YE 4)<|Zr (YE 5)<| .seq (Zr (Yj 6 0)<| .block 0<| .loop<| .seq (Zr (Yo 7 6 1)<| .cond (.t 10) .skip (.exit 0))<| .seq (.block 1<| .rg (Ya 13 5 0<|
 iB 15 1 6 4<|
 Yn 19 134 14 18<|
 Yn 20 110 13 19<|
 Ye 5 20))<| .rg (fR 11 6))<|Zr (YZ 21 5 4) .ret⟩
theorem ank:Qe Tryz.prog Tryz.f69=some c69:=by kernel_rfl
def c71:ay:=⟨6,[.t 2],Zr (YE 2)<|Zr (Zm 3 0<|
 Zq 4 false 50 [.c (Zz (-1))]<|
 Yn 5 111 3 4<|
 Zm 2 5 .nil) .ret⟩
theorem anl:Qe Tryz.prog Tryz.f71=some c71:=by kernel_rfl
def c94:ay:=⟨34,[.t 2],Zr (YE 2)<|Zr (YE 3)<| .seq (Zr (Yj 4 0)<| .block 0<| .loop<| .seq (Zr (Yo 6 4 0)<| .cond (.t 9) .skip (.exit 0))<| .seq (.block 1<|Zr (nI 12 0 4<|
 Yl 17 164 16<|
 Zm 5 17 .nil)<|Zr (nI 18 0 4<|
 Zm 23 5<|
 Yn 24 165 22 23 .nil)<| .cond (.t 24) (.rg (YY 25 3 0 4<|
 Zi 28 4 26 27<|
 YP 29 28 3<|
 Zm 31 5<|
 Zq 32 false 133 [.t 25,.t 30,.t 31]<|
 Ye 3 32)) .skip)<| .rg (fR 10 4))<|Zr (YZ 33 3 2) .ret⟩
theorem anm:Qe Tryz.prog Tryz.f94=some c94:=by kernel_rfl
def c19:ay:=⟨52,[.t 2],Zr (Yh 2)<| .seq (Zr (Yj 3 0)<| .block 0<| .loop<| .seq (Zr (Yo 4 3 0)<| .cond (.t 7) .skip (.exit 0))<| .seq (.block 1<| .seq (Zr (sS 10 0 3<|
 Zq 15 false 25 [.t 14]<|
 Zu 16 15<|
 yW 17 16 3 0<|
 Zg 17 false (.ld 22 3 true (.t 21))<|
 Zg 17 false (.call (some 23) false (.c (.fn 27 [] [])) [.t 22])<|
 Zg 17 false (.bin 24 .eql false (.t 23) (.c (Zz 0)))<|
 Yk 25 17 24<|
 yW 26 25 3 3<|
 Zg 26 false (.ld 31 1 false (.t 30))<|
 Zg 26 false (.call (some 32) false (.c (.fn 64 [] [])) [.t 31])<|
 Zg 26 false (.un 33 .not (.t 32))<|
 fQ 34 26 33)<| .cond (.t 34) (Zr (Yh 2) .ret) .skip)<|Zr (YB 35 3 4<|
 Zg 37 true (.gI 42 3 (.t 41))<|
 Zg 37 true (.ld 43 1 false (.t 42))<|
 Zg 37 true (.mv 44 (.t 0))<|
 Zg 37 true (.mv 45 (.t 3))<|
 Zg 37 true (.idx 46 4 (.t 44) (.t 45))<|
 Zg 37 true (.gI 47 3 (.t 46))<|
 Zg 37 true (.ld 48 1 false (.t 47))<|
 Zg 37 true (.call (some 49) false (.c (.fn 65 [] [])) [.t 43,.t 48,.c (Zz 0)])<|
 Zg 37 true (.bin 50 .leq false (.t 49) (.c (Zz 0)))<|
 Yq 51 37 50 .nil)<| .cond (.t 51) (Zr (Yh 2) .ret) .skip)<| .rg (fR 8 3))<|Zr (YO 2) .ret⟩
theorem ann:Qe Tryz.prog Tryz.f19=some c19:=by kernel_rfl
def apt:ay:=⟨35,[.t 4],Zr (Zo (.box 3 3 51 (.t 1))<|
 YE 4)<|Zr (YE 5)<| .seq (Zr (Yj 6 0)<| .block 0<| .loop<| .seq (Zr (Ya 7 6 0<|
 Zn 9 8<|
 Zb 10 .lss 7 9<|
 Zm 11 10<|
 Zg 11 true (.ld 12 3 true (.t 3))<|
 xg 11 27<|
 Zg 11 true (.bin 14 .neq false (.t 13) (.c (Zz 0)))<|
 Yq 15 11 14 .nil)<| .cond (.t 15) .skip (.exit 0))<| .seq (.block 1<| .rg (YY 18 5 0 6<|
 Zi 21 4 19 20<|
 YP 22 21 3<|
 Zh 24 3 3<|
 nI 26 0 6<|
 Yr 25 85 23 24<|
 YG 31 25 30<|
 Ys 32 4 95 31 80 18 5))<| .rg (fR 16 6))<|Zr (YZ 34 5 4) .ret⟩
theorem aj9:Qe Tryz.prog Tryz.f111=some apt:=by kernel_rfl
def c68:ay:=⟨9,[.t 4],Zr (YE 4)<|Zr (Ya 5 0 1<|
 Yl 7 71 6<|
 Yn 8 110 5 7<|
 Zm 4 8 .nil) .ret⟩
theorem ano:Qe Tryz.prog Tryz.f68=some c68:=by kernel_rfl
def c20:ay:=⟨34,[.t 2],Zr (YE 2)<|Zr (YE 3)<| .seq (Zr (Yj 4 0)<| .block 0<| .loop<| .seq (Zr (Zm 7 4<|
 Zk 8 .lss 7 64 .nil)<| .cond (.t 8) .skip (.exit 0))<| .seq (.block 1<|Zr (Yh 5)<| .seq (Zr (Yj 6 0)<| .block 2<| .loop<| .seq (Zr (Yo 11 6 0)<| .cond (.t 14) .skip (.exit 2))<| .seq (.block 3<| .rg (Zm 17 5<|
 yW 18 17 6 3<|
 Zg 18 false (.ld 23 1 false (.t 22))<|
 Zg 18 false (.mv 24 (.t 4))<|
 Zg 18 false (.call (some 25) false (.c (.fn 66 [] [])) [.t 23,.t 24])<|
 Zg 18 false (.bin 26 .gtr false (.t 25) (.c (Zz 0)))<|
 Yk 27 18 26<|
 Ye 5 27))<| .rg (fR 15 6))<|Zr (Ye 28 5)<| .cond (.t 28) (.rg (Ya 29 3 4<|
 Ys 31 1 3 30 8 29 3)) .skip)<| .rg (fR 9 4))<|Zr (YZ 33 3 2) .ret⟩
theorem anp:Qe Tryz.prog Tryz.f20=some c20:=by kernel_rfl
def apL:ay:=⟨88,[.t 6],Zr (Zo (.box 4 3 51 (.t 1))<|
 YE 6)<|Zr (Yp 10 0<|
 Zm 7 11 .nil)<| .seq (.block 0<| .loop<| .seq (Zr (YB 12 7 4<|
 Zg 14 true (.gI 19 3 (.t 18))<|
 Zg 14 true (.ld 20 1 false (.t 19))<|
 Zg 14 true (.mv 21 (.t 2))<|
 Zg 14 true (.call (some 22) false (.c (.fn 65 [] [])) [.t 20,.t 21,.c (Zz 0)])<|
 Zg 14 true (.bin 23 .lss false (.t 22) (.c (Zz 0)))<|
 Yq 24 14 23 .nil)<| .cond (.t 24) .skip (.exit 0))<| .block 1<| .rg (rM 25 7))<|Zr (YE 8)<| .seq (Zr (YB 27 7 4<|
 Zg 29 true (.gI 34 3 (.t 33))<|
 Zg 29 true (.ld 35 1 false (.t 34))<|
 Zg 29 true (.mv 36 (.t 2))<|
 Zg 29 true (.call (some 37) false (.c (.fn 65 [] [])) [.t 35,.t 36,.c (Zz 0)])<|
 Zg 29 true (.bin 38 .eql false (.t 37) (.c (Zz 0)))<|
 Yq 39 29 38 .nil)<| .cond (.t 39) (Zr (YY 40 8 0 7<|
 Zk 43 .sub 42 1<|
 uj 44 4 41 43<|
 mo 45 4 80 95 40 44<|
 Ye 8 45)<| .seq (Zr (Ya 46 0 7<|
 Zk 48 .sub 47 1<|
 Zi 49 4 46 48<|
 YP 50 49 3<|
 Zh 52 3 4<|
 .br (Yr 53 87 51 52<|
 fu 9 53 .nil) (Yc 9<|
 jD 53 87 51 52 3 9))<|Zr (dn 54 3 9 27<|
 iT 56 55)<| .cond (.t 56) (.rg (ku 57 8 9<|
 Zm 59 2<|
 YG 60 58 59<|
 Ys 61 4 95 60 80 57 8)) .skip)<|Zr (YY 63 8 0 7<|
 Zo (.sl 66 4 (.t 64) (some (.t 65)) none none)<|
 mo 67 4 80 95 63 66<|
 Ye 6 67) .ret) .skip)<|Zr (YY 68 8 0 7<|
 uj 71 4 69 70<|
 Zo (.app 72 4 80 95 (.t 68) (.t 71))<|
 Ye 8 72)<| .seq (Zr (dn 73 3 4 27<|
 iT 75 74)<| .cond (.t 75) (.rg (ku 76 8 4<|
 Zq 78 false 89 [.t 77]<|
 Zm 79 2<|
 YG 80 78 79<|
 Ys 81 4 95 80 80 76 8)) .skip)<|Zr (YY 83 8 0 7<|
 Zo (.sl 86 4 (.t 84) (some (.t 85)) none none)<|
 Zo (.app 87 4 80 95 (.t 83) (.t 86))<|
 Ye 6 87) .ret⟩
theorem aka:Qe Tryz.prog Tryz.f133=some apL:=by kernel_rfl
def c86:ay:=⟨22,[.cell 4 3 true],Zr (jT 2 51 0<|
 Yc 4 .nil)<| .seq (Zr (Zm 6 1<|
 jj 7 6 0)<| .cond (.t 7) (Zr (iA 8 50 1<|
 Zs 3 4 8 .nil) .ret) .skip)<|Zr (mY 9 3 2 2 85<|
 Zm 12 1<|
 Zk 13 .quo 12 2<|
 Yn 14 86 11 13<|
 Yc 5<|
 Zs 3 5 14 .nil)<| .seq (Zr (Zm 15 1<|
 Zk 16 .rem 15 2<|
 jj 17 16 1)<| .cond (.t 17) (.rg (mY 18 3 5 2 85<|
 Zs 3 5 20 .nil)) .skip)<|Zr (Zh 21 3 5<|
 jE 3 21) .ret⟩
theorem anq:Qe Tryz.prog Tryz.f86=some c86:=by kernel_rfl
def apM:ay:=⟨34,[.t 4],Zr (jT 3 95 1<|
 YE 4)<|Zr (YE 5)<| .seq (Zr (Yj 6 0)<| .block 0<| .loop<| .seq (Zr (Yo 7 6 0)<| .cond (.t 10) .skip (.exit 0))<| .seq (.block 1<| .rg (YY 13 5 0 6<|
 Zi 16 4 14 15<|
 YP 17 16 3<|
 YP 19 3 3<|
 nI 22 0 6<|
 Yi 27 3 3<|
 Yr 21 85 18 20<|
 Yr 29 98 26 28<|
 YG 30 21 29<|
 Ys 31 4 95 30 80 13 5))<| .rg (fR 11 6))<|Zr (YZ 33 5 4) .ret⟩
theorem akb:Qe Tryz.prog Tryz.f134=some apM:=by kernel_rfl
def aqe:ay:=⟨20,[.t 4],Zr (Yh 4)<| .seq (Zr (Yj 5 0)<| .block 0<| .loop<| .seq (Zr (Yo 6 5 0)<| .cond (.t 9) .skip (.exit 0))<| .seq (.block 1<|Zr (Ym 12 0 5<|
 Ya 16 1 5<|
 Yr 18 66 16 17<|
 jU 19 15 18)<| .cond (.t 19) (Zr (Yh 4) .ret) .skip)<| .rg (fR 10 5))<|Zr (YO 4) .ret⟩
theorem akc:Qe Tryz.prog Tryz.f165=some aqe:=by kernel_rfl
def c51:ay:=⟨19,[.cell 4 3 true],Zr (Yc 4 .nil)<|Zr (nJ 8 120<|
 Yn 12 121 9 11<|
 Zm 7 12<|
 Yd 13 7<|
 Yc 5<|
 Zs 3 5 13<|
 Zm 6 14 .nil)<| .seq (Zr (Zm 15 6<|
 iT 16 15)<| .cond (.t 16) (Zr (iA 17 50 0<|
 jE 3 17) .ret) .skip)<|Zr (Zh 18 3 5<|
 jE 3 18) .ret⟩
theorem anr:Qe Tryz.prog Tryz.f51=some c51:=by kernel_rfl
def c67:ay:=⟨19,[.t 2],Zr (YE 2)<| .seq (Zr (Zm 4 0<|
 Zk 5 .lss 4 0<|
 Yw 6 5 0<|
 Zg 6 false (.bin 8 .geq false (.t 7) (.c (Zz 64)))<|
 fQ 9 6 8)<| .cond (.t 9) (Zr (YE 2) .ret) .skip)<|Zr (Zm 10 0<|
 Zk 11 .add 10 1<|
 Zo (.mk 12 1 8 3 (Zz 0) (.t 11) (.t 11))<|
 Zm 3 12 .nil)<|Zr (Ya 13 3 0<|
 Zi 15 1 13 14<|
 Zo (.st 1 (.t 15) (.c (Zz 1))) .nil)<|Zr (iA 16 50 1<|
 Zm 17 3<|
 Zq 18 false 133 [.c .au,.t 16,.t 17]<|
 Ye 2 18) .ret⟩
theorem ans:Qe Tryz.prog Tryz.f67=some c67:=by kernel_rfl
def c52:ay:=⟨35,[.t 2],Zr (iS 1 24<|
 Yh 2)<| .seq (Zr (Yi 3 0 1<|
 Zk 5 .lss 4 0<|
 YA 6 5 0 1<|
 vA 6 40<|
 Yk 10 6 9<|
 YA 11 10 1 1<|
 Zg 11 false (.bin 14 .lss false (.t 13) (.c (Zz 0)))<|
 Yk 15 11 14<|
 YA 16 15 1 1<|
 vA 16 40<|
 Bp 20 16 19 1 0 1<|
 Zg 21 false (.gI 27 1 (.t 1))<|
 Zg 21 false (.ld 28 1 false (.t 27))<|
 Zg 21 false (.bin 29 .mul false (.t 26) (.t 28))<|
 Zg 21 false (.bin 30 .neq false (.t 24) (.t 29))<|
 fQ 31 21 30)<| .cond (.t 31) (Zr (Yh 2) .ret) .skip)<|Zr (Yi 32 2 1<|
 Yl 34 53 33<|
 Ye 2 34) .ret⟩
theorem ant:Qe Tryz.prog Tryz.f52=some c52:=by kernel_rfl
def c53:ay:=⟨15,[.t 2],Zr (Yh 2)<| .seq (Zr (YV 5 0)<| .block 0<| .loop<|Zr (Yz 8 7 6)<| .seq (.cond (.t 8) .skip (.exit 0))<| .seq (.block 1<|Zr (Yx 9 3 5 7<|
 Yc 4<|
 Zs 3 4 10 .nil)<|Zr (dn 11 3 4 122<|
 Zu 13 12 .nil)<| .cond (.t 13) (Zr (Yh 2) .ret) .skip)<| .rg (YC 14 7 7))<|Zr (YO 2) .ret⟩
theorem anu:Qe Tryz.prog Tryz.f53=some c53:=by kernel_rfl
def ap4:ay:=⟨46,[.t 4],Zr (YU 2 24<|
 Yh 4)<| .seq (Zr (ff 6 0 2 0 3<|
 Zb 10 .neq 7 9<|
 YA 11 10 1 2<|
 Zg 11 false (.gI 14 1 (.t 3))<|
 Zg 11 false (.ld 15 1 false (.t 14))<|
 Zg 11 false (.bin 16 .neq false (.t 13) (.t 15))<|
 Bp 17 11 16 2 2 3<|
 Zg 18 false (.len 24 (.t 23))<|
 Zg 18 false (.bin 25 .neq false (.t 21) (.t 24))<|
 fQ 26 18 25)<| .cond (.t 26) (Zr (Yh 4) .ret) .skip)<| .seq (Zr (Yi 27 2 2<|
 Zn 29 28<|
 Yj 30 0)<| .block 0<| .loop<|Zr (Yz 31 30 29)<| .seq (.cond (.t 31) .skip (.exit 0))<| .seq (.block 1<|Zr (YZ 32 30 5)<|Zr (Yi 33 2 2<|
 Zm 35 5<|
 Yx 36 3 34 35<|
 Yi 38 2 3<|
 Zm 40 5<|
 Yx 41 3 39 40<|
 Yn 43 179 37 42<|
 Zu 44 43 .nil)<| .cond (.t 44) (Zr (Yh 4) .ret) .skip)<| .rg (Yu 45 30 30))<|Zr (YO 4) .ret⟩
theorem akd:Qe Tryz.prog Tryz.f154=some ap4:=by kernel_rfl
def WM:ay:=⟨18,[.t 2],Zr (YE 2)<|Zr (Zm 5 0<|
 xd 6 5<|
 Zm 3 6 .nil)<| .seq (Zr (YV 7 3)<| .block 0<| .loop<|Zr (Yz 10 9 8)<| .seq (.cond (.t 10) .skip (.exit 0))<| .seq (.block 1<|Zr (jC 11 9 4)<| .rg (Ya 12 3 4<|
 iA 14 61 0<|
 YS 15 3 12 13 14))<| .rg (YC 16 9 9))<|Zr (YZ 17 3 2) .ret⟩
theorem Ts:Qe Tryz.prog Tryz.f56=some WM:=by kernel_rfl
def c57:ay:=⟨35,[.t 2],Zr (iS 1 24<|
 Yh 2)<| .seq (Zr (Yi 3 0 1<|
 Zk 5 .lss 4 0<|
 YA 6 5 0 1<|
 vA 6 40<|
 Yk 10 6 9<|
 YA 11 10 1 1<|
 Zg 11 false (.bin 14 .lss false (.t 13) (.c (Zz 0)))<|
 Yk 15 11 14<|
 YA 16 15 1 1<|
 vA 16 40<|
 Bp 20 16 19 1 0 1<|
 Zg 21 false (.gI 27 1 (.t 1))<|
 Zg 21 false (.ld 28 1 false (.t 27))<|
 Zg 21 false (.bin 29 .mul false (.t 26) (.t 28))<|
 Zg 21 false (.bin 30 .neq false (.t 24) (.t 29))<|
 fQ 31 21 30)<| .cond (.t 31) (Zr (Yh 2) .ret) .skip)<|Zr (Yi 32 2 1<|
 Yl 34 58 33<|
 Ye 2 34) .ret⟩
theorem anv:Qe Tryz.prog Tryz.f57=some c57:=by kernel_rfl
def c58:ay:=⟨16,[.t 2],Zr (Yh 2)<| .seq (Zr (Yj 3 0)<| .block 0<| .loop<| .seq (Zr (Yo 4 3 0)<| .cond (.t 7) .skip (.exit 0))<| .seq (.block 1<|Zr (iB 10 0 3 3<|
 Zq 14 false 25 [.t 13]<|
 Zu 15 14 .nil)<| .cond (.t 15) (Zr (Yh 2) .ret) .skip)<| .rg (fR 8 3))<|Zr (YO 2) .ret⟩
theorem anw:Qe Tryz.prog Tryz.f58=some c58:=by kernel_rfl
def aqR:ay:=⟨17,[.cell 6 3 true],Zr (Zo (.box 3 3 24 (.t 0))<|
 Yc 6 .nil)<|Zr (vz 7 3 1 1 3 2<|
 dx 14 12 13<|
 Yx 15 3 8 14<|
 Zs 3 6 16 .nil) .ret⟩
theorem ake:Qe Tryz.prog Tryz.f201=some aqR:=by kernel_rfl
def ap8:ay:=⟨31,[.t 4],Zr (YU 2 24<|
 Yh 4)<| .seq (Zr (ff 5 0 2 0 3<|
 Zb 9 .neq 6 8<|
 YA 10 9 1 2<|
 Zg 10 false (.gI 13 1 (.t 3))<|
 Zg 10 false (.ld 14 1 false (.t 13))<|
 Zg 10 false (.bin 15 .neq false (.t 12) (.t 14))<|
 Bp 16 10 15 2 2 3<|
 Zg 17 false (.len 23 (.t 22))<|
 Zg 17 false (.bin 24 .neq false (.t 20) (.t 23))<|
 fQ 25 17 24)<| .cond (.t 25) (Zr (Yh 4) .ret) .skip)<|Zr (ff 26 2 2 2 3<|
 Yn 30 17 27 29<|
 Ye 4 30) .ret⟩
theorem akf:Qe Tryz.prog Tryz.f159=some ap8:=by kernel_rfl
def c17:ay:=⟨27,[.t 4],Zr (Yh 4)<| .seq (Zr (kR 6<|
 jU 10 7 9)<| .cond (.t 10) (Zr (Yh 4) .ret) .skip)<| .seq (Zr (Yj 5 0)<| .block 0<| .loop<| .seq (Zr (Yo 11 5 0)<| .cond (.t 14) .skip (.exit 0))<| .seq (.block 1<|Zr (iB 17 0 5 3<|
 iB 21 1 5 3<|
 Yn 25 49 20 24<|
 Zu 26 25 .nil)<| .cond (.t 26) (Zr (Yh 4) .ret) .skip)<| .rg (fR 15 5))<|Zr (YO 4) .ret⟩
theorem anx:Qe Tryz.prog Tryz.f17=some c17:=by kernel_rfl
def apC:ay:=⟨17,[.t 4],Zr (jT 2 24 0<|
 YE 4)<|Zr (vz 5 2 1 1 2 1<|
 Zk 12 .add 11 1<|
 Yi 13 1 2<|
 Zb 15 .mul 12 14<|
 Zo (.sl 16 3 (.t 6) (some (.t 10)) (some (.t 15)) none)<|
 Zm 4 16 .nil) .ret⟩
theorem akg:Qe Tryz.prog Tryz.f124=some apC:=by kernel_rfl
def apE:ay:=⟨30,[.t 6],Zr (Zo (.box 5 3 51 (.t 2))<|
 YE 6)<|Zr (YE 7)<| .seq (Zr (Yj 8 0)<| .block 0<| .loop<| .seq (Zr (Yo 9 8 0)<| .cond (.t 12) .skip (.exit 0))<| .seq (.block 1<| .rg (YY 15 7 0 8<|
 Yx 18 3 16 17<|
 Zh 20 3 5<|
 iB 21 1 8 3<|
 Yr 25 85 20 24<|
 Yr 26 145 19 25<|
 Ys 27 3 51 26 56 15 7))<| .rg (fR 13 8))<|Zr (YZ 29 7 6) .ret⟩
theorem akh:Qe Tryz.prog Tryz.f126=some apE:=by kernel_rfl
def apD:ay:=⟨29,[.t 4],Zr (Zo (.box 3 3 51 (.t 1))<|
 YE 4)<|Zr (YE 5)<| .seq (Zr (Yj 6 0)<| .block 0<| .loop<| .seq (Zr (Yo 9 6 0)<| .cond (.t 12) .skip (.exit 0))<| .seq (.block 1<|Zr (iB 16 0 6 3<|
 Zh 20 3 3<|
 .br (Yr 21 143 19 20<|
 Zm 15 21<|
 Yd 22 15<|
 fu 7 22<|
 Ye 8 23) (Yc 7<|
 ud 21 143 19 20 15 7 8))<| .rg (ku 24 5 7<|
 Ys 26 3 51 25 56 24 5))<| .rg (fR 13 6))<|Zr (YZ 28 5 4) .ret⟩
theorem aki:Qe Tryz.prog Tryz.f125=some apD:=by kernel_rfl
def ap9:ay:=⟨26,[.t 2],Zr (iS 1 24<|
 Yh 2)<| .seq (Zr (Yj 3 0)<| .block 0<| .loop<| .seq (Zr (Zm 5 3<|
 Yi 6 0 1<|
 Yz 8 5 7)<| .cond (.t 8) .skip (.exit 0))<| .seq (.block 1<|Zr (Yj 4 0)<| .block 2<| .loop<| .seq (Zr (Ya 11 4 3<|
 Yz 13 11 12)<| .cond (.t 13) .skip (.exit 2))<| .seq (.block 3<|Zr (Zh 16 3 1<|
 Ya 17 3 4<|
 Zh 20 3 1<|
 Ya 21 4 3<|
 Zq 19 true 201 [.t 16,.t 17,.t 18]<|
 Zq 23 true 201 [.t 20,.t 21,.t 22]<|
 Yr 24 49 19 23<|
 Zu 25 24 .nil)<| .cond (.t 25) (Zr (Yh 2) .ret) .skip)<| .rg (fR 14 4))<| .rg (fR 9 3))<|Zr (YO 2) .ret⟩
theorem akj:Qe Tryz.prog Tryz.f160=some ap9:=by kernel_rfl
def aqb:ay:=⟨12,[.t 6],Zr (Zo (.box 5 3 51 (.t 2))<|
 YE 6)<|Zr (Ya 7 0 1<|
 dn 9 3 5 63<|
 Zq 11 false 126 [.t 7,.t 8,.t 10]<|
 Zm 6 11 .nil) .ret⟩
theorem akk:Qe Tryz.prog Tryz.f162=some aqb:=by kernel_rfl
def xl:ay:=⟨54,[.t 0],Zr (Yh 0)<|Zr (Zo (.bs 9 1 3 [.c (Zz 0),.c (Zz 1),.c (Zz 1),.c (Zz 0)])<|
 Yl 10 46 9<|
 Zq 11 false 45 [.c (Zz 2),.c (Zz 2),.t 10]<|
 gy 8<|
 Zo (.alloc 1 3 24 (.agg [Zz 0,Zz 0,.au]))<|
 Zs 3 1 12<|
 Zm 2 13 .nil)<|Zr (dn 15 3 1 47<|
 Zm 14 16<|
 Yd 17 14<|
 Zo (.alloc 3 3 51 (.agg [.bool false,.au,.au]))<|
 Zs 3 3 17<|
 Ye 4 18)<|Zr (dn 20 3 1 48<|
 yV 19 6 5 7)<|Zr (Zm 25 2<|
 Zk 26 .eql 25 0<|
 YN 27 26 4<|
 Zg 27 true (.bin 29 .eql false (.t 28) (.c (Zz 0)))<|
 Yq 30 27 29<|
 YN 31 30 7<|
 Zg 31 true (.bin 33 .eql false (.t 32) (.c (Zz 0)))<|
 Yq 34 31 33<|
 Zm 35 34<|
 Zg 35 true (.ld 36 3 true (.t 3))<|
 Zg 35 true (.call (some 37) true (.c (.fn 50 [] [])) [.c (Zz (-1))])<|
 Zg 35 true (.call (some 38) true (.c (.fn 49 [] [])) [.t 36,.t 37])<|
 Yq 39 35 38<|
 YN 40 39 5<|
 Zg 40 true (.call (some 42) true (.c (.fn 51 [] [])) [.c (Zz 1),.c (Zz 2)])<|
 Zg 40 true (.call (some 43) true (.c (.fn 51 [] [])) [.c (Zz (-1)),.c (Zz 2)])<|
 Zg 40 true (.bs 44 3 51 [.t 42,.t 43])<|
 Zg 40 true (.call (some 45) true (.c (.fn 17 [] [])) [.t 41,.t 44])<|
 Yq 46 40 45<|
 Zm 47 46<|
 YT 47 2 6<|
 Zg 47 true (.bs 50 1 3 [.c (Zz 1),.c (Zz 1),.c (Zz (-1)),.c (Zz 1)])<|
 Zg 47 true (.call (some 51) true (.c (.fn 46 [] [])) [.t 50])<|
 Zg 47 true (.call (some 52) true (.c (.fn 17 [] [])) [.t 49,.t 51])<|
 Yq 53 47 52<|
 Ye 0 53) .ret⟩
def c3:ay:=⟨84,[.t 4],Zr (jT 2 24 0<|
 Yh 4)<| .seq (Zr (Zh 14 3 2<|
 Zo (.bs 15 3 24 [.t 14])<|
 Yl 16 10 15<|
 Zu 17 16<|
 Yw 18 17 1<|
 Zg 18 false (.call (some 20) false (.c (.fn 11 [] [])) [.t 19,.c (Zz 8)])<|
 Zg 18 false (.un 21 .not (.t 20))<|
 fQ 22 18 21)<| .cond (.t 22) (Zr (Zq 23 false 12 []<|
 Ye 4 23) .ret) .skip)<|Zr (Zh 25 3 2<|
 Zm 26 1<|
 Yn 27 13 25 26<|
 gy 24<|
 dp 5 28 29)<|Zr (Zh 31 3 2<|
 Zm 32 1<|
 Yn 33 14 31 32<|
 gy 30<|
 dp 7 34 35)<|Zr (dn 37 3 2 15<|
 Zm 36 38<|
 Yd 39 36<|
 dp 9 39 40)<|Zr (dn 42 3 2 16<|
 Zm 41 43<|
 Yd 44 41<|
 dp 11 44 45)<| .seq (Zr (YK 46 5 7 17<|
 Zu 49 48<|
 qM 50 49 6 8<|
 Zg 50 false (.bin 53 .neq false (.t 51) (.t 52))<|
 Yk 54 50 53<|
 sR 55 54 9<|
 Zg 55 false (.mv 58 (.t 11))<|
 Zg 55 false (.len 59 (.t 58))<|
 Zg 55 false (.bin 60 .neq false (.t 57) (.t 59))<|
 Yk 61 55 60<|
 qM 62 61 10 12<|
 Zg 62 false (.bin 65 .neq false (.t 63) (.t 64))<|
 fQ 66 62 65)<| .cond (.t 66) (Zr (Yh 4) .ret) .skip)<| .seq (Zr (Yj 13 0)<| .block 0<| .loop<| .seq (Zr (Yo 67 13 9)<| .cond (.t 70) .skip (.exit 0))<| .seq (.block 1<|Zr (Ym 73 9 13<|
 Ym 77 11 13<|
 Yn 81 17 76 80<|
 Zu 82 81 .nil)<| .cond (.t 82) (Zr (Yh 4) .ret) .skip)<| .rg (YX 71 13 13))<|Zr (Zq 83 false 12 []<|
 Ye 4 83) .ret⟩
def MG:ay:=⟨38,[.t 2],Zr (iS 1 24<|
 YE 2)<|Zr (Yi 5 0 1<|
 Zo (.mk 7 1 24 22 .au (.t 6) (.t 6))<|
 .wk<| .wk<|Zm 3 7 .nil)<| .seq (Zr (Yi 8 0 1<|
 Yj 10 0)<| .block 0<| .loop<|Zr (Yz 11 10 9)<| .seq (.cond (.t 11) .skip (.exit 0))<| .seq (.block 1<|Zr (jC 12 10 4)<|Zr (Ya 13 3 4<|
 Yi 15 1 1<|
 xd 17 16<|
 .wk<|YS 18 1 13 14 17)<| .rg (Ym 19 3 4<|
 vz 23 1 4 1 1 4<|
 Zk 30 .add 29 1<|
 Yi 31 1 1<|
 Zb 33 .mul 30 32<|
 Zo (.sl 34 3 (.t 24) (some (.t 28)) (some (.t 33)) none)<|
 Zo (.vD 35 3 (.t 22) (.t 34)) .nil))<| .rg (Yu 36 10 10))<|Zr (YZ 37 3 2) .ret⟩
theorem Tt:Qe Tryz.prog Tryz.f54=some MG.strip:=by kernel_rfl
def MC:ay:=⟨30,[],Zr (Zo (.box 5 3 51 (.t 2)) .nil)<| .seq (Zr (dn 7 3 5 38<|
 jj 9 8 0)<| .cond (.t 9) .ret .skip)<|Zr (YV 10 0)<| .block 0<| .loop<|Zr (Yz 13 12 11)<| .seq (.cond (.t 13) .skip (.exit 0))<| .seq (.block 1<|Zr (jC 14 12 6)<| .rg (Ya 15 0 6<|
 iB 17 0 6 3<|
 Zh 21 3 5<|
 iB 22 1 6 3<|
 Yr 26 105 21 25<|
 Yr 27 181 20 26<|
 YS 28 3 15 16 27))<| .rg (Yu 29 12 12)⟩
theorem SD:Qe Tryz.prog Tryz.f117=some MC.strip:=by kernel_rfl
def MD:ay:=⟨33,[.t 6],Zr (Zo (.box 5 3 51 (.t 2))<|
 YE 6)<|Zr (Yp 9 0<|
 xd 11 10<|
 Zm 7 11 .nil)<| .seq (Zr (YV 12 0)<| .block 0<| .loop<|Zr (Yz 15 14 13)<| .seq (.cond (.t 15) .skip (.exit 0))<| .seq (.block 1<|Zr (jC 16 14 8)<| .rg (Ya 17 7 8<|
 iB 19 0 8 3<|
 Zh 23 3 5<|
 iB 24 1 8 3<|
 Yr 28 105 23 27<|
 Yr 29 107 22 28<|
 YS 30 3 17 18 29))<| .rg (Yu 31 14 14))<|Zr (YZ 32 7 6) .ret⟩
theorem SE:Qe Tryz.prog Tryz.f180=some MD.strip:=by kernel_rfl
def MA:ay:=⟨32,[.t 2],Zr (Yh 2)<| .seq (Zr (YV 5 0)<| .block 0<| .loop<|Zr (Yz 8 7 6)<| .seq (.cond (.t 8) .skip (.exit 0))<| .seq (.block 1<|Zr (jC 9 7 3)<|Zr (Zm 10 3<|
 Yj 11 0)<| .block 2<| .loop<|Zr (Yz 12 11 10)<| .seq (.cond (.t 12) .skip (.exit 2))<| .seq (.block 3<|Zr (jC 13 11 4)<|Zr (rN 14 0 3 4<|
 rN 21 0 4 3<|
 Yn 28 179 20 27<|
 Zu 29 28 .nil)<| .cond (.t 29) (Zr (Yh 2) .ret) .skip)<| .rg (Yu 30 11 11))<| .rg (Yu 31 7 7))<|Zr (YO 2) .ret⟩
theorem SF:Qe Tryz.prog Tryz.f115=some MA.strip:=by kernel_rfl
def Wz:ay:=⟨102,[.t 2],Zr (YE 2)<|Zr (iA 13 61 1<|
 Zo (.alloc 3 3 51 (.agg [.bool false,.au,.au]))<|
 Zs 3 3 13 .nil)<| .seq (Zr (YV 14 0)<| .block 0<| .loop<|Zr (Yz 17 16 15)<| .seq (.cond (.t 17) .skip (.exit 0))<| .seq (.block 1<|Zr (YZ 18 16 4)<|Zr (rN 19 0 4 4<|
 fu 5 25 .nil)<|Zr (Zh 26 3 5<|
 Zq 27 false 38 [.t 26]<|
 iT 28 27)<| .cond (.t 28) (Zr (mY 30 3 3 5 123<|
 gy 29<|
 fu 6 33<|
 Ye 7 34)<|Zr (Zh 35 3 5<|
 Yp 36 0<|
 Ym 39 0 4<|
 Zh 43 3 6<|
 dQ 38 56 37<|
 Zq 44 true 180 [.t 38,.t 42,.t 43]<|
 YG 45 35 44<|
 Zo (.bs 46 4 133 [.t 45])<|
 Ye 2 46) .ret) .skip)<| .rg (Yu 47 16 16))<| .seq (Zr (YV 48 0)<| .block 2<| .loop<|Zr (Yz 51 50 49)<| .seq (.cond (.t 51) .skip (.exit 2))<| .seq (.block 3<|Zr (YZ 52 50 8)<|Zr (Ym 53 0 8<|
 Zn 57 56<|
 Yj 58 0)<| .block 4<| .loop<|Zr (Yz 59 58 57)<| .seq (.cond (.t 59) .skip (.exit 4))<| .seq (.block 5<|Zr (Zm 60 58<|
 Yx 61 3 56 58<|
 Yc 10<|
 Zm 9 60<|
 Zs 3 10 62 .nil)<|Zr (dn 63 3 10 38<|
 iT 65 64)<| .cond (.t 65) (Zr (Zh 67 3 3<|
 Zh 68 3 10<|
 Zh 69 3 10<|
 .br (Yr 70 107 68 69<|
 .br (Yr 71 123 67 70<|
 Zm 66 71<|
 Yd 72 66<|
 fu 11 72<|
 Ye 12 73) (Yc 11<|
 ud 71 123 67 70 66 11 12)) (Yc 11<|
 Yr 70 107 68 69<|
 ud 71 123 67 70 66 11 12))<|Zr (Zh 74 3 11<|
 Ym 75 0 8<|
 Ym 79 0 9<|
 Zh 83 3 3<|
 Zh 86 3 11<|
 Ym 88 0 8<|
 Ym 92 0 9<|
 Zq 84 true 180 [.t 78,.t 82,.t 83]<|
 YG 85 74 84<|
 dQ 87 62 86<|
 Zq 96 true 61 [.c (Zz (-1))]<|
 Zq 97 true 180 [.t 91,.t 95,.t 96]<|
 YG 98 87 97<|
 Zo (.bs 99 4 133 [.t 85,.t 98])<|
 Ye 2 99) .ret) .skip)<| .rg (Yu 100 58 58))<| .rg (Yu 101 50 50))<|Zr (YE 2) .ret⟩
theorem akl:Qe Tryz.prog Tryz.f116=some Wz.strip:=by kernel_rfl
def WL:ay:=⟨137,[.cell 4 5 true],Zr (Zo (.alloc 4 5 87 (.agg [.au,.au,.bool false,.au,.au])) .nil)<|Zr (Zm 12 0<|
 iA 13 61 1<|
 Zo (.eB 14 [.au,.au,.bool false,.au,.au] [(0,1,.t 12),(2,3,.t 13)])<|
 Zo (.alloc 5 5 87 (.agg [.au,.au,.bool false,.au,.au]))<|
 .wk<| .wk<|Zs 5 5 14 .nil)<| .seq (Zr (Zm 15 1<|
 .wk<|Yj 16 0)<| .block 0<| .loop<|Zr (Yz 17 16 15)<| .seq (.cond (.t 17) .skip (.exit 0))<| .seq (.block 1<|Zr (jC 18 16 6)<|Zr (Yi 19 1 5<|
 Zn 21 20<|
 Ye 7 21)<|Zr (YZ 22 7 8)<| .seq (.block 2<| .loop<| .seq (Zr (Ya 23 8 0<|
 DR 25 24 23 0 8 6<|
 Zg 27 true (.idx 33 3 (.t 31) (.t 32))<|
 Zg 27 true (.ld 34 3 true (.t 33))<|
 Zg 27 true (.call (some 35) false (.c (.fn 38 [] [])) [.t 34])<|
 Zg 27 true (.bin 36 .eql false (.t 35) (.c (Zz 0)))<|
 Yq 37 27 36 .nil)<| .cond (.t 37) .skip (.exit 2))<| .block 3<| .rg (YX 38 8 8))<| .seq (Zr (Ya 40 8 0<|
 Zn 42 41<|
 Zb 43 .eql 40 42 .nil)<| .cond (.t 43) (.exit 1) .skip)<| .seq (Zr (Ya 44 8 7<|
 jU 46 44 45)<| .cond (.t 46) (Zr (Ya 47 0 8<|
 Ya 49 0 7<|
 Ym 51 0 7<|
 Ym 55 0 8<|
 Zi 59 1 47 48<|
 Zs 1 59 54<|
 YS 60 1 49 50 58)<| .rg (Zf 61 2 5<|
 Zh 62 3 61<|
 Yl 63 62 62<|
 Zf 64 2 5<|
 Zs 3 64 63 .nil)) .skip)<|Zr (rN 65 0 7 6<|
 fu 9 71 .nil)<|Zr (Zf 72 2 5<|
 mY 73 3 72 9 105<|
 Zf 76 2 5<|
 Zs 3 76 75 .nil)<| .seq (Zr (Ym 77 0 7<|
 Zn 81 80<|
 Yj 82 0)<| .block 4<| .loop<|Zr (Yz 83 82 81)<| .seq (.cond (.t 83) .skip (.exit 4))<| .seq (.block 5<|Zr (YZ 84 82 10)<| .rg (Ym 86 0 7<|
 YY 90 10 0 7<|
 YM 93 91 92<|
 Zm 95 10<|
 Yx 96 3 94 95<|
 Zh 98 3 9<|
 Yr 99 123 97 98<|
 Zm 85 99<|
 Yd 100 85<|
 YS 102 3 89 90 100))<| .rg (Yu 103 82 82))<| .seq (Zr (YV 104 0)<| .block 6<| .loop<|Zr (Yz 107 106 105)<| .seq (.cond (.t 107) .skip (.exit 6))<| .seq (.block 7<|Zr (YZ 108 106 11)<|Zr (Ya 109 11 7<|
 jU 111 109 110)<| .cond (.t 111) (.rg (Ym 112 0 11<|
 Ym 116 0 7<|
 rN 120 0 11 6<|
 Zq 127 false 117 [.t 115,.t 119,.t 126] .nil)) .skip)<| .rg (Yu 128 106 106))<| .rg (Yi 129 1 5<|
 Zm 131 6<|
 Zo (.bs 132 1 3 [.t 131])<|
 mo 133 1 8 3 130 132<|
 Zf 134 1 5<|
 Zs 1 134 133 .nil))<| .rg (Yu 135 16 16))<|Zr (Zh 136 5 5<|
 .wk<|Zs 5 4 136 .nil) .ret⟩
theorem anz:Qe Tryz.prog Tryz.f55=some WL.strip:=by kernel_rfl
def c34:ay:=⟨14,[.t 2],Zr (iS 1 51<|
 Yh 2)<|Zr (Zf 3 0 1<|
 Yi 4 1 3<|
 Zn 6 5<|
 Zk 7 .leq 6 2<|
 Zm 8 7<|
 YT 8 2 1<|
 Zg 8 true (.len 11 (.t 10))<|
 Zg 8 true (.bin 12 .leq false (.t 11) (.c (Zz 2)))<|
 Yq 13 8 12<|
 Zm 2 13 .nil) .ret⟩
theorem anA:Qe Tryz.prog Tryz.f34=some c34:=by kernel_rfl
def c18:ay:=⟨29,[.t 2],Zr (Yh 2)<| .seq (Zr (Yp 4 0<|
 Zk 6 .gtr 5 20 .nil)<| .cond (.t 6) (Zr (Yh 2) .ret) .skip)<| .seq (Zr (Yj 3 0)<| .block 0<| .loop<| .seq (Zr (Yo 7 3 0)<| .cond (.t 10) .skip (.exit 0))<| .seq (.block 1<|Zr (nI 13 0 3<|
 Zn 18 17<|
 Zk 19 .gtr 18 70<|
 yW 20 19 3 0<|
 Zg 20 false (.ld 25 3 true (.t 24))<|
 Zg 20 false (.call (some 26) false (.c (.fn 34 [] [])) [.t 25])<|
 Zg 20 false (.un 27 .not (.t 26))<|
 fQ 28 20 27)<| .cond (.t 28) (Zr (Yh 2) .ret) .skip)<| .rg (fR 11 3))<|Zr (YO 2) .ret⟩
theorem anB:Qe Tryz.prog Tryz.f18=some c18:=by kernel_rfl
def c99:ay:=⟨17,[.t 2],Zr (Zo (.box 1 4 65 (.t 0))<|
 Yj 2 0)<| .seq (Zr (Zf 3 0 1<|
 dn 4 3 3 122<|
 Zu 6 5<|
 YA 7 6 3 1<|
 Zg 7 false (.call (some 10) false (.c (.fn 72 [] [])) [.t 9])<|
 Zg 7 false (.un 11 .not (.t 10))<|
 fQ 12 7 11)<| .cond (.t 12) (Zr (Yj 2 1) .ret) .skip)<| .seq (Zr (YP 13 1 3<|
 Yl 15 38 14<|
 Zk 16 .leq 15 0 .nil)<| .cond (.t 16) (Zr (Yj 2 2) .ret) .skip)<|Zr (Yj 2 0) .ret⟩
theorem anC:Qe Tryz.prog Tryz.f99=some c99:=by kernel_rfl
def aql:ay:=⟨10,[.t 2],Zr (Yh 2)<|Zr (Yp 3 0<|
 Zk 5 .gtr 4 4000<|
 Yw 6 5 0<|
 Zg 6 false (.call (some 8) false (.c (.fn 208 [] [])) [.t 7,.c (.fn 209 [] [])])<|
 Yk 9 6 8<|
 Zm 2 9 .nil) .ret⟩
theorem akm:Qe Tryz.prog Tryz.f171=some aql:=by kernel_rfl
def aqZ:ay:=⟨6,[.t 2],Zr (Zo (.box 1 4 95 (.t 0))<|
 Yh 2)<|Zr (Zf 3 3 1<|
 Zl 4 1 3<|
 Zq 5 false 210 [.t 4,.c (.fn 211 [] [])]<|
 Zm 2 5 .nil) .ret⟩
theorem akn:Qe Tryz.prog Tryz.f209=some aqZ:=by kernel_rfl
def aq2:ay:=⟨5,[.t 2],Zr (Yh 2)<|Zr (Zm 3 0<|
 Zk 4 .gtr 3 1048576<|
 Zm 2 4 .nil) .ret⟩
theorem ajO:Qe Tryz.prog Tryz.f211=some aq2:=by kernel_rfl
def api:ay:=⟨12,[.t 2,.t 3],Zr (Zo (.box 1 4 65 (.t 0))<|
 eV 2 0)<|Zr (ff 4 3 1 3 1<|
 YP 9 1 3<|
 Yr 8 103 5 7<|
 Yr 11 102 8 10<|
 Zm 2 11<|
 Yj 3 0) .ret⟩
theorem ajP:Qe Tryz.prog Tryz.f101=some api:=by kernel_rfl
def aph:ay:=⟨33,[.t 4,.t 5],Zr (eV 4 0)<|Zr (YE 6)<| .seq (Zr (YV 11 0)<| .block 0<| .loop<|Zr (Yz 14 13 12)<| .seq (.cond (.t 14) .skip (.exit 0))<| .seq (.block 1<|Zr (YH 15 11 13 8 65)<|Zr (Zm 18 1<|
 Zh 19 4 8<|
 Zo (.call (some 20) false (.t 18) [.t 19])<|
 gy 17<|
 Zm 9 21<|
 Zm 10 22 .nil)<| .seq (Zr (Zm 23 10<|
 iT 24 23)<| .cond (.t 24) (Zr (Zm 25 10<|
 Yf 4<|
 Ye 5 25) .ret) .skip)<|Zr (YK 26 6 9 170<|
 Ye 6 28)<|Zr (YD 29 6 171 .nil)<| .cond (.t 30) (Zr (eV 4 4) .ret) .skip)<| .rg (Yu 31 13 13))<|Zr (Zm 32 6<|
 Zm 4 32<|
 Yj 5 0) .ret⟩
theorem ajQ:Qe Tryz.prog Tryz.f100=some aph:=by kernel_rfl
def c36:ay:=⟨23,[.t 2,.t 3],Zr (eV 2 0)<| .seq (Zr (YV 7 0)<| .block 0<| .loop<|Zr (Yz 10 9 8)<| .seq (.cond (.t 10) .skip (.exit 0))<| .seq (.block 1<|Zr (YH 11 7 9 5 65)<|Zr (dn 13 4 5 99<|
 Zm 6 14 .nil)<|Zr (Zm 15 6<|
 iT 16 15)<| .cond (.t 16) (Zr (Zm 17 6<|
 Yf 2<|
 Ye 3 17) .ret) .skip)<| .rg (YC 18 9 9))<|Zr (Zm 19 0<|
 Zq 20 false 100 [.t 19,.c (.fn 101 [] [])]<|
 Yd 21 20<|
 dp 2 21 22) .ret⟩
theorem anD:Qe Tryz.prog Tryz.f36=some c36:=by kernel_rfl
def c41:ay:=⟨24,[.t 4],Zr (Yj 4 0)<|Zr (YD 8 1 36<|
 Zm 7 9<|
 Yd 10 7<|
 Zm 5 10<|
 Zm 6 11 .nil)<| .seq (Zr (Zm 12 6<|
 iT 13 12)<| .cond (.t 13) (Zr (jC 14 6 4) .ret) .skip)<| .seq (Zr (YD 15 0 72<|
 Zu 17 16<|
 qM 18 17 0 5<|
 Bn 18 97)<| .cond (.t 23) (Zr (Yj 4 17) .ret) .skip)<|Zr (Yj 4 0) .ret⟩
theorem anE:Qe Tryz.prog Tryz.f41=some c41:=by kernel_rfl
def c90:ay:=⟨49,[.t 4],Zr (Zo (.box 3 3 24 (.t 1))<|
 Yj 4 0)<| .seq (Zr (dn 9 3 3 52<|
 Zu 11 10 .nil)<| .cond (.t 11) (Zr (Yj 4 1) .ret) .skip)<| .seq (Zr (YV 12 0)<| .block 0<| .loop<|Zr (Yz 15 14 13)<| .seq (.cond (.t 15) .skip (.exit 0))<| .seq (.block 1<|Zr (YM 16 12 14<|
 Zm 6 17 .nil)<|Zr (YD 18 6 135<|
 Zu 20 19 .nil)<| .cond (.t 20) (Zr (Yj 4 1) .ret) .skip)<| .rg (YC 21 14 14))<|Zr (dn 23 3 3 153<|
 Zm 22 24<|
 Yd 25 22<|
 YL 7<|
 Zs 3 7 25<|
 Ye 8 26)<| .seq (Zr (Yi 27 0 3<|
 Yp 29 0<|
 Zb 31 .neq 28 30<|
 YA 32 31 1 3<|
 Zg 32 false (.mv 35 (.t 0))<|
 Zg 32 false (.len 36 (.t 35))<|
 Zg 32 false (.bin 37 .neq false (.t 34) (.t 36))<|
 Yk 38 32 37<|
 Yw 39 38 8<|
 Zg 39 false (.bin 41 .neq false (.t 40) (.c (Zz 0)))<|
 Yk 42 39 41<|
 Zm 43 42<|
 Zg 43 false (.ld 44 3 true (.t 3))<|
 Zg 43 false (.ld 45 3 true (.t 7))<|
 Bn 43 154)<| .cond (.t 48) (Zr (Yj 4 16) .ret) .skip)<|Zr (Yj 4 0) .ret⟩
theorem anF:Qe Tryz.prog Tryz.f90=some c90:=by kernel_rfl
def c29:ay:=⟨73,[.t 4,.t 5],Zr (Zo (.box 3 3 24 (.t 1))<|
 eV 4 0)<| .seq (Zr (ku 16 0 3<|
 Yn 18 90 16 17<|
 Zm 6 18 .nil)<|Zr (Zm 19 6<|
 iT 20 19)<| .cond (.t 20) (Zr (Zm 21 6<|
 Yf 4<|
 Ye 5 21) .ret) .skip)<|Zr (dn 23 3 3 48<|
 yV 22 8 7 9)<| .seq (Zr (Zm 28 9<|
 iT 29 28)<| .cond (.t 29) (Zr (Zm 30 9<|
 Yf 4<|
 Ye 5 30) .ret) .skip)<|Zr (YE 10)<| .seq (Zr (YV 31 7)<| .block 0<| .loop<|Zr (Yz 34 33 32)<| .seq (.cond (.t 34) .skip (.exit 0))<| .seq (.block 1<|Zr (Zm 35 33<|
 Yx 36 3 31 33<|
 Yc 12<|
 Zm 11 35<|
 Zs 3 12 37 .nil)<| .seq (Zr (Zh 38 3 12<|
 Yl 39 38 38<|
 Zk 40 .lss 39 0 .nil)<| .cond (.t 40) (Zr (eV 4 17) .ret) .skip)<|Zr (YE 13)<| .seq (Zr (YV 41 0)<| .block 2<| .loop<|Zr (Yz 44 43 42)<| .seq (.cond (.t 44) .skip (.exit 2))<| .seq (.block 3<|Zr (Zm 45 43<|
 YM 46 41 43<|
 dp 14 45 47)<| .rg (Zm 48 13<|
 vz 49 8 11 1 8 14<|
 dx 56 54 55<|
 Yx 57 3 50 56<|
 Zm 59 15<|
 YG 60 58 59<|
 Ys 61 4 95 60 80 48 13))<| .rg (Yu 63 43 43))<| .rg (ku 64 10 12<|
 Zm 66 13<|
 dQ 67 91 66<|
 YG 68 65 67<|
 Zo (.bs 69 4 65 [.t 68])<|
 Zo (.app 70 4 80 65 (.t 64) (.t 69))<|
 Ye 10 70))<| .rg (Yu 71 33 33))<|Zr (Zm 72 10<|
 Zm 4 72<|
 Yj 5 0) .ret⟩
theorem anG:Qe Tryz.prog Tryz.f29=some c29:=by kernel_rfl
def c92:ay:=⟨39,[.t 4],Zr (Zo (.box 3 3 24 (.t 1))<|
 Yj 4 0)<| .seq (Zr (dn 8 3 3 57<|
 Zu 10 9 .nil)<| .cond (.t 10) (Zr (Yj 4 1) .ret) .skip)<| .seq (Zr (Yj 5 0)<| .block 0<| .loop<| .seq (Zr (Yo 11 5 0)<| .cond (.t 14) .skip (.exit 0))<| .seq (.block 1<|Zr (Ym 17 0 5<|
 Yl 21 64 20<|
 Zu 22 21 .nil)<| .cond (.t 22) (Zr (Yj 4 1) .ret) .skip)<| .rg (fR 15 5))<|Zr (dn 24 3 3 158<|
 Zm 23 25<|
 Yd 26 23<|
 YL 6<|
 Zs 3 6 26<|
 Ye 7 27)<| .seq (Zr (Yi 28 0 3<|
 Yp 30 0<|
 Zb 32 .neq 29 31<|
 Zm 33 32<|
 Zg 33 false (.ld 34 3 true (.t 3))<|
 Zg 33 false (.ld 35 3 true (.t 6))<|
 Bn 33 159)<| .cond (.t 38) (Zr (Yj 4 16) .ret) .skip)<|Zr (Yj 4 0) .ret⟩
theorem am6:Qe Tryz.prog Tryz.f92=some c92:=by kernel_rfl
def c30:ay:=⟨73,[.t 4,.t 5],Zr (Zo (.box 3 3 24 (.t 1))<|
 eV 4 0)<| .seq (Zr (ku 14 0 3<|
 Yn 16 92 14 15<|
 Zm 6 16 .nil)<|Zr (Zm 17 6<|
 iT 18 17)<| .cond (.t 18) (Zr (Zm 19 6<|
 Yf 4<|
 Ye 5 19) .ret) .skip)<|Zr (dn 21 3 3 93<|
 yV 20 8 7 9)<|Zr (YE 10)<| .seq (Zr (Yj 11 0)<| .block 0<| .loop<| .seq (Zr (Yo 26 11 7)<| .cond (.t 29) .skip (.exit 0))<| .seq (.block 1<| .seq (Zr (iB 32 7 11 3<|
 Yl 36 27 35<|
 Zk 37 .lss 36 0 .nil)<| .cond (.t 37) (Zr (eV 4 17) .ret) .skip)<|Zr (YE 12)<| .seq (Zr (Yj 13 0)<| .block 2<| .loop<| .seq (Zr (Yo 38 13 0)<| .cond (.t 41) .skip (.exit 2))<| .seq (.block 3<| .rg (Zm 44 12<|
 vz 45 8 11 1 8 13<|
 dx 52 50 51<|
 Yx 53 3 46 52<|
 Ym 55 0 13<|
 YG 59 54 58<|
 Ys 60 4 95 59 80 44 12))<| .rg (YX 42 13 13))<| .rg (YY 62 10 7 11<|
 Yx 65 3 63 64<|
 Zm 67 12<|
 dQ 68 94 67<|
 YG 69 66 68<|
 Zo (.bs 70 4 65 [.t 69])<|
 Zo (.app 71 4 80 65 (.t 62) (.t 70))<|
 Ye 10 71))<| .rg (YX 30 11 11))<|Zr (Zm 72 10<|
 Zm 4 72<|
 Yj 5 0) .ret⟩
theorem am7:Qe Tryz.prog Tryz.f30=some c30:=by kernel_rfl
def c24:ay:=⟨43,[.t 4],Zr (Yh 4)<| .seq (Zr (kR 6<|
 jU 10 7 9)<| .cond (.t 10) (Zr (Yh 4) .ret) .skip)<| .seq (Zr (Yj 5 0)<| .block 0<| .loop<| .seq (Zr (Yo 11 5 0)<| .cond (.t 14) .skip (.exit 0))<| .seq (.block 1<|Zr (sS 17 0 5<|
 sS 22 1 5<|
 Yr 27 49 21 26<|
 Zu 28 27<|
 yW 29 28 5 3<|
 Zg 29 false (.ld 34 1 false (.t 33))<|
 Zg 29 false (.mv 35 (.t 1))<|
 Zg 29 false (.mv 36 (.t 5))<|
 Zg 29 false (.idx 37 4 (.t 35) (.t 36))<|
 Zg 29 false (.gI 38 3 (.t 37))<|
 Zg 29 false (.ld 39 1 false (.t 38))<|
 Zg 29 false (.call (some 40) true (.c (.fn 40 [] [])) [.t 34,.t 39])<|
 Zg 29 false (.un 41 .not (.t 40))<|
 fQ 42 29 41)<| .cond (.t 42) (Zr (Yh 4) .ret) .skip)<| .rg (fR 15 5))<|Zr (YO 4) .ret⟩
theorem am8:Qe Tryz.prog Tryz.f24=some c24:=by kernel_rfl
theorem aeO{n m:Bool}{a d b c:List Nat}{k:Nat}(hp:Raw k n a d)(hq:Raw k m b c)(hk:k<2^36):Qd Tryz.prog 105 [PV.rr n a d,PV.rr m b c] (· =PV.rat (rv n a d*rv m b c)):=by
 refine aE Qg Tryz.func105 aiJ fun C hP=>?_;refine Sz0 ?_;refine nu hP (tF hp.la hp.ld hp.k1 hp.sa hp.sd Oz) rfl rfl rfl ?_;rintro _ ⟨n',a',d',rfl,g1,g2,g3,g4,g5,g6⟩;refine Sz0 ?_;refine nu hP (tF hq.la hq.ld hq.k1 hq.sa hq.sd Oz) rfl rfl rfl ?_;rintro _ ⟨m',b',c',rfl,e1,e2,e3,e4,e5,e6⟩;refine Sz0 ?_;have N5:nl (zv n' a').natAbs<=k:=by rw[kJ];exact Kap (cq g1) g3
 have N6:nl (zv m' b').natAbs<=k:=by rw[kJ];exact Kap (cq e1) e3
 have NV:nl (val d')<=k:=Kap (cq g2) g4;have zR:nl (val c')<=k:=Kap (cq e2) e4;have h3:=js (zv n' a') (zv m' b');have h6:=rF (val d') (val c');refine Qb hP (uO (n:=n') (m:=m') g1 e1 Oz Oz) ?_;refine Sz0 ?_;refine Qb hP (Hh g2 e2 Oz Oz) ?_;refine Sz0 ?_;refine Qb hP (GF (z:=zv n' a'*zv m' b') (Qm _) Oz (by show nl _<_;omega)) ?_;refine Sz0 ?_;refine cr ?_;refine Sz0 ?_;refine Qc ?_ rfl;rw[Qy,<-g6,<-e6];unfold rv;rw[Rat.mkRat_mul_mkRat]
theorem Cy{n:Bool}{a d:List Nat}{k:Nat}(hp:Raw k n a d)(hk:k<2^36):Qd Tryz.prog 38 [PV.rr n a d] (· = .int .i64 (fc (rv n a d))):=by refine aE Qg Tryz.func38 amS fun C hP=>?_;refine Sz0 ?_;refine nu hP (tF hp.la hp.ld hp.k1 hp.sa hp.sd Oz) rfl rfl rfl ?_;rintro _ ⟨n',a',d',rfl,g1,g2,g3,g4,g5,g6⟩;refine Sz0 ?_;refine Qb hP (Gr g1 Oz) ?_;refine Sz0 ?_;exact Qc (by rw[<-g6];unfold rv;rw[aeN g5]) rfl
theorem Py{n m:Bool}{a d b c:List Nat}{k:Nat}(hp:Raw k n a d)(hq:Raw k m b c)(hk:k<2^36):Qd Tryz.prog 204 [PV.rr n a d,PV.rr m b c] (· = .int .i64 (qI (rv n a d) (rv m b c))):=by
 refine aE Qg Tryz.func204 aiE fun C hP=>?_;refine Sz0 ?_;refine Qb hP (Cy hp hk) ?_;refine Sz0 ?_;refine Qb hP (Cy hq hk) ?_;refine Sz0 ?_;refine Qa (fun h1=>?_) (fun h1=>?_)
 ·refine Sz0 ?_;refine Qa (fun h2=>?_) (fun h2=>?_)
  ·refine Sz0 ?_;exact Qc (by rw[QX h2]) rfl
  ·refine Sz0 ?_;exact Qc (by rw[af8 Oz]) rfl
 refine Sz0 ?_;refine nu hP (tF hp.la hp.ld hp.k1 hp.sa hp.sd Oz) rfl rfl rfl ?_;rintro _ ⟨n',a',d',rfl,g1,g2,g3,g4,g5,g6⟩;refine Sz0 ?_;refine nu hP (tF hq.la hq.ld hq.k1 hq.sa hq.sd Oz) rfl rfl rfl ?_;rintro _ ⟨m',b',c',rfl,e1,e2,e3,e4,e5,e6⟩;have N5:nl (zv n' a').natAbs<=k:=by rw[kJ];exact Kap (cq g1) g3
 have N6:nl (zv m' b').natAbs<=k:=by rw[kJ];exact Kap (cq e1) e3
 have NV:nl (val d')<=k:=Kap (cq g2) g4;have zR:nl (val c')<=k:=Kap (cq e2) e4;have h3:=js (zv n' a') (val c');have h4:=js (zv m' b') (val d');rw[Kbj]at h3 h4;refine Sz0 ?_;refine Qb hP (wA _) ?_;refine Sz0 ?_;refine Qb hP (uO (n:=n') (m:=false) g1 e2 Oz Oz) ?_;refine Sz0 ?_;refine Qb hP (wA _) ?_;refine Sz0 ?_;refine Qb hP (uO (n:=m') (m:=false) e1 g2 Oz Oz) ?_;rw[wD,wD];refine Sz0 ?_;refine Qb hP (agY (x:=zv n' a'*(val c':Int)) (y:=zv m' b'*(val d':Int)) Oz Oz) ?_;refine Sz0 ?_;exact Qc (by rw[<-g6,<-e6];unfold rv;rw[Sm g5 e5]) rfl
theorem UU{n m:Bool}{a d b c:List Nat}{k:Nat}(hp:Raw k n a d)(hq:Raw k m b c)(hk:k<2^36):Qd Tryz.prog 179 [PV.rr n a d,PV.rr m b c] (· = .bool (decide (rv n a d=rv m b c))):=by refine aE Qg Tryz.func179 aiF fun C hP=>?_;refine Sz0 ?_;refine Qb hP (Py hp hq hk) ?_;refine Sz0 ?_;exact Qc (congrArg PV.bool (decide_eq_decide.2 GW)) rfl
theorem LJ{x:Int}(h1: -9223372036854775808<=x)(h2:x<=9223372036854775807):Qd Tryz.prog 127 [.int .i64 x] (· =PV.zz x):=by
 refine aE Qg Tryz.func127 ai2 fun C hP=>?_;refine Sz0 ?_;refine Qa (fun hc=>?_) (fun hc=>?_)
 ·obtain⟨y,hy⟩:∃y:Nat,x= -((y:Int)+1):=⟨(-(x+1)).toNat,by omega⟩
  have e1:IntKind.i64.wrap (x+1)= -(y:Int):=by rw[yr Oz Oz];omega
  have e2:IntKind.i64.wrap (0- -(y:Int))=(y:Int):=by rw[yr Oz Oz];omega
  have e3:IntKind.u64.wrap (y:Int)=(y:Int):=uS Oz Oz;have e4:IntKind.u64.wrap ((y+1:Nat):Int)=((y+1:Nat):Int):=uS Oz Oz;refine Sz4 e1 e2 e3 e4 ?_;refine Qb hP (Hz Oz) ?_;refine Sz0 ?_;refine Qb hP (Ao true (y+1)) ?_;refine Sz0 ?_;refine cr ?_;refine Sz0 ?_;exact Qc (congrArg PV.zz (by simp;omega)) rfl
 ·obtain⟨y,rfl⟩:∃y:Nat,x=y:=⟨x.toNat,by omega⟩
  refine Sz0 ?_;refine Qb hP (Hz Oz) ?_;refine Sz0 ?_;refine Qb hP (Ao false y) ?_;refine Sz0 ?_;refine cr ?_;refine Sz0 ?_;exact Qc (congrArg PV.zz (by simp)) rfl
theorem CO{x:Int}(h1: -9223372036854775808<=x)(h2:x<=9223372036854775807):Qd Tryz.prog 61 [.int .i64 x] (· =PV.rat (x:Rat)):=by refine aE Qg Tryz.func61 amR fun C hP=>?_;refine Sz0 ?_;refine Qb hP (LJ h1 h2) ?_;refine Sz0 ?_;refine Qb hP GZ ?_;refine Sz0 ?_;refine cr ?_;refine Sz0 ?_;exact Qc (by rw[PV.rat,Rat.num_intCast,Rat.den_intCast,PV.num,PV.num,uW];rfl) rfl
theorem Q7x{n:Bool}{a:List Nat}(ha:Qk a)(bD:a.length<2^42):Qd Tryz.prog 185 [PV.zi n a] (· = .bool (qA n a)):=by
 refine aE Qg Tryz.func185 ai0 fun C hP=>?_;refine Sz0 ?_;refine fN (fun h0=>?_) (fun h0=>?_)
 ·have:a=[]:=KaI.1 Oz;subst this;refine Sz0 ?_;cases n
  ·refine Sz0 ?_;refine Qc (congrArg PV.bool ?_) rfl;simp[qA]
  ·refine Sz0 ?_;refine Qc (congrArg PV.bool ?_) rfl;simp[qA]
 ·obtain⟨k,hk⟩:∃k,a.length=k+1:=⟨a.length-1,by omega⟩
  have aJ:a≠[]:=fun h=>by rw[h]at hk;simp at hk
  have hl:=Vi hk;have e:((k+1:Nat):Int)-1=k:=by omega
  generalize hx:a[k]'Oz=x at *
  refine Sz3 hk e hx ?_;refine fN (fun h=>?_) (fun h=>absurd Oz h);refine Sz3 hk e hx ?_;refine Qc (congrArg PV.bool ?_) rfl;unfold qA;rw[if_neg aJ,hl];exact decide_eq_decide.2 ⟨fun h h'=>h (by injection h' with h';rw[h'];rfl),fun h h'=>h (by rw[show x=0 by omega])⟩
theorem KX{n:Bool}{a d:List Nat}{k:Nat}(hp:Raw k n a d)(hk:k<2^36):Qd Tryz.prog 122 [PV.rr n a d] (· = .bool (lB n a d)):=by
 obtain⟨ha,hd,sa,sd,k1⟩:=hp;refine aE Qg Tryz.func122 ajd fun C hP=>?_;refine Sz0 ?_;refine Qb hP (Q7x ha Oz) ?_;unfold lB;refine Sz0 ?_;cases hio:qA n a
 ·refine Sz1 @Bool.not_false ?_;exact Qc (by simp) rfl
 rw[KcA];refine Sz1 @Bool.not_true ?_;refine fb (fun h0=>?_) (fun h0=>?_)
 ·have:d=[]:=KaI.1 Oz;subst this;refine Sz0 ?_;exact Qc (by simp) rfl
 obtain⟨k',bI⟩:∃k,d.length=k+1:=⟨d.length-1,by omega⟩
 have aJ:d≠[]:=fun h=>by rw[h]at bI;simp at bI
 have hl:=Vi bI;have e:((k'+1:Nat):Int)-1=k':=by omega
 generalize hx:d[k']'Oz=x at *
 refine Sz3 bI e hx ?_;refine Qa (fun h1=>?_) (fun h1=>?_)
 ·refine Sz0 ?_;refine Qc (congrArg PV.bool ?_) rfl;rw[hl,show x=0 by omega];simp
 have bG:x≠0:=by omega
 refine Sz0 ?_;refine Qb hP (Hi Oz) ?_;refine Sz0 ?_;refine fb (fun h2=>?_) (fun h2=>?_)
 ·subst h2;refine Sz0 ?_;refine Qc (congrArg PV.bool ?_) rfl;simp[val]
 ·refine Sz0 ?_;refine Qb hP (Rb ha hd Oz Oz) ?_;have hD:0<val d:=by apply Kbg;intro h0;have vL:=Db hd (by rw[hl];simpa using bG);rw[h0,gW]at vL;exact aJ vL.symm
  have xD:(ao (Nat.gcd (val a) (val d))).length<2^43:=by have h3:=iL (Kdj (val a) hD);have h4:=cq hd;unfold nl at h3 h4;omega
  refine Sz0 ?_;refine Qb hP (JI xD) ?_;refine Sz0 ?_;refine Qc (congrArg PV.bool ?_) rfl;rw[hl];simp[aJ,bG]
theorem KY{a:List Int}(hl:a.length<2^42):Qd Tryz.prog 166 [PV.mono a] (· =PV.mono (cQ a)):=by
 refine aE Qg Tryz.func166 ajF fun C hP=>?_;refine Sz0 ?_;refine Qi dV [(3,3),(6,17)] [] (fun n J hp=>n<=a.length/\mS a n=cQ a/\J 3= .int .i64 n/\hp=aA) a.length ?_ ?_
 ·refine⟨Kae _,rfl,?_⟩;exact Tz0
 rintro n J _ ⟨hn,hc,h3,rfl⟩;refine Sz1 h3 ?_;refine fN (fun hg=>?_) (fun hg=>?_)
 ·obtain _|n:=n
  ·omega
  have e:((n+1:Nat):Int)-1=n:=by omega
  simp only[mS]at hc;simp+decide (disch:=try exact D2 h3 e) only[go_sem,h3,e];refine Qa (fun hz=>?_) (fun hz=>?_)
  ·rw[if_pos (by simp[hz,show n<a.length by omega])]at hc;refine Sz2 h3 e ?_;refine Qf n Oz ⟨by omega,hc,?_⟩;exact Tz0
  ·rw[if_neg (by simpa[show n<a.length by omega]using hz)]at hc;refine Sz2 h3 e ?_;refine Qa (fun h=>by omega) (fun h=>?_);refine Sz2 h3 e ?_;exact Qc (congrArg PV.mono hc) rfl
 ·obtain rfl:n=0:=by omega
  refine Sz1 h3 ?_;exact pg (LR (by rw[<-hc];rfl)) rfl
theorem Cm{a:List Int}(hl:a.length<2^42):Qd Tryz.prog 135 [PV.mono a] (· = .bool (ck a)):=by
 refine aE Qg Tryz.func135 ajG fun C hP=>?_;refine Sz0 ?_;have bad:(64<a.length∨a.getLast? =some 0∨∃x∈a,x<0∨1048576<x)->ck a=false:=fun h=>by
  cases hb:ck a with
  |false=>rfl
  |true=>
   have:=MB.tA hb;simp only[ck,KaC,decide_eq_true_eq]at hb;rcases h with h|h|⟨x,hx,h⟩
   ·omega
   ·exact absurd h hb.2.1
   ·have h5:=this.lo x hx;have h6:=this.hi x hx;omega
 refine fb (fun h1=>?_) (fun h1=>?_)
 ·refine Sz0 ?_;exact Qc (by rw[bad (.inl Oz)]) rfl
 refine Sz0 ?_;have fin:a.length<=64->a.getLast? ≠some 0->(∀x∈a,0<=x/\x<=1048576)->ck a=true:=fun h1 h2 h3=>by simp only[ck,KaC,decide_eq_true_eq,Kax];exact⟨h1,h2,h3⟩
 refine fN (fun h2=>?_) (fun h2=>?_)
 ·obtain⟨k,hk⟩:∃k,a.length=k+1:=⟨a.length-1,by omega⟩
  have gK:=Mi hk;have e:((k+1:Nat):Int)-1=k:=by omega
  generalize hy:a[k]'Oz=y at *
  refine Sz3 hk e hy ?_;refine Qa (fun h3=>?_) (fun h3=>?_)
  ·refine Sz0 ?_;exact Qc (by rw[bad (.inr (.inl (by rw[gK,h3])))]) rfl
  have gK:a.getLast? ≠some 0:=by rw[gK];simpa using h3
  rw[<-hk]at *
  refine Sz0 ?_;refine Qi dV [(2,2),(4,4),(24,34)] [] (fun k J hp=>∃i,k=a.length-i/\i<=a.length/\(∀x∈a.take i,0<=x/\x<=1048576)/\J 24= .int .i64 i/\hp=aA) a.length ?_ ?_
  ·refine⟨0,rfl,by omega,by simp,?_⟩;refine Sz0 ?_;rfl
  rintro _ J _ ⟨i,rfl,hi,cU,jF,rfl⟩;refine Sz1 jF ?_;refine Qa (fun hg=>?_) (fun hg=>?_)
  ·have al:i<a.length:=by omega
   have dB:=Kah al;have aT:∀x∈a.take (i+1),x∈a.take i∨x=a[i]:=fun x hx=>by
    rw[Kak al]at hx;rcases KaL.1 hx with h|h
    ·exact .inl h
    ·exact .inr (Kau.1 h)
   generalize hx:a[i]=x at *
   refine Sz2 jF hx ?_;refine fb (fun h5=>?_) (fun h5=>?_)
   ·refine Sz0 ?_;exact Qc (by rw[bad (.inr (.inr ⟨x,dB,.inl h5⟩))]) rfl
   ·refine Sz0 ?_;refine Qa (fun h6=>?_) (fun h6=>?_)
    ·refine Sz0 ?_;exact Qc (by rw[bad (.inr (.inr ⟨x,dB,.inr h6⟩))]) rfl
    ·refine Sz1 jF ?_;refine Qf (a.length-(i+1)) Oz ⟨i+1,rfl,by omega,fun y hy=>?_,?_⟩
     ·rcases aT y hy with h|rfl
      ·exact cU y h
      ·omega
     ·exact Tz0
  ·rw[Kac Oz]at cU;refine Sz0 ?_;exact Qc (by rw[fin Oz gK cU]) rfl
 ·have Nx:a=[]:=KaI.1 Oz;have gK:a.getLast? ≠some 0:=by rw[Nx];simp
  refine Sz0 ?_;refine Qi dV [(2,2),(4,4),(24,34)] [] (fun k J hp=>∃i,k=a.length-i/\i<=a.length/\(∀x∈a.take i,0<=x/\x<=1048576)/\J 24= .int .i64 i/\hp=aA) a.length ?_ ?_
  ·refine⟨0,rfl,by omega,by simp,?_⟩;refine Sz0 ?_;rfl
  rintro _ J _ ⟨i,rfl,hi,cU,jF,rfl⟩;refine Sz1 jF ?_;refine Qa (fun hg=>?_) (fun hg=>?_)
  ·have al:i<a.length:=by omega
   have dB:=Kah al;have aT:∀x∈a.take (i+1),x∈a.take i∨x=a[i]:=fun x hx=>by
    rw[Kak al]at hx;rcases KaL.1 hx with h|h
    ·exact .inl h
    ·exact .inr (Kau.1 h)
   generalize hx:a[i]=x at *
   refine Sz2 jF hx ?_;refine fb (fun h5=>?_) (fun h5=>?_)
   ·refine Sz0 ?_;exact Qc (by rw[bad (.inr (.inr ⟨x,dB,.inl h5⟩))]) rfl
   ·refine Sz0 ?_;refine Qa (fun h6=>?_) (fun h6=>?_)
    ·refine Sz0 ?_;exact Qc (by rw[bad (.inr (.inr ⟨x,dB,.inr h6⟩))]) rfl
    ·refine Sz1 jF ?_;refine Qf (a.length-(i+1)) Oz ⟨i+1,rfl,by omega,fun y hy=>?_,?_⟩
     ·rcases aT y hy with h|rfl
      ·exact cU y h
      ·omega
     ·exact Tz0
  ·rw[Kac Oz]at cU;refine Sz0 ?_;exact Qc (by rw[fin Oz gK cU]) rfl
theorem UW{a:List Int}(hl:a.length<2^42):Qd Tryz.prog 156 [PV.mono a] (· =PV.mono (if ck (cQ a)then cQ a else [])):=by
 have ht:=tD a;refine aE Qg Tryz.func156 ajH fun C hP=>?_;refine Sz0 ?_;refine Qb hP (KY hl) ?_;refine Sz0 ?_;refine Qb hP (Cm Oz) ?_;refine Sz0 ?_;cases bR:ck (cQ a)
 ·refine Sz1 @Bool.not_false ?_;exact pg (LR (by simp)) rfl
 ·have:(cQ a).length<=64:=(MB.tA bR).len;refine lG @Bool.not_true ?_;exact Qc (by simp[Kac]) rfl
theorem KB{a:List Int}(hl:a.length<=1048576)(hb:∀x∈a,0<=x/\x<=1099511627776):Qd Tryz.prog 114 [PV.mono a] (· = .int .i64 (dT a)):=by
 refine aE Qg Tryz.func114 ajI fun C hP=>?_;refine Sz0 ?_;refine Qi dV [(3,3),(5,5),(8,15)] [] (fun k J hp=>∃(i:Nat)(s:Int),k=a.length-i/\i<=a.length/\0<=s/\s<=1099511627776*i/\s+(a.drop i).sum=dT a/\J 8= .int .i64 (i:Nat)/\J 3= .int .i64 s/\hp=aA) a.length ?_ ?_
 ·refine⟨0,0,rfl,by omega,by omega,by omega,by simp[dT],?_⟩;refine Sz0 ?_;simp
 rintro _ J _ ⟨i,s,rfl,hi,iG,eu,qX,h8,h3,rfl⟩;refine Sz2 h8 h3 ?_;refine Qa (fun hg=>?_) (fun hg=>?_)
 ·have al:i<a.length:=by omega
  have hx:=hb _ (Kah al);rw[KaA al,KcZ]at qX;generalize eG:a[i]=x at *
  refine Sz3 h8 h3 eG ?_;refine Qf (a.length-(i+1)) Oz ⟨i+1,s+x,rfl,by omega,by omega,by push_cast;omega,by omega,?_⟩;exact Tz0
 ·rw[Kao Oz,List.sum_nil,Int.add_zero]at qX;refine Sz1 h3 ?_;exact Qc (by rw[qX]) rfl
theorem ac1{a:List Int}{v:Int}(hl:a.length<2^42):Qd Tryz.prog 223 [PV.mono a,.int .i64 v] (· = .int .i64 (if v<0 then 0 else eN a v.toNat)):=by
 refine aE Qg Tryz.func223 ajJ fun C hP=>?_;refine Sz0 ?_;refine fb (fun h1=>?_) (fun h1=>?_)
 ·refine Sz0 ?_;exact Qc (by rw[if_pos h1]) rfl
 ·obtain⟨n,rfl⟩:∃n:Nat,v=n:=⟨v.toNat,by omega⟩
  rw[if_neg h1];refine Sz0 ?_;refine Qa (fun h2=>?_) (fun h2=>?_)
  ·refine Sz0 ?_;exact Qc (by rw[jh Oz]) rfl
  ·have hn:n<a.length:=by omega
   refine Sz0 ?_;exact Qc (by rw[fY hn]) rfl
theorem G0{a:List Int}{i:Nat}(hl:a.length<2^42):Qd Tryz.prog 223 [PV.mono a,.int .i64 i] (· = .int .i64 (eN a i)):=by
 have:=ac1 (v:=i) hl
 rwa[if_neg Oz,Kcq]at this
theorem Q15{a b:List Int}{f:Nat}{g:Int->Int->Int}(bD:a.length<2^40)(dJ:b.length<2^40)(hf:∀i,Qd Tryz.prog f [.int .i64 (eN a i),.int .i64 (eN b i)] (· = .int .i64 (g (eN a i) (eN b i)))):
  Qd Tryz.prog 167 [PV.mono a,PV.mono b,.fn f [] []] (· =PV.mono (mc g a b)):=by
 refine aE Qg Tryz.func167 ajE fun C hP=>?_;refine Sz0 ?_;refine Qi dV [(8,10),(19,45)] [] (fun k J hp=>∃i,k=max a.length b.length-i/\i<=max a.length b.length/\J 19= .int .i64 (i:Nat)/\hp=Qj aA 16 ⟨1,3,nC ((mc g a b).take i++List.replicate (max a.length b.length-i) 0),false⟩) (max a.length b.length) ?_ ?_
 ·refine⟨0,rfl,by omega,?_⟩;refine Sz0 ?_;simp
 rintro _ J _ ⟨i,rfl,hi,nL,rfl⟩;refine Sz1 nL ?_;refine Qa (fun hg=>?_) (fun hg=>?_)
 ·have al:i<max a.length b.length:=by omega
  have mA:=hf i;have qY:((mc g a b).take i).length=i:=by rw[KaF,rp];omega
  have ka:=fun v=>aeo (v:=v) (z:=(0:Int)) qY (show 0<max a.length b.length-i by omega);have hlen:i<((mc g a b).take i++List.replicate (max a.length b.length-i) (0:Int)).length:=by rw[Kay,qY,List.length_replicate];omega
  have aT:=LS (g:=g) al;have fin:∀x y,x=eN a i->y=eN b i->Qd Tryz.prog f [.int .i64 x,.int .i64 y] (· = .int .i64 (g (eN a i) (eN b i))):=by rintro _ _ rfl rfl;exact mA
  refine Sz1 nL ?_;refine Qa (fun h1=>?_) (fun h1=>?_)
  ·have lH:i<a.length:=by omega
   simp+decide (disch:=try exact D1 nL) only[go_sem,nL];refine Qa (fun h2=>?_) (fun h2=>?_)
   ·have oF:i<b.length:=by omega
    simp+decide (disch:=try exact D1 nL) only[go_sem,nL];refine Qb hP (fin _ _ (fY lH).symm (fY oF).symm) ?_;simp+decide (disch:=first|omega|rfl|(simp+decide only[go_sem,nL,ka,<-aT]<;>rfl)|fail) only[go_sem,nL,ka,<-aT];refine Qf (max a.length b.length-(i+1)) Oz ⟨i+1,rfl,by omega,?_⟩;exact Tz1 @Nat.sub_sub
   ·refine Sz1 nL ?_;refine Qb hP (fin _ _ (fY lH).symm (jh Oz).symm) ?_;simp+decide (disch:=first|omega|rfl|(simp+decide only[go_sem,nL,ka,<-aT]<;>rfl)|fail) only[go_sem,nL,ka,<-aT];refine Qf (max a.length b.length-(i+1)) Oz ⟨i+1,rfl,by omega,?_⟩;exact Tz1 @Nat.sub_sub
  ·refine Sz1 nL ?_;refine Qa (fun h2=>?_) (fun h2=>by omega);have oF:i<b.length:=by omega
   simp+decide (disch:=try exact D1 nL) only[go_sem,nL];refine Qb hP (fin _ _ (jh Oz).symm (fY oF).symm) ?_;simp+decide (disch:=first|omega|rfl|(simp+decide only[go_sem,nL,ka,<-aT]<;>rfl)|fail) only[go_sem,nL,ka,<-aT];refine Qf (max a.length b.length-(i+1)) Oz ⟨i+1,rfl,by omega,?_⟩;exact Tz1 @Nat.sub_sub
 ·obtain rfl:i=max a.length b.length:=by omega
  refine ij ?_;exact Qc (by simp[Kac,rp]) rfl
theorem Q96{x y:Int}(h1: -9223372036854775808<=x+y)(h2:x+y<=9223372036854775807):Qd Tryz.prog 168 [.int .i64 x,.int .i64 y] (· = .int .i64 (x+y)):=by refine aE Qg Tryz.func168 ajL fun C hP=>?_;refine Sz0 ?_;exact Qc rfl rfl
theorem VT{k:Nat}{a b:List Int}(ha:MB k a)(hb:MB k b)(hk:k<=1099511627776):Qd Tryz.prog 96 [PV.mono a,PV.mono b] (· =PV.mono (bF a b)):=by have h1:=ha.len;have h2:=hb.len;have hz:=rp (· + ·) a b;refine aE Qg Tryz.func96 am4 fun C hP=>?_;refine Sz0 ?_;refine Qb hP (Q15 (f:=168) (g:=(· + ·)) Oz Oz (fun i=>Q96 (by have:=ha.eN i;have:=hb.eN i;omega) (by have:=ha.eN i;have:=hb.eN i;omega))) ?_;refine Sz0 ?_;refine Qb hP (KY Oz) ?_;refine Sz0 ?_;exact Qc rfl rfl
theorem Q97{a:List Int}(hl:a.length<2^42):Qd Tryz.prog 104 [PV.mono a] (· = .int .i64 ((cQ a).length-1)):=by have:=tD a;refine aE Qg Tryz.func104 ajK fun C hP=>?_;refine Sz0 ?_;refine Qb hP (KY hl) ?_;refine Sz0 ?_;exact Qc rfl rfl
theorem Lg{k:Nat}{a b:List Int}{o:Int}(ha:MB k a)(hb:MB k b)(hk:k<=1099511627776):Qd Tryz.prog 193 [PV.mono a,PV.mono b,.int .i64 o] (· = .int .i64 (me o a b)):=by
 have h1:=ha.len;have h2:=hb.len;have iW:∀x∈a,0<=x/\x<=1099511627776:=fun x hx=>by have:=ha.lo x hx;have:=ha.hi x hx;omega
 have kC:∀x∈b,0<=x/\x<=1099511627776:=fun x hx=>by have:=hb.lo x hx;have:=hb.hi x hx;omega
 refine aE Qg Tryz.func193 ajM fun C hP=>?_;refine Sz0 ?_;refine Qa (fun ho=>?_) (fun ho=>?_)
 ·refine Sz0 ?_;refine Qb hP (KB Oz iW) ?_;refine Sz0 ?_;refine Qb hP (KB Oz kC) ?_;refine Sz0 ?_;refine Qa (fun hd=>?_) (fun hd=>?_)
  ·have mB:me o a b=ep (dT a) (dT b):=by unfold me;rw[if_pos ⟨ho,hd⟩]
   refine Sz0 ?_;refine Qa (fun h5=>?_) (fun h5=>?_)
   ·refine Sz0 ?_;exact Qc (by rw[mB,ep,if_pos h5]) rfl
   ·refine Sz0 ?_;exact Qc (by rw[mB,ep,if_neg h5,if_pos Oz]) rfl
  have mB:me o a b=bm a b:=by unfold me;rw[if_neg (fun h=>hd h.2)]
  refine Sz0 ?_;refine Qi dV [(6,6),(9,11),(30,45)] [] (fun n J hp=>n<=max a.length b.length/\eS a b n=bm a b/\J 9= .int .i64 ((n:Int)-1)/\hp=aA) (max a.length b.length) ?_ ?_
  ·refine⟨by omega,rfl,?_⟩;exact Tz0
  rintro n J _ ⟨hn,hc,h9,rfl⟩;refine Sz1 h9 ?_;refine Qa (fun hg=>?_) (fun hg=>?_)
  ·obtain _|n:=n
   ·omega
   have e:((n+1:Nat):Int)-1=n:=by omega
   rw[eS]at hc;refine Sz2 h9 e ?_;refine Qb hP (G0 Oz) ?_;refine Sz2 h9 e ?_;refine Qb hP (G0 Oz) ?_;refine Sz2 h9 e ?_;refine Qa (fun h4=>?_) (fun h4=>?_)
   ·rw[if_neg h4]at hc;refine Sz2 h9 e ?_;refine Qa (fun h5=>?_) (fun h5=>?_)
    ·refine Sz2 h9 e ?_;exact Qc (by rw[mB,<-hc,ep,if_pos h5]) rfl
    ·refine Sz2 h9 e ?_;exact Qc (by rw[mB,<-hc,ep,if_neg h5,if_pos Oz]) rfl
   ·rw[if_pos Oz]at hc;refine Sz2 h9 e ?_;refine Qf n Oz ⟨by omega,hc,?_⟩;exact Tz0
  ·obtain rfl:n=0:=by omega
   refine Sz0 ?_;exact Qc (by rw[mB,<-hc];rfl) rfl
 ·have mB:me o a b=bm a b:=by unfold me;rw[if_neg (fun h=>ho h.1)]
  refine Sz0 ?_;refine Qi dV [(6,6),(9,11),(30,45)] [] (fun n J hp=>n<=max a.length b.length/\eS a b n=bm a b/\J 9= .int .i64 ((n:Int)-1)/\hp=aA) (max a.length b.length) ?_ ?_
  ·refine⟨by omega,rfl,?_⟩;exact Tz0
  rintro n J _ ⟨hn,hc,h9,rfl⟩;refine Sz1 h9 ?_;refine Qa (fun hg=>?_) (fun hg=>?_)
  ·obtain _|n:=n
   ·omega
   have e:((n+1:Nat):Int)-1=n:=by omega
   rw[eS]at hc;refine Sz2 h9 e ?_;refine Qb hP (G0 Oz) ?_;refine Sz2 h9 e ?_;refine Qb hP (G0 Oz) ?_;refine Sz2 h9 e ?_;refine Qa (fun h4=>?_) (fun h4=>?_)
   ·rw[if_neg h4]at hc;refine Sz2 h9 e ?_;refine Qa (fun h5=>?_) (fun h5=>?_)
    ·refine Sz2 h9 e ?_;exact Qc (by rw[mB,<-hc,ep,if_pos h5]) rfl
    ·refine Sz2 h9 e ?_;exact Qc (by rw[mB,<-hc,ep,if_neg h5,if_pos Oz]) rfl
   ·rw[if_pos Oz]at hc;refine Sz2 h9 e ?_;refine Qf n Oz ⟨by omega,hc,?_⟩;exact Tz0
  ·obtain rfl:n=0:=by omega
   refine Sz0 ?_;exact Qc (by rw[mB,<-hc];rfl) rfl
theorem wV{a b:Rat}{k:Nat}(ha:rs a<=k)(hb:rs b<=k)(hk:k<2^36):Qd Tryz.prog 107 [PV.rat a,PV.rat b] (· =PV.rat (a+b)):=by
 have:=LC (fO ha) (fO hb) hk
 rwa[eA,eA]at this
theorem pz{a b:Rat}{k:Nat}(ha:rs a<=k)(hb:rs b<=k)(hk:k<2^36):Qd Tryz.prog 105 [PV.rat a,PV.rat b] (· =PV.rat (a*b)):=by
 have:=aeO (fO ha) (fO hb) hk
 rwa[eA,eA]at this
theorem abV{a b:Rat}{k:Nat}(ha:rs a<=k)(hb:rs b<=k)(hk:k<2^36):Qd Tryz.prog 204 [PV.rat a,PV.rat b] (· = .int .i64 (qI a b)):=by
 have:=Py (fO ha) (fO hb) hk
 rwa[eA,eA]at this
theorem ajR{a b:Rat}{k:Nat}(ha:rs a<=k)(hb:rs b<=k)(hk:k<2^36):Qd Tryz.prog 179 [PV.rat a,PV.rat b] (· = .bool (decide (a=b))):=by
 have:=UU (fO ha) (fO hb) hk
 rwa[eA,eA]at this
theorem pk{a:Rat}(ha:rs a<2^36):Qd Tryz.prog 38 [PV.rat a] (· = .int .i64 (fc a)):=by
 have:=Cy (fO (Kae (rs a))) ha
 rwa[eA]at this
theorem VU{s t:Tm}{E:Nat}(hs:MB E s.2)(ht:MB E t.2)(hE:E<=2^38):Qd Tryz.prog 136 [PV.term s,PV.term t] (· = .int .i64 (bm s.2 t.2)):=by refine aE Qg Tryz.func136 SA fun C hP=>?_;refine Sz0 ?_;refine Qb hP (Lg (o:=0) hs ht Oz) ?_;refine Sz0 ?_;exact Qc (by rw[DF]) rfl
theorem Q7y{s t:Tm}{k:Nat}(hs:rs s.1<=k)(ht:rs t.1<=k)(hk:k<2^34):Qd Tryz.prog 207 [PV.term s,PV.term t] (· = .aH [PV.term (s.1+t.1,s.2),.bool (decide (¬s.1+t.1=0))]):=by have hr:=lz s.1 t.1;refine aE Qg Tryz.func207 aje fun C hP=>?_;refine Sz0 ?_;refine Qb hP (wV (a:=s.1) (b:=t.1) hs ht Oz) ?_;refine Sz0 ?_;refine Qb hP (pk (a:=s.1+t.1) Oz) ?_;refine Sz0 ?_;refine mO ?_;refine Sz0 ?_;exact fp rfl rfl rfl (Ql _) (wC (congrArg PV.bool (decide_eq_decide.2 (not_congr dy))))
theorem Uu{c:Rat}{m:List Int}(hc:rs c<2^36):Qd Tryz.prog 155 [PV.rat c,PV.mono m] (· =PV.aL (if c=0 then []else [(c,m)])):=by
 refine aE Qg Tryz.func155 ajf fun C hP=>?_;refine Sz0 ?_;refine Qb hP (pk (a:=c) hc) ?_;refine Sz0 ?_;refine Qa (fun h0=>?_) (fun h0=>?_)
 ·rw[if_pos (dy.1 h0)];refine Sz0 ?_;exact pg L0 rfl
 ·rw[if_neg (fun h=>h0 (dy.2 h))];refine ij ?_;exact Qc rfl rfl
theorem Q7z{p q:List Tm}{K E:Nat}(hp:PB K E p)(hq:PB K E q)(hK:K<=2^33)(hE:E<=2^38)(cW:p.length<=2^36)(oJ:q.length<=2^36):
  Qd Tryz.prog 206 [PV.aL p,PV.aL q,.fn 136 [] [],.fn 207 [] []] (· =PV.aL (aW p q)):=by
 refine aE Qg Tryz.func206 ajN fun C hP=>?_;refine Sz0 ?_;refine Qi dV [(9,14),(21,86)] [13,20,57,58,71,72,83,84] (fun n J hp=>∃i k out,n=(p.length-i)+(q.length-k)/\i<=p.length/\k<=q.length/\out.length<=i+k/\out++aW (p.drop i) (q.drop k)=aW p q/\
  J 9= .ms 20 out.length/\J 10= .int .i64 (i:Nat)/\J 11= .int .i64 (k:Nat)/\hp 20=some ⟨4,95,out.map PV.term,false⟩) (p.length+q.length) ?_ ?_
 ·refine⟨0,0,[],by omega,by omega,by omega,by simp,rfl,?_⟩;refine Sz0 ?_;simp
 rintro _ J h ⟨i,k,out,rfl,hi,hk,ir,eX,h9,bp,bZ,hh⟩;refine Sz3 h9 bp bZ ?_;refine fN (fun hg=>?_) (fun hg=>?_)
 ·have al:i<p.length:=by omega
  refine Sz3 h9 bp bZ ?_;refine Qa (fun eK=>?_) (fun eK=>?_)
  ·have bI:k<q.length:=by omega
   have cg:=hp.get al;have qZ:=hq.get bI;rw[O9 al bI]at eX;have c1:=cg.c;have c2:=qZ.c;generalize hx:p[i]=x at *
   generalize hy:q[k]=y at *
   refine Sz5 h9 bp bZ hx hy ?_;refine Qb hP (VU (s:=x) (t:=y) cg.m qZ.m hE) ?_;refine Sz5 h9 bp bZ hx hy ?_;refine Qa (fun hc=>?_) (fun hc=>?_)
   ·rw[if_pos hc]at eX;refine Sz5 h9 bp bZ hx hy ?_;rw[Qr (f:=PV.term) (y:=x) (xs:=out) (ty':=95) (fz:=false) (Tz1 hh) cE Oz rfl Oz Oz];refine Sz5 h9 bp bZ hx hy ?_;refine Qf ((p.length-(i+1))+(q.length-k)) Oz ⟨i+1,k,out++[x],rfl,by omega,hk,by simp;omega,by simpa using eX,?_⟩;refine Sz3 h9 bp bZ ?_;simp
   rw[if_neg hc]at eX;refine Sz5 h9 bp bZ hx hy ?_;refine Qa (fun iD=>?_) (fun iD=>?_)
   ·rw[if_pos iD]at eX;refine Sz5 h9 bp bZ hx hy ?_;rw[Qr (f:=PV.term) (y:=y) (xs:=out) (ty':=95) (fz:=false) (Tz1 hh) cE Oz rfl Oz Oz];refine Sz5 h9 bp bZ hx hy ?_;refine Qf ((p.length-i)+(q.length-(k+1))) Oz ⟨i,k+1,out++[y],rfl,hi,by omega,by simp;omega,by simpa using eX,?_⟩;refine Sz3 h9 bp bZ ?_;simp
   rw[if_neg iD]at eX;refine Sz5 h9 bp bZ hx hy ?_;refine lk ?_ ?_
   all_goals
    refine Sz5 h9 bp bZ hx hy ?_;refine Qb hP (Q7y (s:=x) (t:=y) (k:=2^33) Oz Oz Oz) ?_;refine Sz5 h9 bp bZ hx hy ?_;refine Qa (fun hz=>?_) (fun hz=>?_)
    ·rw[if_neg hz]at eX;refine Sz5 h9 bp bZ hx hy ?_;rw[Qr (f:=PV.term) (y:=(x.1+y.1,x.2)) (xs:=out) (ty':=95) (fz:=false) (Tz1 hh) cE Oz rfl Oz Oz];refine Sz5 h9 bp bZ hx hy ?_;refine Qf ((p.length-(i+1))+(q.length-(k+1))) Oz ⟨i+1,k+1,out++[(x.1+y.1,x.2)],rfl,by omega,by omega,by simp;omega,by simpa using eX,?_⟩;refine Sz3 h9 bp bZ ?_;simp
    ·rw[if_pos (Decidable.not_not.1 hz)]at eX;refine Sz5 h9 bp bZ hx hy ?_;refine Qf ((p.length-(i+1))+(q.length-(k+1))) Oz ⟨i+1,k+1,out,rfl,by omega,by omega,by omega,eX,?_⟩;exact Tz4 h9 bp bZ hh
  ·have fS:(out++p.drop i++q.drop k).take (out.length+(p.drop i).length+(q.drop k).length)=aW p q:=by rw[Kac (by simp;omega),<-eX,Kao (by omega:q.length<=k),o9,Kam]
   refine Sz3 h9 bp bZ ?_;rw[mM (f:=PV.term) (xs:=out) (ys:=p.drop i) (Tz1 hh) rfl Oz (by simp;omega) (by simp;omega)];refine Sz3 h9 bp bZ ?_;rw[mM (f:=PV.term) (xs:=out++p.drop i) (ys:=q.drop k) Tz0 (by simp) Oz (by simp;omega) (by simp;omega)];refine vw h9 bp bZ ?_;exact Qc (by rw[<-List.map_take,fS]) rfl
 ·have fS:(out++p.drop i++q.drop k).take (out.length+(p.drop i).length+(q.drop k).length)=aW p q:=by rw[Kac (by simp;omega),<-eX,Kao (by omega:p.length<=i),yt,Kam]
  refine Sz3 h9 bp bZ ?_;rw[mM (f:=PV.term) (xs:=out) (ys:=p.drop i) (Tz1 hh) rfl Oz (by simp;omega) (by simp;omega)];refine Sz3 h9 bp bZ ?_;rw[mM (f:=PV.term) (xs:=out++p.drop i) (ys:=q.drop k) Tz0 (by simp) Oz (by simp;omega) (by simp;omega)];refine vw h9 bp bZ ?_;exact Qc (by rw[<-List.map_take,fS]) rfl
theorem VV{p q:List Tm}{K E:Nat}(hp:PB K E p)(hq:PB K E q)(hK:K<=2^33)(hE:E<=2^38)(cW:p.length<=2^36)(oJ:q.length<=2^36):
  Qd Tryz.prog 170 [PV.aL p,PV.aL q] (· =PV.aL (aW p q)):=by
 refine aE Qg Tryz.func170 aji fun C hP=>?_;refine Sz0 ?_;refine Qb hP (Q7z hp hq hK hE cW oJ) ?_;refine Sz0 ?_;exact Qc rfl rfl
theorem Lh{K E:Nat}(hE:E<=2^38):∀(n:Nat)(l:List (List Tm)),l.length<=n->(∀p∈l,PB K E p)->l.length*K<=2^33->l.length<=2^36->rK l<=2^36->Qd Tryz.prog 157 [PV.au4 l] (· =PV.aL (fH l)):=by
 intro n;induction n with
 |zero=>intro l hl _ _ _ _;have:l=[]:=KaI.1 Oz;subst this;refine aE Qg Tryz.func157 SB fun C hP=>?_;simp+decide (disch:=first|omega|rfl|(simp+decide only[go_sem,Kbu,Kbk]<;>rfl)|fail) only[go_sem,Kbu,Kbk];exact pg (LU (by rw[fH])) rfl
 | succ n ih=>
  intro l hl hb hK jm aV;refine aE Qg Tryz.func157 SB fun C hP=>?_;refine Sz0 ?_;refine Qa (fun h0=>?_) (fun h0=>?_)
  ·have:l=[]:=KaI.1 Oz;subst this;refine Sz0 ?_;exact pg (LU (by rw[fH])) rfl
  refine Sz0 ?_;refine Qa (fun h1=>?_) (fun h1=>?_)
  ·obtain⟨p,rfl⟩:∃p,l=[p]:=KcO.1 Oz;simp+decide (disch:=first|omega|rfl|(simp+decide only[go_sem,Kba,Kbu]<;>rfl)|fail) only[go_sem,Kba,Kbu];exact Qc (by rw[fH];rfl) rfl
  have h2:2<=l.length:=by omega
  have hs:=Wf l (l.length/2);have e:(2:Int)=((2:Nat):Int):=rfl;have hq:∀d fr hp K,cu .quo false (.int .i64 (l.length:Int)) (.int .i64 2) d fr hp K=K (af fr d (.int .i64 ((l.length/2:Nat):Int))) hp:=fun d fr hp K=>by rw[e,Dh Oz Oz]
  have b1:=GD (K:=K) (E:=E) _ (l.take (l.length/2)) (Kae _) (fun p hp=>hb p (Kbf hp));have b2:=GD (K:=K) (E:=E) _ (l.drop (l.length/2)) (Kae _) (fun p hp=>hb p (KbO hp));have l1:(l.take (l.length/2)).length*K<=l.length*K:=Kaj _ (by rw[KaF];omega);have l2:(l.drop (l.length/2)).length*K<=l.length*K:=Kaj _ (by rw[Kbc];omega);refine Sz1 hq ?_;refine Qb hP (ih (l.take (l.length/2)) (by rw[KaF];omega) (fun p hp=>hb p (Kbf hp)) Oz (by rw[KaF];omega) Oz) ?_;refine Sz1 hq ?_;refine Qb hP (ih (l.drop (l.length/2)) (by rw[Kbc];omega) (fun p hp=>hb p (KbO hp)) Oz (by rw[Kbc];omega) Oz) ?_;refine Sz1 hq ?_;refine Qb hP (VV (b1.1.mono (K':=l.length*K) l1 (Kae _)) (b2.1.mono l2 (Kae _)) hK hE Oz Oz) ?_;refine Sz0 ?_;exact Qc (by rw[CI h2]) rfl
theorem KZ{p:List Tm}{t:Tm}{i:Nat}(h:i<p.length):ca (p.take (i+1)) t=ca (p.take i) t++(if p[i].1*t.1=0 then []else [(p[i].1*t.1,bF p[i].2 t.2)]):=by rw[Kak h,ca,List.filterMap_append,ca];congr 1;simp only[Kcf,KcB];split<;>split<;>simp_all
theorem KK{p:List Tm}{t:Tm}{K E:Nat}(hp:PB K E p)(ht:TB K E t)(hK:K<=2^33)(hE:E<=2^38)(cW:p.length<=2^36):
  Qd Tryz.prog 172 [PV.aL p,PV.term t] (· =PV.aL (ca p t)):=by
 refine aE Qg Tryz.func172 ajj fun C hP=>?_;refine Sz0 ?_;refine Qi dV [(5,5),(7,8),(14,36)] [7,8,11,34,35] (fun n J hp=>∃i,n=p.length-i/\i<=p.length/\J 5= .ms 11 (ca (p.take i) t).length/\J 14= .int .i64 (i:Nat)/\hp 3=some ⟨4,95,[PV.term t],false⟩/\hp 11=some ⟨4,95,(ca (p.take i) t).map PV.term,false⟩) p.length ?_ ?_
 ·refine⟨0,rfl,by omega,?_⟩;refine Sz0 ?_;simp[ca]
 rintro _ J h ⟨i,rfl,hi,h5,gz,cb,IE⟩;refine Sz2 h5 gz ?_;refine Qa (fun hg=>?_) (fun hg=>?_)
 ·have al:i<p.length:=by omega
  have cg:=hp.get al;have aT:=KZ (t:=t) al;have hlen:=ye (p.take i) t;rw[KaF]at hlen;have c1:=cg.c;have c2:=ht.c;have uz:=fD p[i].1 t.1;generalize hx:p[i]=x at *
  refine Sz4 h5 gz cb hx ?_;refine Qb hP (pz (a:=x.1) (b:=t.1) (k:=2^33) Oz Oz Oz) ?_;refine Sz4 h5 gz cb hx ?_;refine Qb hP (pk (a:=x.1*t.1) Oz) ?_;refine Sz4 h5 gz cb hx ?_;refine Qa (fun hz=>?_) (fun hz=>?_)
  ·rw[if_neg (fun h=>hz (dy.2 h))]at aT;refine Sz4 h5 gz cb hx ?_;refine Qb hP (VT cg.m ht.m Oz) ?_;refine Sz4 h5 gz cb hx ?_;rw[Qr (f:=PV.term) (y:=(x.1*t.1,bF x.2 t.2)) (xs:=ca (p.take i) t) (ty':=95) (fz:=false) (Tz1 IE) cE Oz rfl Oz Oz];rw[<-aT];refine Sz4 h5 gz cb hx ?_;refine Qf (p.length-(i+1)) Oz ⟨i+1,rfl,by omega,?_⟩;rw[aT];simp+decide (disch:=first|omega|rfl|(simp+decide only[go_sem,h5,gz,cb,Kay]<;>rfl)|fail) only[go_sem,h5,gz,cb,Kay]
  ·rw[if_pos (dy.1 (Decidable.not_not.1 hz)),Kam]at aT;refine Sz4 h5 gz cb hx ?_;refine Qf (p.length-(i+1)) Oz ⟨i+1,rfl,by omega,?_⟩;rw[aT];exact Tz4 h5 gz cb IE
 ·obtain rfl:i=p.length:=by omega
  rw[Kaz]at h5 IE;refine mm h5 IE ?_;exact Qc (by simp[Kac]) rfl
theorem ac2{p q:List Tm}{K E:Nat}(hp:PB K E p)(hq:PB K E q)(hE:E<=2^37)(cW:p.length<=2^30)(oJ:q.length<=2^30)(rW:p.length*q.length<=2^36)(hK:min p.length q.length*(K+K)<=2^33)(zc:K<=2^33):
  Qd Tryz.prog 103 [PV.aL p,PV.aL q] (· =PV.aL (hO p q)):=by
 have main:∀(p q:List Tm),PB K E p->PB K E q->p.length<=2^30->q.length<=2^30->p.length*q.length<=2^36->p.length*(K+K)<=2^33->p.length<=q.length->True:=fun _ _ _ _ _ _ _ _ _=>trivial;refine aE Qg Tryz.func103 ajk fun C hP=>?_;refine Sz0 ?_;refine Qa (fun hg=>?_) (fun hg=>?_)
 ·have fS:tR q p=hO p q:=by rw[hO,if_pos Oz]
  have hK3:q.length*(K+K)<=2^33:=by rw[Kdi Oz]at hK;exact hK
  have av2:q.length*p.length<=2^36:=by rw[KaP];exact rW
  refine Sz0 ?_;refine Qi dV [(5,5),(7,7),(20,30)] [7,17,28,29] (fun n J hp=>∃i,n=q.length-i/\i<=q.length/\J 5= .ms 17 i/\J 20= .int .i64 (i:Nat)/\hp 17=some ⟨1,37,((q.take i).map (ca p)).map PV.aL,false⟩) q.length ?_ ?_
  ·refine⟨0,rfl,by omega,?_⟩;refine Sz0 ?_;simp
  rintro _ J h ⟨i,rfl,hi,h5,jX,hh⟩;refine Sz2 h5 jX ?_;refine Qa (fun eK=>?_) (fun eK=>?_)
  ·have al:i<q.length:=by omega
   have cg:=hq.get al;have aT:(q.take (i+1)).map (ca p)=(q.take i).map (ca p)++[ca p q[i]]:=by rw[Kak al,Ka9];rfl
   generalize hx:q[i]=x at *
   refine Sz3 h5 jX hx ?_;refine Qb hP (KK (t:=x) hp cg zc Oz Oz) ?_;refine Sz3 h5 jX hx ?_;rw[Qr (f:=PV.aL) (y:=ca p x) (xs:=(q.take i).map (ca p)) (ty':=37) (fz:=false) (Tz1 hh) cE Oz (by simp;omega) Oz Oz];rw[<-aT];refine Sz3 h5 jX hx ?_;refine Qf (q.length-(i+1)) Oz ⟨i+1,rfl,by omega,?_⟩;exact Tz2 h5 jX
  ·obtain rfl:i=q.length:=by omega
   rw[Kaz]at hh;have aV:=Kx q p;refine Sz2 h5 hh ?_;refine ln hP (Lh (K:=K+K) (E:=E+E) Oz _ (q.map (ca p)) (Kae _) (fun x hx=>by obtain⟨t,ht,rfl⟩:=Kaq.1 hx;exact Av hp (hq t ht)) (by rw[Kal];omega) (by rw[Kal];omega) Oz) (by simp+decide (disch:=try exact E1 hh) only[go_sem,hh,ek,Kaw,KaD,Kav,KaB,Kam];simp[Kac]) rfl ?_;refine Sz0 ?_;exact Qc (congrArg PV.aL fS) rfl
 ·have fS:tR p q=hO p q:=by rw[hO,if_neg Oz]
  have hK3:p.length*(K+K)<=2^33:=by rw[Kcb Oz]at hK;exact hK
  refine Sz0 ?_;refine Qi dV [(5,5),(7,7),(20,30)] [7,17,28,29] (fun n J hp=>∃i,n=p.length-i/\i<=p.length/\J 5= .ms 17 i/\J 20= .int .i64 (i:Nat)/\hp 17=some ⟨1,37,((p.take i).map (ca q)).map PV.aL,false⟩) p.length ?_ ?_
  ·refine⟨0,rfl,by omega,?_⟩;refine Sz0 ?_;simp
  rintro _ J h ⟨i,rfl,hi,h5,jX,hh⟩;refine Sz2 h5 jX ?_;refine Qa (fun eK=>?_) (fun eK=>?_)
  ·have al:i<p.length:=by omega
   have cg:=hp.get al;have aT:(p.take (i+1)).map (ca q)=(p.take i).map (ca q)++[ca q p[i]]:=by rw[Kak al,Ka9];rfl
   generalize hx:p[i]=x at *
   refine Sz3 h5 jX hx ?_;refine Qb hP (KK (t:=x) hq cg zc Oz Oz) ?_;refine Sz3 h5 jX hx ?_;rw[Qr (f:=PV.aL) (y:=ca q x) (xs:=(p.take i).map (ca q)) (ty':=37) (fz:=false) (Tz1 hh) cE Oz (by simp;omega) Oz Oz];rw[<-aT];refine Sz3 h5 jX hx ?_;refine Qf (p.length-(i+1)) Oz ⟨i+1,rfl,by omega,?_⟩;exact Tz2 h5 jX
  ·obtain rfl:i=p.length:=by omega
   rw[Kaz]at hh;have aV:=Kx p q;refine Sz2 h5 hh ?_;refine ln hP (Lh (K:=K+K) (E:=E+E) Oz _ (p.map (ca q)) (Kae _) (fun x hx=>by obtain⟨t,ht,rfl⟩:=Kaq.1 hx;exact Av hq (hp t ht)) (by rw[Kal];omega) (by rw[Kal];omega) Oz) (by simp+decide (disch:=try exact E1 hh) only[go_sem,hh,ek,Kaw,KaD,Kav,KaB,Kam];simp[Kac]) rfl ?_;refine Sz0 ?_;exact Qc (congrArg PV.aL fS) rfl
theorem Q70{p:List Tm}{a:Rat}{K E:Nat}(hp:PB K E p)(ha:rs a+1<=K)(hK:K<=2^33)(hE:E<=2^38)(cW:p.length<=2^36):Qd Tryz.prog 102 [PV.aL p,PV.rat a] (· =PV.aL (l7 p a)):=by
 refine aE Qg Tryz.func102 ajl fun C hP=>?_;refine Sz0 ?_;refine Qb hP (pk (a:=a) Oz) ?_;refine Sz0 ?_;refine Qa (fun h0=>?_) (fun h0=>?_)
 ·refine Sz0 ?_;exact pg (LU (by rw[l7,if_pos (dy.1 h0)])) rfl
 ·refine Sz0 ?_;refine Qb hP ((KK (t:=(a,[])) hp (TB.num ha) hK hE cW).le (args':=[PV.aL p,.agg [.bool (decide (a.num<0)),PV.num a.num.natAbs,PV.num a.den,.au]]) ⟨Ql _,⟨rfl,AF _,AF _,trivial,trivial⟩,trivial⟩) ?_;refine Sz0 ?_;exact Qc (by rw[l7,if_neg (fun h=>h0 (dy.2 h))]) rfl
theorem VW{n:Bool}{a d:List Nat}{k:Nat}(hp:Raw k n a d)(hk:k<2^36):Qd Tryz.prog 107 [PV.rr n a d,PV.rat ((0:Int):Rat)] (· =PV.rat (rv n a d)):=by
 have h0:rs ((0:Int):Rat)<=k:=by have:=sN;have:=hp.k1;have e:((0:Int):Rat)=0:=rfl;rw[e];omega
 have:=LC hp (fO h0) hk;rw[eA]at this;have e:rv n a d+((0:Int):Rat)=rv n a d:=Rat.add_zero _
 rwa[e]at this
theorem Q98{s t:Tm}{K E:Nat}(hs:TB K E s)(ht:TB K E t)(hK:K<=2^33)(hE:E<=2^38):Qd Tryz.prog 203 [PV.term s,PV.term t] (· = .int .i64 (pE s t)):=by
 have c1:=hs.c;have c2:=ht.c;refine aE Qg Tryz.func203 ajh fun C hP=>?_;refine Sz0 ?_;refine Qb hP (VU (s:=s) (t:=t) hs.m ht.m hE) ?_;refine Sz0 ?_;refine Qa (fun h=>?_) (fun h=>?_)
 ·refine Sz0 ?_;exact Qc (by rw[pE,if_pos h]) rfl
 ·refine Sz0 ?_;refine Qb hP (abV (a:=s.1) (b:=t.1) (k:=2^33) Oz Oz Oz) ?_;refine Sz0 ?_;exact Qc (by rw[pE,if_neg h]) rfl
theorem Qu7{p q:List Tm}{K E:Nat}(hp:PB K E p)(hq:PB K E q)(hK:K<=2^33)(hE:E<=2^38)(cW:p.length<=2^36)(oJ:q.length<=2^36):
  Qd Tryz.prog 205 [PV.aL p,PV.aL q,.fn 203 [] []] (· = .int .i64 (ks p q)):=by
 refine aE Qg Tryz.func205 ajn fun C hP=>?_;refine Sz0 ?_;refine Qi dV [(6,10),(13,33)] [8,9] (fun n J hp=>∃i,n=p.length-i/\i<=p.length/\(i<=q.length)/\ks (p.drop i) (q.drop i)=ks p q/\J 13= .int .i64 (i:Nat)) p.length ?_ ?_
 ·refine⟨0,rfl,by omega,by omega,rfl,?_⟩;refine Sz0 ?_;rfl
 rintro _ J h ⟨i,rfl,hi,dZ,iu,fy⟩;refine Sz1 fy ?_;refine Qa (fun hg=>?_) (fun hg=>?_)
 ·have al:i<p.length:=by omega
  have cg:=hp.get al;have hdp:p.drop i=p[i]::p.drop (i+1):=KaA al;have NB:=fun hk=>Pa (q:=q) al hk;generalize hx:p[i]=x at *
  refine Sz2 fy hx ?_;refine Qa (fun hk=>?_) (fun hk=>?_)
  ·rw[hdp,Kao (show q.length<=i by omega),ks]at iu;refine Sz0 ?_;exact Qc (by rw[iu]) rfl
  ·have bI:i<q.length:=by omega
   have qZ:=hq.get bI;have NB:=NB bI;generalize hy:q[i]=y at *
   rw[NB]at iu;refine Sz3 fy hx hy ?_;refine Qb hP (Q98 (s:=x) (t:=y) cg qZ hK hE) ?_;refine Sz3 fy hx hy ?_;refine Qa (fun hc=>?_) (fun hc=>?_)
   ·rw[if_pos hc]at iu;refine Sz0 ?_;exact Qc (by rw[iu]) rfl
   ·rw[if_neg hc]at iu;refine Sz1 fy ?_;refine Qf (p.length-(i+1)) Oz ⟨i+1,rfl,by omega,by omega,iu,?_⟩;exact Tz0
 ·obtain rfl:i=p.length:=by omega
  rw[Kao (Kae _),C6]at iu;refine Sz0 ?_;refine Qa (fun hk=>?_) (fun hk=>?_)
  ·rw[if_neg (by rw[Kbc];omega)]at iu;refine Sz0 ?_;exact Qc (by rw[iu]) rfl
  ·rw[if_pos (by rw[Kbc];omega)]at iu;refine Sz0 ?_;exact Qc (by rw[iu]) rfl
theorem ac3{p q:List Tm}{K E:Nat}(hp:PB K E p)(hq:PB K E q)(hK:K<=2^33)(hE:E<=2^38)(cW:p.length<=2^36)(oJ:q.length<=2^36):Qd Tryz.prog 169 [PV.aL p,PV.aL q] (· = .int .i64 (ks p q)):=by refine aE Qg Tryz.func169 ajg fun C hP=>?_;refine Sz0 ?_;refine Qb hP (Qu7 hp hq hK hE cW oJ) ?_;refine Sz0 ?_;exact Qc rfl rfl
theorem Q71{p q:List Tm}{K E:Nat}(hp:PB K E p)(hq:PB K E q)(hK:K<=2^33)(hE:E<=2^38)(cW:p.length<=2^36)(oJ:q.length<=2^36):Qd Tryz.prog 97 [PV.aL p,PV.aL q] (· = .bool (decide (p=q))):=by refine aE Qg Tryz.func97 amC fun C hP=>?_;refine Sz0 ?_;refine Qb hP (ac3 hp hq hK hE cW oJ) ?_;refine Sz0 ?_;exact Qc (congrArg PV.bool (decide_eq_decide.2 (JC hp.last hq.last))) rfl
theorem RB.raw{k:Nat}{t:aP}(h:RB k t)(hk:1<=k):Raw k t.n t.a t.d:=⟨h.r.1,h.r.2.1,h.r.2.2.1,h.r.2.2.2,hk⟩
theorem ajS{s t:aP}{E:Nat}(hs:MB E s.m)(ht:MB E t.m)(hE:E<=2^38):Qd Tryz.prog 136 [PV.r8 s,PV.r8 t] (· = .int .i64 (bm s.m t.m)):=by refine aE Qg Tryz.func136 SA fun C hP=>?_;refine Sz0 ?_;refine Qb hP (Lg (o:=0) hs ht Oz) ?_;refine Sz0 ?_;exact Qc (by rw[DF]) rfl
theorem Cp{l:List aP}{k:Nat}(hb:∀t∈l,RB k t)(dR:1<=k)(hk:k<2^36)(jm:l.length<2^40):Qd Tryz.prog 72 [PV.jI l] (· = .bool (dz l)):=by
 have lO:=L1 l;have bad:∀ {b:Bool},(b=true->False)->b=false:=fun {b} h=>by cases b<;>simp_all
 refine aE Qg Tryz.func72 am5 fun C hP=>?_;refine Sz0 ?_;refine Qi dV [(2,4),(7,42)] [4] (fun n J hp=>∃i,n=l.length-i/\i<=l.length/\(∀j (h:j<l.length),j<i->gC l[j]=true)/\(∀j (h:j+1<l.length),j+1<i->0<bm l[j].m l[j+1].m)/\J 7= .int .i64 (i:Nat)) l.length ?_ ?_
 ·refine⟨0,rfl,by omega,by omega,by omega,?_⟩;refine Sz0 ?_;rfl
 rintro _ J h ⟨i,rfl,hi,h1,h2,h7⟩;refine Sz1 h7 ?_;refine Qa (fun hg=>?_) (fun hg=>?_)
 ·have al:i<l.length:=by omega
  have dU:=hb _ (Kah al);have hr:=(RB.raw dU dR).rs;have kZ:=dU.l;have zg:dz l=true->gC l[i]=true:=fun h=>(lO.1 h).1 i al;have M1:∀(j:Nat)(hj:j+1=i),dz l=true->0<bm (l[j]'Oz).m l[i].m:=fun j hj h=>by subst hj;exact(lO.1 h).2 j al
  have Et:gC l[i]=true->∀j (h:j<l.length),j<i+1->gC l[j]=true:=fun h j hj im=>by
   by_cases e:j=i
   ·subst e;exact h
   ·exact h1 j hj Oz
  have NG:∀(j:Nat)(hj:j+1=i),MB 1048576 (l[j]'Oz).m:=fun j hj=>by have:=h1 j Oz Oz;simp only[gC,KaC]at this;exact MB.tA this.2.2
  have Eu:(∀(j:Nat)(hj:j+1=i),0<bm (l[j]'Oz).m l[i].m)->∀j (h:j+1<l.length),j+1<i+1->0<bm l[j].m l[j+1].m:=fun h j hj im=>by
   by_cases e:j+1=i
   ·subst e;exact h j rfl
   ·exact h2 j hj Oz
  generalize hx:l[i]=x at *
  have cM:rs (rv x.n x.a x.d)<2^36:=by omega
  refine Sz2 h7 hx ?_;refine Qb hP (KX (RB.raw dU dR) hk) ?_;refine Sz1 h7 ?_;cases bR:lB x.n x.a x.d
  ·have hf:dz l=false:=bad fun h=>by have:=zg h;simp[gC,bR]at this
   refine Sz2 h7 @Bool.not_false ?_;exact Qc (by rw[hf]) rfl
  refine Sz2 h7 @Bool.not_true ?_;refine Qb hP (Cy (RB.raw dU dR) hk) ?_;refine Sz1 h7 ?_;refine fb (fun hz=>?_) (fun hz=>?_)
  ·have hf:dz l=false:=bad fun h=>by have:=zg h;simp[gC,aP.q,dy.1 hz]at this
   refine Sz1 h7 ?_;exact Qc (by rw[hf]) rfl
  refine Sz1 h7 ?_;refine Qb hP (Cm Oz) ?_;refine Sz1 h7 ?_;cases lf:ck x.m
  ·have hf:dz l=false:=bad fun h=>by have:=zg h;simp[gC,lf]at this
   refine Sz2 h7 @Bool.not_false ?_;exact Qc (by rw[hf]) rfl
  have Fa:gC x=true:=by simp only[gC,bR,lf,KcA,Bool.and_true,decide_eq_true_eq];exact fun h=>hz (dy.2 h)
  refine Sz2 h7 @Bool.not_true ?_;refine fN (fun uq=>?_) (fun uq=>?_)
  ·obtain⟨j,rfl⟩:∃j,i=j+1:=⟨i-1,by omega⟩
   have e:((j+1:Nat):Int)-1=j:=by omega
   have tg:j<l.length:=by omega
   have zH:=NG j rfl;have M3:=M1 j rfl;have MX:0<bm (l[j]'Oz).m x.m->∀j2 (h:j2+1<l.length),j2+1<j+1+1->0<bm l[j2].m l[j2+1].m:=fun h=>Eu (fun j' et=>by
    obtain rfl:j'=j:=by omega
    exact h)
   generalize hy:l[j]'Oz=y at *
   refine Sz3 h7 e hy ?_;refine Qb hP (ajS (s:=y) (t:=x) zH (MB.tA lf) Oz) ?_;refine Sz2 h7 e ?_;refine Qa (fun hc=>?_) (fun hc=>?_)
   ·have hf:dz l=false:=bad fun h=>by have:=M3 h;omega
    refine Sz1 h7 ?_;exact Qc (by rw[hf]) rfl
   ·refine Sz1 h7 ?_;refine Qf (l.length-(j+1+1)) Oz ⟨j+1+1,rfl,by omega,Et Fa,MX Oz,?_⟩;exact Tz0
  ·obtain rfl:i=0:=by omega
   refine Sz1 h7 ?_;refine Qf (l.length-1) Oz ⟨1,rfl,by omega,Et Fa,Eu (fun j hj=>by omega),?_⟩;exact Tz0
 ·obtain rfl:i=l.length:=by omega
  have hf:dz l=true:=lO.2 ⟨fun j hj=>h1 j hj hj,fun j hj=>h2 j hj hj⟩;refine Sz0 ?_;exact Qc (by rw[hf]) rfl
theorem Qz4{p:List Tm}{f:Nat}{g:Tm->Bool}(hf:∀t∈p,Qd Tryz.prog f [PV.term t] (· = .bool (g t)))(cW:p.length<=2^36):
  Qd Tryz.prog 225 [PV.aL p,.fn f [] []] (· = .int .i64 (wT g p)):=by
 refine aE Qg Tryz.func225 aj0 fun C hP=>?_;refine Sz0 ?_;refine Qi dV [(4,5),(8,18)] [] (fun n J hp=>∃i,n=p.length-i/\i<=p.length/\(∀j (h:j<p.length),j<i->g p[j]=false)/\J 8= .int .i64 (i:Nat)) p.length ?_ ?_
 ·refine⟨0,rfl,by omega,by omega,?_⟩;refine Sz0 ?_;rfl
 rintro _ J h ⟨i,rfl,hi,h1,h8⟩;refine Sz1 h8 ?_;refine Qa (fun hg=>?_) (fun hg=>?_)
 ·have al:i<p.length:=by omega
  have mA:=hf _ (Kah al);have uo:=fun h=>Rn (g:=g) al h h1;have fg:g p[i]=false->∀j (h:j<p.length),j<i+1->g p[j]=false:=fun h j hj im=>by
   by_cases e:j=i
   ·subst e;exact h
   ·exact h1 j hj Oz
  generalize hx:p[i]=x at *
  refine Sz2 h8 hx ?_;refine Qb hP mA ?_;refine Sz2 h8 hx ?_;cases EG:g x
  ·refine Sz1 h8 ?_;refine Qf (p.length-(i+1)) Oz ⟨i+1,rfl,by omega,fg EG,?_⟩;exact Tz0
  ·refine Sz1 h8 ?_;exact Qc (by rw[uo EG]) rfl
 ·obtain rfl:i=p.length:=by omega
  refine Sz0 ?_;exact Qc (by rw[Wp (fun j hj=>h1 j hj hj)]) rfl
theorem Qz5{p:List Int}{f:Nat}{g:Int->Bool}(hf:∀t∈p,Qd Tryz.prog f [.int .i64 t] (· = .bool (g t)))(cW:p.length<=2^36):
  Qd Tryz.prog 226 [PV.mono p,.fn f [] []] (· = .int .i64 (wT g p)):=by
 refine aE Qg Tryz.func226 aj1 fun C hP=>?_;refine Sz0 ?_;refine Qi dV [(4,5),(8,18)] [] (fun n J hp=>∃i,n=p.length-i/\i<=p.length/\(∀j (h:j<p.length),j<i->g p[j]=false)/\J 8= .int .i64 (i:Nat)) p.length ?_ ?_
 ·refine⟨0,rfl,by omega,by omega,?_⟩;refine Sz0 ?_;rfl
 rintro _ J h ⟨i,rfl,hi,h1,h8⟩;refine Sz1 h8 ?_;refine Qa (fun hg=>?_) (fun hg=>?_)
 ·have al:i<p.length:=by omega
  have mA:=hf _ (Kah al);have uo:=fun h=>Rn (g:=g) al h h1;have fg:g p[i]=false->∀j (h:j<p.length),j<i+1->g p[j]=false:=fun h j hj im=>by
   by_cases e:j=i
   ·subst e;exact h
   ·exact h1 j hj Oz
  generalize hx:p[i]=x at *
  refine Sz2 h8 hx ?_;refine Qb hP mA ?_;refine Sz2 h8 hx ?_;cases EG:g x
  ·refine Sz1 h8 ?_;refine Qf (p.length-(i+1)) Oz ⟨i+1,rfl,by omega,fg EG,?_⟩;exact Tz0
  ·refine Sz1 h8 ?_;exact Qc (by rw[uo EG]) rfl
 ·obtain rfl:i=p.length:=by omega
  refine Sz0 ?_;exact Qc (by rw[Wp (fun j hj=>h1 j hj hj)]) rfl
theorem Qu8{p:List Tm}{f:Nat}{g:Tm->Bool}(hf:∀t∈p,Qd Tryz.prog f [PV.term t] (· = .bool (g t)))(cW:p.length<=2^36):
  Qd Tryz.prog 208 [PV.aL p,.fn f [] []] (· = .bool (p.any g)):=by
 refine aE Qg Tryz.func208 ajY fun C hP=>?_;refine Sz0 ?_;refine Qb hP (Qz4 hf cW) ?_;refine Sz0 ?_;exact Qc (congrArg PV.bool (Pt g p)) rfl
theorem Qu9{p:List Int}{f:Nat}{g:Int->Bool}(hf:∀t∈p,Qd Tryz.prog f [.int .i64 t] (· = .bool (g t)))(cW:p.length<=2^36):
  Qd Tryz.prog 210 [PV.mono p,.fn f [] []] (· = .bool (p.any g)):=by
 refine aE Qg Tryz.func210 ajZ fun C hP=>?_;refine Sz0 ?_;refine Qb hP (Qz5 hf cW) ?_;refine Sz0 ?_;exact Qc (congrArg PV.bool (Pt g p)) rfl
def apX:ay:=⟨24,[.t 2],Zr (YE 2)<|Zr (Yp 5 0<|
 Zm 3 6 .nil)<| .seq (.block 0<| .loop<| .seq (Zr (YB 7 3 1<|
 Zg 9 true (.ld 14 1 false (.t 13))<|
 Zg 9 true (.bin 15 .eql false (.t 14) (.c (.int .u16 0)))<|
 Yq 16 9 15 .nil)<| .cond (.t 16) .skip (.exit 0))<| .block 1<| .rg (rM 17 3))<|Zr (YE 4)<|Zr (YY 19 4 0 3<|
 uj 22 1 20 21<|
 mo 23 1 2 155 19 22<|
 Ye 2 23) .ret⟩
theorem ajT:Qe Tryz.prog Tryz.f146=some apX:=by kernel_rfl
def c84:ay:=⟨15,[.t 2],Zr (YE 2)<|Zr (YE 3)<| .seq (.block 0<| .loop<| .seq (Zr (Zm 4 0<|
 Zo (.bin 5 .gtr false (.t 4) (.c (.int .u64 0))) .nil)<| .cond (.t 5) .skip (.exit 0))<| .block 1<|Zr (Ya 6 3 0<|
 Zo (.bin 8 .rem false (.t 7) (.c (.int .u64 65536)))<|
 jV 9 8<|
 Zo (.bs 10 1 155 [.t 9])<|
 mo 11 1 2 155 6 10<|
 Zm 3 11 .nil)<| .rg (Zm 12 0<|
 Zo (.bin 13 .quo false (.t 12) (.c (.int .u64 65536)))<|
 Ye 0 13))<|Zr (jC 14 3 2) .ret⟩
theorem am9:Qe Tryz.prog Tryz.f84=some c84:=by kernel_rfl
def aqM:ay:=⟨21,[.t 2],Zr (Zo (.mv 2 (.c (.int .u64 0))) .nil)<|Zr (Zo (.mv 3 (.c (.int .u64 0))) .nil)<| .seq (Zr (Yp 5 0<|
 Zk 7 .sub 6 1<|
 Zm 4 7 .nil)<| .block 0<| .loop<| .seq (Zr (Zm 8 4<|
 Zk 9 .geq 8 0 .nil)<| .cond (.t 9) .skip (.exit 0))<| .seq (.block 1<| .rg (Zm 12 3<|
 Zo (.bin 13 .mul false (.t 12) (.c (.int .u64 65536)))<|
 Ym 14 0 4<|
 nH 18 17<|
 dx 19 13 18<|
 Ye 3 19))<| .rg (Zm 10 4<|
 Zk 11 .sub 10 1<|
 Zm 4 11 .nil))<|Zr (YZ 20 3 2) .ret⟩
theorem ajU:Qe Tryz.prog Tryz.f197=some aqM:=by kernel_rfl
def aqQ:ay:=⟨14,[.t 4],Zr (Yj 4 0)<| .seq (Zr (Yo 5 1 0)<| .cond (.t 8) (Zr (Ym 9 0 1<|
 Zo (.conv 13 .i64 (.t 12))<|
 Zm 4 13 .nil) .ret) .skip)<|Zr (Yj 4 0) .ret⟩
theorem ajV:Qe Tryz.prog Tryz.f200=some aqQ:=by kernel_rfl
def aq4:ay:=⟨30,[.t 4],Zr (Yj 4 0)<| .seq (Zr (kR 6<|
 Zo (.mx 10 (.t 7) (.t 9))<|
 Zk 11 .sub 10 1<|
 Zm 5 11 .nil)<| .block 0<| .loop<| .seq (Zr (Zm 12 5<|
 Zk 13 .geq 12 0 .nil)<| .cond (.t 13) .skip (.exit 0))<| .seq (.block 1<| .seq (Zr (YK 16 0 5 200<|
 YK 19 1 5 200<|
 Yz 22 18 21)<| .cond (.t 22) (Zr (kQ 4) .ret) .skip)<|Zr (YK 23 0 5 200<|
 YK 26 1 5 200<|
 Zb 29 .gtr 25 28 .nil)<| .cond (.t 29) (Zr (Yj 4 1) .ret) .skip)<| .rg (Zm 14 5<|
 Zk 15 .sub 14 1<|
 Zm 5 15 .nil))<|Zr (Yj 4 0) .ret⟩
theorem ajW:Qe Tryz.prog Tryz.f215=some aq4:=by kernel_rfl
def aqy:ay:=⟨44,[.t 4],Zr (YE 4)<|Zr (YE 5)<|Zr (Yj 6 0)<| .seq (Zr (Yj 7 0)<| .block 0<| .loop<| .seq (Zr (DS 9 7 7<|
 Yw 19 18 6<|
 Zg 19 false (.bin 21 .gtr false (.t 20) (.c (Zz 0)))<|
 fQ 22 19 21)<| .cond (.t 22) .skip (.exit 0))<| .seq (.block 1<|Zr (YK 25 0 7 200<|
 YK 28 1 7 200<|
 dx 31 27 30<|
 Zm 32 6<|
 dx 33 31 32<|
 Ye 8 33)<|Zr (Ya 34 5 8<|
 Zk 36 .rem 35 65536<|
 jV 37 36<|
 Ys 38 1 155 37 2 34 5)<| .rg (Zm 40 8<|
 Zk 41 .quo 40 65536<|
 Ye 6 41))<| .rg (YX 23 7 7))<|Zr (YD 42 5 146<|
 Ye 4 43) .ret⟩
theorem ajX:Qe Tryz.prog Tryz.f184=some aqy:=by kernel_rfl
def aqO:ay:=⟨40,[.t 4,.t 5],Zr (eV 4 0)<| .seq (Zr (YK 10 0 1 215<|
 Zk 13 .lss 12 0 .nil)<| .cond (.t 13) (Zr (eV 4 2) .ret) .skip)<|Zr (YE 6)<|Zr (Yj 7 0)<| .seq (Zr (Yj 8 0)<| .block 0<| .loop<| .seq (Zr (Yo 14 8 0)<| .cond (.t 17) .skip (.exit 0))<| .seq (.block 1<|Zr (YK 20 0 8 200<|
 YK 23 1 8 200<|
 Zb 26 .sub 22 25<|
 Zm 27 7<|
 Zb 28 .sub 26 27<|
 Ye 9 28)<|Zr (Yj 7 0)<| .seq (Zr (Zm 29 9<|
 Zk 30 .lss 29 0 .nil)<| .cond (.t 30) (Zr (Zm 31 9<|
 Zk 32 .add 31 65536<|
 Ye 9 32)<| .rg (Yj 7 1)) .skip)<| .rg (Ya 33 6 9<|
 jV 35 34<|
 Ys 36 1 155 35 2 33 6))<| .rg (fR 18 8))<|Zr (YD 38 6 146<|
 Zm 4 39<|
 Yj 5 0) .ret⟩
theorem aky:Qe Tryz.prog Tryz.f199=some aqO:=by kernel_rfl
def ap0:ay:=⟨65,[.t 4],Zr (YE 4)<|Zr (kR 10<|
 dx 14 11 13<|
 Zk 15 .add 14 1<|
 sP 16 15 15<|
 Zm 5 16 .nil)<| .seq (Zr (Yj 6 0)<| .block 0<| .loop<| .seq (Zr (Yo 17 6 0)<| .cond (.t 20) .skip (.exit 0))<| .seq (.block 1<|Zr (Zo (.mv 7 (.c (.int .u64 0))) .nil)<|Zr (Yj 8 0)<| .block 2<| .loop<| .seq (Zr (Ya 23 8 1<|
 Zn 25 24<|
 Zb 26 .lss 23 25<|
 Yw 27 26 7<|
 Zg 27 false (.bin 29 .gtr false (.t 28) (.c (.int .u64 0)))<|
 fQ 30 27 29)<| .cond (.t 30) .skip (.exit 2))<| .seq (.block 3<|Zr (YY 33 5 6 8<|
 dx 36 34 35<|
 YM 37 33 36<|
 nH 39 38<|
 Ym 40 0 6<|
 nH 44 43<|
 Ya 45 1 8<|
 Zm 51 7<|
 Yr 47 200 45 46<|
 nH 48 47<|
 Zb 49 .mul 44 48<|
 dx 50 39 49<|
 dx 52 50 51<|
 Ye 9 52)<|Zr (YY 53 5 6 8<|
 dx 56 54 55<|
 Zm 57 9<|
 Zo (.bin 58 .rem false (.t 57) (.c (.int .u64 65536)))<|
 jV 59 58<|
 YS 60 1 53 56 59)<| .rg (Zm 61 9<|
 Zo (.bin 62 .quo false (.t 61) (.c (.int .u64 65536)))<|
 Ye 7 62))<| .rg (YX 31 8 8))<| .rg (YX 21 6 6))<|Zr (YD 63 5 146<|
 Ye 4 64) .ret⟩
theorem akz:Qe Tryz.prog Tryz.f149=some ap0:=by kernel_rfl
def aqN:ay:=⟨27,[.t 4],Zr (Zo (.mv 4 (.c (.int .u64 0))) .nil)<|Zr (Zo (.mv 5 (.c (.int .u64 0)))<|
 Zo (.mv 6 (.c (.int .u64 65535))) .nil)<| .seq (.block 0<| .loop<| .seq (Zr (Ya 8 5 6<|
 Yz 10 8 9)<| .cond (.t 10) .skip (.exit 0))<| .block 1<|Zr (Ya 11 5 6<|
 dx 13 11 12<|
 Zo (.bin 14 .add false (.t 13) (.c (.int .u64 1)))<|
 Zo (.bin 15 .quo false (.t 14) (.c (.int .u64 2)))<|
 Zm 7 15 .nil)<|Zr (Ya 16 1 7<|
 Yl 18 84 17<|
 Yn 19 149 16 18<|
 Zm 20 0<|
 Yn 21 215 19 20<|
 Zk 22 .leq 21 0 .nil)<| .cond (.t 22) (.rg (YZ 23 7 5)) (.rg (Zm 24 7<|
 Zo (.bin 25 .sub false (.t 24) (.c (.int .u64 1)))<|
 Ye 6 25)))<|Zr (YZ 26 5 4) .ret⟩
theorem akA:Qe Tryz.prog Tryz.f198=some aqN:=by kernel_rfl
def apY:ay:=⟨73,[.t 4,.t 5,.t 6],Zr (Yf 4<|
 eV 5 0)<|Zr (nJ 11 146<|
 Zm 0 12<|
 Ye 1 14)<| .seq (Zr (Yp 15 1<|
 jj 17 16 0)<| .cond (.t 17) (Zr (Yf 4<|
 eV 5 3) .ret) .skip)<| .seq (Zr (Yp 18 0<|
 Zk 20 .leq 19 4<|
 YN 21 20 1<|
 Zg 21 true (.len 23 (.t 22))<|
 Zg 21 true (.bin 24 .leq false (.t 23) (.c (Zz 4)))<|
 Yq 25 21 24 .nil)<| .cond (.t 25) (Zr (nJ 26 197<|
 Zb 30 .quo 27 29<|
 Yl 31 84 30<|
 nJ 32 197<|
 Zb 36 .rem 33 35<|
 Yl 37 84 36<|
 Ya 4 31 37<|
 Yj 6 0) .ret) .skip)<|Zr (Yf 7<|
 YE 8)<| .seq (Zr (Yp 38 0<|
 Zk 40 .sub 39 1<|
 Ye 9 40)<| .block 0<| .loop<| .seq (Zr (Zm 41 9<|
 Zk 42 .geq 41 0 .nil)<| .cond (.t 42) .skip (.exit 0))<| .seq (.block 1<|Zr (Ym 45 0 9<|
 Zo (.bs 49 1 155 [.t 48])<|
 Zm 50 8<|
 mo 51 1 2 155 49 50<|
 Yl 52 146 51<|
 Ye 8 52)<|Zr (YK 53 8 1 198<|
 Ye 10 55)<|Zr (Zm 56 10<|
 jV 57 56<|
 Zo (.bs 58 1 155 [.t 57])<|
 Zm 59 7<|
 mo 60 1 2 155 58 59<|
 Ye 7 60)<| .rg (Ya 62 8 1<|
 YD 64 10 84<|
 Yn 66 149 63 65<|
 Yn 67 199 62 66<|
 Zm 61 67<|
 Yd 68 61<|
 Ye 8 68))<| .rg (rM 43 9))<|Zr (YD 70 7 146<|
 Zm 72 8<|
 Ya 4 71 72<|
 Yj 6 0) .ret⟩
theorem akB:Qe Tryz.prog Tryz.f147=some apY:=by kernel_rfl
def c83:ay:=⟨25,[.t 4],Zr (YE 4)<|Zr (nJ 8 146<|
 Zm 0 9<|
 Zm 1 11 .nil)<| .seq (.block 0<| .loop<| .seq (Zr (Yp 12 1<|
 Zk 14 .gtr 13 0 .nil)<| .cond (.t 14) .skip (.exit 0))<| .block 1<|Zr (YK 16 0 1 147<|
 gy 15<|
 Zo (.ext 21 (.t 15) 2)<|
 Ya 5 19 20<|
 Ye 7 21)<| .rg (Ya 22 1 6<|
 dp 0 22 23))<|Zr (YZ 24 0 4) .ret⟩
theorem ana:Qe Tryz.prog Tryz.f83=some c83:=by kernel_rfl
def c81:ay:=⟨15,[.t 2],Zr (Yh 2)<|Zr (Yp 3 0<|
 Zk 5 .eql 4 0<|
 qM 6 5 0 0<|
 Zg 6 false (.len 9 (.t 8))<|
 Zg 6 false (.bin 10 .sub false (.t 9) (.c (Zz 1)))<|
 Zg 6 false (.idx 11 1 (.t 7) (.t 10))<|
 Zg 6 false (.ld 12 1 false (.t 11))<|
 Zg 6 false (.bin 13 .neq false (.t 12) (.c (.int .u16 0)))<|
 Yk 14 6 13<|
 Zm 2 14 .nil) .ret⟩
theorem anb:Qe Tryz.prog Tryz.f81=some c81:=by kernel_rfl
def c82:ay:=⟨26,[.t 4],Zr (Yh 4)<| .seq (Zr (kR 6<|
 jU 10 7 9)<| .cond (.t 10) (Zr (Yh 4) .ret) .skip)<| .seq (Zr (Yj 5 0)<| .block 0<| .loop<| .seq (Zr (Yo 11 5 0)<| .cond (.t 14) .skip (.exit 0))<| .seq (.block 1<|Zr (Ym 17 0 5<|
 Ym 21 1 5<|
 jU 25 20 24)<| .cond (.t 25) (Zr (Yh 4) .ret) .skip)<| .rg (fR 15 5))<|Zr (YO 4) .ret⟩
theorem anc:Qe Tryz.prog Tryz.f82=some c82:=by kernel_rfl
def c80:ay:=⟨17,[.t 2],Zr (jT 1 49 0<|
 Yh 2)<|Zr (Yi 3 1 1<|
 Yl 5 81 4<|
 Zm 6 5<|
 YT 6 0 1<|
 Zg 6 true (.mv 9 (.t 8))<|
 YT 9 1 1<|
 Zg 9 true (.len 12 (.t 11))<|
 Zg 9 true (.bin 13 .eql false (.t 12) (.c (Zz 0)))<|
 Zg 6 true (.pick 14 (.t 9) (.t 13) (.c (.bool false)))<|
 Zg 6 true (.un 15 .not (.t 14))<|
 Yq 16 6 15<|
 Ye 2 16) .ret⟩
theorem ane:Qe Tryz.prog Tryz.f80=some c80:=by kernel_rfl
def aqx:ay:=⟨15,[.cell 4 2 true],Zr (ue 4)<|Zr (YD 5 1 146<|
 Zm 1 6 .nil)<|Zr (DT 7<|
 Zs 2 4 14 .nil) .ret⟩
theorem akC:Qe Tryz.prog Tryz.f183=some aqx:=by kernel_rfl
def ap3:ay:=⟨8,[.cell 2 2 true],Zr (jT 1 49 0<|
 uf 2)<|Zr (ff 3 0 1 1 1<|
 Yn 7 183 4 6<|
 Zs 2 2 7 .nil) .ret⟩
theorem akD:Qe Tryz.prog Tryz.f152=some ap3:=by kernel_rfl
def apy:ay:=⟨17,[.cell 2 2 true],Zr (uf 2)<| .seq (Zr (Zm 3 0<|
 Zk 4 .lss 3 0 .nil)<| .cond (.t 4) (Zr (Zm 5 0<|
 Zk 6 .add 5 1<|
 Zo (.un 7 .neg (.t 6))<|
 nH 8 7<|
 Yl 9 84 8<|
 Zq 10 false 84 [.c (.int .u64 1)]<|
 Yn 11 184 9 10<|
 Zq 12 false 183 [.c (.bool true),.t 11]<|
 Zs 2 2 12 .nil) .ret) .skip)<|Zr (Zm 13 0<|
 nH 14 13<|
 Yl 15 84 14<|
 Zq 16 false 183 [.c (.bool false),.t 15]<|
 Zs 2 2 16 .nil) .ret⟩
theorem akE:Qe Tryz.prog Tryz.f120=some apy:=by kernel_rfl
def c88:ay:=⟨11,[.t 2],Zr (jT 1 49 0<|
 Yj 2 0)<|Zr (dn 3 2 1 152<|
 Zs 2 1 4 .nil)<| .seq (Zr (Yi 5 1 1<|
 Zn 7 6<|
 jj 8 7 0)<| .cond (.t 8) (Zr (Yj 2 0) .ret) .skip)<| .seq (Zr (Yi 9 0 1 .nil)<| .cond (.t 10) (Zr (kQ 2) .ret) .skip)<|Zr (Yj 2 1) .ret⟩
theorem anf:Qe Tryz.prog Tryz.f88=some c88:=by kernel_rfl
def aqw:ay:=⟨38,[.t 4],Zr (uh 2<|
 Yj 4 0)<|Zr (Bq 5 2 152)<| .seq (.block 0<|Zr (Yi 10 0 2<|
 Zm 12 11<|
 YT 12 0 3<|
 Zg 12 true (.un 15 .not (.t 14))<|
 Yq 16 12 15<|
 Zm 9 16 .nil)<| .cond (.t 9) (Zr (kQ 4) .ret) (Zr (Yi 18 0 3<|
 Zm 20 19<|
 YT 20 0 2<|
 Zg 20 true (.un 23 .not (.t 22))<|
 Yq 24 20 23<|
 Zm 17 24 .nil)<| .cond (.t 17) (Zr (Yj 4 1) .ret) (Zr (Yi 26 0 2<|
 Zm 25 27 .nil)<| .cond (.t 25) (Zr (ff 28 1 3 1 2<|
 Yn 32 215 29 31<|
 Ye 4 32) .ret) .skip)))<|Zr (ff 33 1 2 1 3<|
 Yn 37 215 34 36<|
 Ye 4 37) .ret⟩
theorem akF:Qe Tryz.prog Tryz.f182=some aqw:=by kernel_rfl
def apI:ay:=⟨9,[.cell 2 2 true],Zr (jT 1 49 0<|
 uf 2)<|Zr (Yi 3 0 1<|
 Zu 5 4<|
 Yi 6 1 1<|
 Yn 8 183 5 7<|
 Zs 2 2 8 .nil) .ret⟩
theorem akG:Qe Tryz.prog Tryz.f130=some apI:=by kernel_rfl
def ap1:ay:=⟨48,[.cell 4 2 true],Zr (uh 2<|
 ue 4)<| .seq (Zr (ff 9 0 2 0 3<|
 Zo (.bin 13 .eql true (.t 10) (.t 12)) .nil)<| .cond (.t 13) (Zr (ff 14 0 2 1 2<|
 Yi 18 1 3<|
 Yr 20 184 17 19<|
 jD 21 183 15 20 2 4) .ret) .skip)<| .seq (Zr (ff 23 1 2 1 3<|
 Yn 27 199 24 26<|
 Zm 22 27<|
 Yd 28 22<|
 dp 5 28 29)<|Zr (Zm 30 6<|
 jj 31 30 0)<| .cond (.t 31) (Zr (Yi 32 0 2<|
 Zm 34 5<|
 Yn 35 183 33 34<|
 Zs 2 4 35 .nil) .ret) .skip)<|Zr (ff 37 1 3 1 2<|
 Yn 41 199 38 40<|
 Zm 36 41<|
 Yd 42 36<|
 dp 7 42 43)<|Zr (Yi 44 0 3<|
 Zm 46 7<|
 Yn 47 183 45 46<|
 Zs 2 4 47 .nil) .ret⟩
theorem akH:Qe Tryz.prog Tryz.f150=some ap1:=by kernel_rfl
def apZ:ay:=⟨16,[.cell 4 2 true],Zr (uh 2<|
 ue 4)<|Zr (ff 5 0 2 0 3<|
 Zo (.bin 9 .neq true (.t 6) (.t 8))<|
 ff 10 1 2 1 3<|
 Yr 14 149 11 13<|
 jD 15 183 9 14 2 4) .ret⟩
theorem akI:Qe Tryz.prog Tryz.f148=some apZ:=by kernel_rfl
def c25:ay:=⟨27,[.t 2],Zr (iS 1 51<|
 Yh 2)<|Zr (YP 3 1 2<|
 Yl 5 80 4<|
 Zm 6 5<|
 YT 6 2 1<|
 Zg 6 true (.call (some 9) false (.c (.fn 81 [] [])) [.t 8])<|
 Yq 10 6 9<|
 Zm 11 10<|
 Zg 11 true (.gI 12 0 (.t 1))<|
 Zg 11 true (.gI 13 1 (.t 12))<|
 Zg 11 true (.ld 14 1 false (.t 13))<|
 Zg 11 true (.gI 15 2 (.t 1))<|
 Zg 11 true (.ld 16 1 false (.t 15))<|
 Zg 11 true (.call (some 17) false (.c (.fn 83 [] [])) [.t 14,.t 16])<|
 Zg 11 true (.call (some 18) false (.c (.fn 84 [] [])) [.c (.int .u64 1)])<|
 Zg 11 true (.call (some 19) false (.c (.fn 82 [] [])) [.t 17,.t 18])<|
 Yq 20 11 19<|
 Zm 21 20<|
 YT 21 2 1<|
 Zg 21 true (.len 24 (.t 23))<|
 Zg 21 true (.bin 25 .gtr false (.t 24) (.c (Zz 0)))<|
 Yq 26 21 25<|
 Ye 2 26) .ret⟩
theorem ang:Qe Tryz.prog Tryz.f25=some c25:=by kernel_rfl
def apx:ay:=⟨44,[.cell 4 3 true],Zr (Zo (.box 2 2 49 (.t 0))<|
 Yc 4 .nil)<| .seq (Zr (YD 12 1 146<|
 Zn 14 13<|
 jj 15 14 0)<| .cond (.t 15) (Zr (Zq 16 false 84 [.c (.int .u64 1)]<|
 Zo (.eB 17 [.bool false,.au,.au] [(2,1,.t 16)])<|
 jE 3 17) .ret) .skip)<|Zr (Yi 18 1 2<|
 Zm 20 1<|
 Yn 21 83 19 20<|
 Ye 5 21)<|Zr (Yi 23 1 2<|
 Zm 25 5<|
 Yn 26 147 24 25<|
 Zm 22 26<|
 xh 27 22 6 8)<|Zr (YK 31 1 5 147<|
 gy 30<|
 Zo (.ext 36 (.t 30) 2)<|
 Ya 9 34 35<|
 Ye 11 36)<|Zr (Yi 37 0 2<|
 Zm 39 6<|
 Zo (.eB 40 [.bool false,.au] [(0,1,.t 38),(1,1,.t 39)])<|
 Yl 41 152 40<|
 Zm 42 9<|
 yZ 43 41 42<|
 jE 3 43) .ret⟩
theorem akJ:Qe Tryz.prog Tryz.f119=some apx:=by kernel_rfl
def c89:ay:=⟨8,[.cell 2 3 true],Zr (iS 1 51<|
 xe 2)<|Zr (YP 3 1 2<|
 Yi 5 2 1<|
 Yn 7 119 4 6<|
 Zs 3 2 7 .nil) .ret⟩
theorem anP:Qe Tryz.prog Tryz.f89=some c89:=by kernel_rfl
def apz:ay:=⟨18,[.cell 4 3 true,.t 5],Zr (uh 2<|
 Yc 4<|
 Yj 5 0)<| .seq (Zr (dn 6 2 3 88<|
 jj 8 7 0)<| .cond (.t 8) (Zr (Zo (.eB 9 [.bool false,.au,.au] [])<|
 Zs 3 4 9<|
 Yj 5 3) .ret) .skip)<| .seq (Zr (Yi 10 0 3 .nil)<| .cond (.t 11) (.rg (dn 12 2 2 130<|
 Zs 2 2 13 .nil)) .skip)<|Zr (Zh 14 2 2<|
 Yi 15 1 3<|
 Yn 17 119 14 16<|
 Zs 3 4 17<|
 Yj 5 0) .ret⟩
theorem akK:Qe Tryz.prog Tryz.f121=some apz:=by kernel_rfl
def c50:ay:=⟨7,[.cell 2 3 true],Zr (xe 2)<|Zr (YD 3 0 120<|
 Zq 5 false 84 [.c (.int .u64 1)]<|
 Yn 6 119 4 5<|
 Zs 3 2 6 .nil) .ret⟩
theorem anQ:Qe Tryz.prog Tryz.f50=some c50:=by kernel_rfl
def ap2:ay:=⟨5,[.cell 2 2 true],Zr (uf 2)<|Zr (Zm 3 0<|
 Zo (.eB 4 [.bool false,.au] [(1,1,.t 3)])<|
 Zs 2 2 4 .nil) .ret⟩
theorem akL:Qe Tryz.prog Tryz.f151=some ap2:=by kernel_rfl
def c27:ay:=⟨7,[.t 2],Zr (iS 1 51<|
 Yj 2 0)<|Zr (Zh 3 3 1<|
 Yl 4 89 3<|
 Zo (.Bv 5 0 2 true (.t 4))<|
 Yl 6 88 5<|
 Zm 2 6 .nil) .ret⟩
theorem anR:Qe Tryz.prog Tryz.f27=some c27:=by kernel_rfl
def apw:ay:=⟨22,[.t 4],Zr (YU 2 51<|
 Yj 4 0)<|Zr (Bq 5 3 89)<|Zr (YP 9 2 2<|
 Yi 11 2 3<|
 YP 15 3 2<|
 Yi 17 2 2<|
 dQ 13 151 12<|
 Yr 14 148 10 13<|
 dQ 19 151 18<|
 Yr 20 148 16 19<|
 Yr 21 182 14 20<|
 Ye 4 21) .ret⟩
theorem akM:Qe Tryz.prog Tryz.f118=some apw:=by kernel_rfl
def c49:ay:=⟨9,[.t 4],Zr (YU 2 51<|
 Yh 4)<|Zr (mY 5 3 2 3 118<|
 Zk 8 .eql 7 0<|
 Zm 4 8 .nil) .ret⟩
theorem anS:Qe Tryz.prog Tryz.f49=some c49:=by kernel_rfl
def c63:ay:=⟨9,[.cell 2 3 true],Zr (iS 1 51<|
 xe 2)<|Zr (YP 3 1 2<|
 Yi 6 2 1<|
 dQ 5 130 4<|
 jD 8 119 5 7 3 2) .ret⟩
theorem anT:Qe Tryz.prog Tryz.f63=some c63:=by kernel_rfl
def c87:ay:=⟨28,[.cell 4 3 true],Zr (YU 2 51<|
 Yc 4 .nil)<|Zr (Bq 5 3 89)<|Zr (YP 9 2 2<|
 Yi 11 2 3<|
 YP 15 3 2<|
 Yi 17 2 2<|
 ff 22 2 2 2 3<|
 dQ 13 151 12<|
 Yr 14 148 10 13<|
 dQ 19 151 18<|
 Yr 20 148 16 19<|
 Yr 21 150 14 20<|
 Yr 26 149 23 25<|
 jD 27 119 21 26 3 4) .ret⟩
theorem anU:Qe Tryz.prog Tryz.f87=some c87:=by kernel_rfl
def apW:ay:=⟨9,[.cell 4 3 true],Zr (YU 2 51<|
 Yc 4 .nil)<|Zr (Zh 5 3 2<|
 Zh 6 3 3<|
 dQ 7 63 6<|
 jD 8 87 5 7 3 4) .ret⟩
theorem akN:Qe Tryz.prog Tryz.f145=some apW:=by kernel_rfl
def c85:ay:=⟨16,[.cell 4 3 true],Zr (YU 2 51<|
 Yc 4 .nil)<|Zr (YP 5 2 2<|
 YP 7 3 2<|
 ff 10 2 2 2 3<|
 Yr 9 148 6 8<|
 Yr 14 149 11 13<|
 jD 15 119 9 14 3 4) .ret⟩
theorem anV:Qe Tryz.prog Tryz.f85=some c85:=by kernel_rfl
def apV:ay:=⟨25,[.cell 4 3 true,.t 5],Zr (YU 2 51<|
 Yc 4<|
 Yj 5 0)<|Zr (Bq 6 3 89)<|Zr (YP 10 2 2<|
 Yi 12 2 3<|
 YP 16 3 2<|
 Yi 18 2 2<|
 dQ 14 151 13<|
 Yr 15 148 11 14<|
 dQ 20 151 19<|
 Yr 21 148 17 20<|
 Yr 22 121 15 21<|
 Yd 23 22<|
 Zs 3 4 23<|
 Ye 5 24) .ret⟩
theorem akO:Qe Tryz.prog Tryz.f143=some apV:=by kernel_rfl
theorem qm{l:List Nat}(hv:Qk l)(hl:l.length<2^42):Qd Tryz.prog 146 [PV.nat l] (· =PV.num (val l)):=by
 have as7:=Dc hv;refine aE Qg Tryz.func146 ajT fun C hP=>?_;refine Sz0 ?_;refine Qi okB [(3,3),(7,18)] [] (fun m J hp=>m<=l.length/\cut l m=ao (val l)/\J 3= .int .i64 m/\hp=aA) l.length ?_ ?_
 ·refine⟨Kae _,as7,?_⟩;exact Tz0
 rintro n J _ ⟨hn,hc,h3,rfl⟩;refine Sz1 h3 ?_;refine fN (fun hg=>?_) (fun hg=>?_)
 ·obtain _|n:=n
  ·omega
  have e:((n+1:Nat):Int)-1=n:=by omega
  simp only[cut]at hc;simp+decide (disch:=try exact D2 h3 e) only[go_sem,h3,e];refine Qa (fun hz=>?_) (fun hz=>?_)
  ·rw[if_pos (by grind)]at hc;refine Sz2 h3 e ?_;refine Qf n Oz ⟨by omega,hc,?_⟩;exact Tz0
  ·rw[if_neg (by grind)]at hc;have aw:(l.take (n+1)).length<2^42:=by rw[KaF];omega
   refine mm h3 e ?_;exact Qc (by rw[Kac (by simp),hc]) rfl
 ·obtain rfl:n=0:=by omega
  simp+decide (disch:=first|omega|rfl|(simp+decide only[go_sem,h3,Kcg,Kbu,Kbk]<;>rfl)|fail) only[go_sem,h3,Kcg,Kbu,Kbk];rw[GB (ys:=[]) rfl Oz (by simp) (by simp)];refine ij ?_;exact Qc (by show _=PV.nat (ao (val l));rw[<-hc];rfl) rfl
theorem sn{n:Nat}(hn:n<18446744073709551616):Qd Tryz.prog 84 [.int .u64 n] (· =PV.num n):=by
 have hlen:=qu hn;unfold nl at hlen;refine aE Qg Tryz.func84 am9 fun C hP=>?_;refine Sz0 ?_;refine fW 3 900 1 155 Oz Tz0 ?_;refine Qi okB [(0,0),(3,13)] [10,11,900] (fun m J hp=>∃done:List Nat,ao n=done++ao m/\m<=n/\J 0= .int .u64 m/\J 3= .ms 900 done.length/\hp 900=some ⟨1,155,cD done,false⟩) n ?_ ?_
 ·refine⟨[],rfl,Kae _,?_⟩;exact Tz0
 rintro m J hp ⟨done,hd,hm,h0,h3,hh⟩;rw[hd,Kay]at hlen;refine Sz2 h0 h3 ?_;refine Qa (fun hz=>?_) (fun hz=>?_)
 ·have aJ:m≠0:=by omega
  have nQ:ao n=(done++[m%65536])++ao (m/65536):=by rw[hd,wK aJ];simp
  refine Sz3 h0 h3 @Nat.mod_mod ?_;rw[Qr (f:=fun(x:Nat)=>.int .u16 x) (y:=m%65536) (xs:=done) (ty':=155) (fz:=false) (Tz1 hh) cE Oz rfl Oz Oz];refine Sz2 h0 h3 ?_;refine Qf (m/65536) Oz ⟨done++[m%65536],nQ,by omega,?_⟩;refine Sz2 h0 h3 ?_;simp
 ·obtain rfl:m=0:=by omega
  rw[gW,Kam]at hd;refine mm h3 hh ?_;exact Qc (by show _=PV.nat (ao n);rw[hd,Kac (by simp)]) rfl
theorem oY{a:List Nat}{i:Nat}(ha:Qk a)(hl:a.length<2^43):Qd Tryz.prog 200 [PV.nat a,.int .i64 i] (· = .int .i64 (dg a i:Nat)):=by
 refine aE Qg Tryz.func200 ajV fun C hP=>?_;refine Sz0 ?_;refine Qa (fun hi=>?_) (fun hi=>?_)
 ·have al:i<a.length:=by omega
  have Iu:=fm ha al;have hg:dg a i=a[i]:=iM al;refine Sz0 ?_;exact Qc (by rw[hg]) rfl
 ·refine Sz0 ?_;exact Qc (by rw[dg,iO Oz];rfl) rfl
theorem Gf{a:List Nat}(ha:Qk a)(hl:a.length<=4):Qd Tryz.prog 197 [PV.nat a] (· = .int .u64 (val a:Nat)):=by
 have aw:∀k,val (a.drop k)<18446744073709551616:=fun k=>by have h1:=rE (Cu ha k);have:65536^(a.drop k).length<=65536^4:=KaR Oz (by rw[Kbc];omega);omega
 refine aE Qg Tryz.func197 ajU fun C hP=>?_;refine Sz0 ?_;refine Qi okB [(3,4),(8,19)] [] (fun k J hp=>k<=a.length/\J 3= .int .u64 (val (a.drop k):Nat)/\J 4= .int .i64 ((k:Int)-1)) a.length ?_ ?_
 ·refine⟨Kae _,?_⟩;refine Sz0 ?_;simp[val]
 rintro k J h ⟨hk,h3,h4⟩;refine Sz2 h3 h4 ?_;refine Qa (fun hg=>?_) (fun hg=>?_)
 ·obtain _|n:=k
  ·omega
  have hn:n<a.length:=by omega
  have MY:=fm ha hn;have e:((n+1:Nat):Int)-1=n:=by omega
  have hv:=ot hn;have h1:=aw n;generalize eG:a[n]=x at *
  have e2:val (a.drop (n+1))*65536+x=val (a.drop n):=by omega
  refine Sz5 h3 h4 e eG e2 ?_;refine Qf n Oz ⟨by omega,?_⟩;exact Tz0
 ·obtain rfl:k=0:=by omega
  simp+decide (disch:=first|omega|rfl|(simp+decide only[go_sem,h3,Ka0]<;>rfl)|fail) only[go_sem,h3,Ka0];exact Qc rfl rfl
theorem Gv{a b:List Nat}(ha:Qk a)(hb:Qk b)(bD:a.length<2^42)(dJ:b.length<2^42):Qd Tryz.prog 215 [PV.nat a,PV.nat b] (· = .int .i64 (ji (val a) (val b))):=by
 refine aE Qg Tryz.func215 ajW fun C hP=>?_;refine Sz1 @Sp ?_;refine Qi okB [(4,5),(12,29)] [] (fun k J hp=>k<=max a.length b.length/\val (a.drop k)=val (b.drop k)/\J 5= .int .i64 ((k:Int)-1)) (max a.length b.length) ?_ ?_
 ·refine⟨Kae _,?_,?_⟩
  ·rw[Kao Oz,Kao Oz]
  ·exact Tz0
 rintro k J h ⟨hk,hv,h5⟩;refine Sz1 h5 ?_;refine Qa (fun hg=>?_) (fun hg=>?_)
 ·obtain _|n:=k
  ·omega
  have e:((n+1:Nat):Int)-1=n:=by omega
  have e1:=Aw a n;have e2:=Aw b n;have d1:=yM ha n;have d2:=yM hb n;refine Sz2 h5 e ?_;refine Qb hP (oY ha Oz) ?_;refine Sz2 h5 e ?_;refine Qb hP (oY hb Oz) ?_;refine Sz2 h5 e ?_;refine Qa (fun hc=>?_) (fun hc=>?_)
  ·have aw:=Vl (a:=a) (b:=b) ha (i:=n) Oz;refine Sz0 ?_;exact Qc (by rw[Ju aw]) rfl
  refine Sz2 h5 e ?_;refine Qb hP (oY ha Oz) ?_;refine Sz2 h5 e ?_;refine Qb hP (oY hb Oz) ?_;refine Sz2 h5 e ?_;refine Qa (fun iD=>?_) (fun iD=>?_)
  ·have aw:=Vl (a:=b) (b:=a) hb (i:=n) Oz;refine Sz0 ?_;exact Qc (by rw[Jv aw]) rfl
  ·refine Sz2 h5 e ?_;refine Qf n Oz ⟨by omega,by omega,?_⟩;exact Tz0
 ·obtain rfl:k=0:=by omega
  refine Sz0 ?_;exact Qc (by rw[R0 (by simpa using hv)]) rfl
theorem Uv{a:List Nat}(ha:Qk a)(hl:a.length<2^43):Qd Tryz.prog 81 [PV.nat a] (· = .bool (decide (a.getLast? ≠some 0))):=by
 refine aE Qg Tryz.func81 anb fun C hP=>?_;refine Sz0 ?_;refine fb (fun h0=>?_) (fun h0=>?_)
 ·have:a=[]:=KaI.1 Oz;subst this;refine Sz0 ?_;exact Qc (by simp) rfl
 ·obtain⟨k,hk⟩:∃k,a.length=k+1:=⟨a.length-1,by omega⟩
  have gK:=Mi hk;have e:((k+1:Nat):Int)-1=k:=by omega
  generalize hy:a[k]'Oz=y at *
  refine Sz3 hk e hy ?_;refine Qc (congrArg PV.bool ?_) rfl;rw[gK];exact decide_eq_decide.2 ⟨fun h h'=>h (by injection h' with h';rw[h'];rfl),fun h h'=>h (by rw[show y=0 by omega])⟩
theorem Q72{a b:List Nat}(bD:a.length<2^43)(dJ:b.length<2^43):Qd Tryz.prog 82 [PV.nat a,PV.nat b] (· = .bool (decide (a=b))):=by
 refine aE Qg Tryz.func82 anc fun C hP=>?_;refine Sz0 ?_;refine Qa (fun h0=>?_) (fun h0=>?_)
 ·refine Sz0 ?_;exact Qc (congrArg PV.bool (by rw[decide_eq_false];rintro rfl;exact h0 rfl)) rfl
 have hlen:a.length=b.length:=by omega
 refine Sz0 ?_;refine Qi okB [(4,5),(11,25)] [] (fun n J hp=>∃i,n=a.length-i/\i<=a.length/\a.take i=b.take i/\J 5= .int .i64 (i:Nat)) a.length ?_ ?_
 ·refine⟨0,rfl,by omega,by simp,?_⟩;refine Sz0 ?_;rfl
 rintro _ J h ⟨i,rfl,hi,he,h5⟩;refine Sz1 h5 ?_;refine Qa (fun hg=>?_) (fun hg=>?_)
 ·have al:i<a.length:=by omega
  have uu:i<b.length:=by omega
  have ta:=Kak al;have tb:=Kak uu;have aJ:a=b->a[i]=b[i]:=fun h=>by subst h;rfl
  generalize hx:a[i]=x at *
  generalize hy:b[i]=y at *
  refine Sz3 h5 hx hy ?_;refine Qa (fun hc=>?_) (fun hc=>?_)
  ·refine Sz0 ?_;exact Qc (congrArg PV.bool (by rw[decide_eq_false];intro h;exact hc (by rw[aJ h]))) rfl
  ·refine Sz1 h5 ?_;refine Qf (a.length-(i+1)) Oz ⟨i+1,rfl,by omega,by rw[ta,tb,he,show x=y by omega],?_⟩;exact Tz0
 ·obtain rfl:i=a.length:=by omega
  rw[Kaz,hlen,Kaz]at he;refine Sz0 ?_;exact Qc (congrArg PV.bool (by rw[he];simp)) rfl
theorem UX{a b:List Nat}(ha:Qk a)(hb:Qk b)(bD:a.length<2^40)(dJ:b.length<2^40):Qd Tryz.prog 184 [PV.nat a,PV.nat b] (· =PV.num (val a+val b)):=by
 refine aE Qg Tryz.func184 ajX fun C hP=>?_;refine Sz0 ?_;refine fW 5 900 1 155 Oz Tz0 ?_;refine Qi okB [(5,41)] [38,39,900] (fun m J hp=>∃(i c:Nat)(out:List Nat),m=2*(max a.length b.length-i)+c/\c<=1/\i<=max a.length b.length+1/\(i<=max a.length b.length∨c=0)/\out.length=i/\Qk out/\val out+65536^i*(c+val (a.drop i)+val (b.drop i))=val a+val b/\J 5= .ms 900 out.length/\J 6= .int .i64 c/\J 7= .int .i64 i/\hp 900=some ⟨1,155,cD out,false⟩) (2*max a.length b.length) ?_ ?_
 ·refine⟨0,0,[],rfl,by omega,by omega,by omega,rfl,qq,by simp[val],?_⟩;refine Sz0 ?_;simp
 rintro _ J h ⟨i,c,out,rfl,hc,hi,dZ,ir,oL,hv,h5,h6,h7,hh⟩;have e1:=Aw a i;have e2:=Aw b i;have d1:=yM ha i;have d2:=yM hb i;refine Sz3 h5 h6 h7 ?_;refine fb (fun hg=>?_) (fun hg=>?_)
 ·have aw:i<max a.length b.length:=by omega
  have eu:(dg a i+dg b i+c)/65536<=1:=by omega
  have tq:val (out++[(dg a i+dg b i+c)%65536])+65536^(i+1)*((dg a i+dg b i+c)/65536+val (a.drop (i+1))+val (b.drop (i+1)))=val a+val b:=by
   rw[Hd,ir,Kbv,<-hv,e1,e2];have:=Kbq (dg a i+dg b i+c) 65536;generalize 65536^i=P at *
   generalize(dg a i+dg b i+c)/65536=q at *
   generalize(dg a i+dg b i+c)%65536=r at *
   have e:c+(dg a i+65536*val (a.drop (i+1)))+(dg b i+65536*val (b.drop (i+1)))=r+65536*(q+val (a.drop (i+1))+val (b.drop (i+1))):=by omega
   rw[e,Ka4 P,Kbm];omega
  refine Sz3 h5 h6 h7 ?_;refine Qb hP (oY ha Oz) ?_;refine Sz3 h5 h6 h7 ?_;refine Qb hP (oY hb Oz) ?_;refine Sz4 h5 h6 h7 @Nat.mod_mod ?_;rw[Qr (f:=fun(x:Nat)=>.int .u16 x) (y:=(dg a i+dg b i+c)%65536) (xs:=out) (ty':=155) (fz:=false) (Tz1 hh) cE Oz rfl Oz Oz];refine Sz3 h5 h6 h7 ?_;refine Qf (2*(max a.length b.length-(i+1))+(dg a i+dg b i+c)/65536) ?_ ⟨i+1,(dg a i+dg b i+c)/65536,out++[(dg a i+dg b i+c)%65536],rfl,eu,by omega,?_,by simp[ir],?_,tq,?_⟩
  ·by_cases aw:i<max a.length b.length
   ·omega
   ·have z1:dg a i=0:=by rw[dg,iO Oz]
    have z2:dg b i=0:=by rw[dg,iO Oz]
    rw[z1,z2];omega
  ·by_cases aw:i<max a.length b.length
   ·omega
   ·have z1:dg a i=0:=by rw[dg,iO Oz]
    have z2:dg b i=0:=by rw[dg,iO Oz]
    rw[z1,z2];omega
  ·rw[ql];exact⟨oL,by intro z hz;simp at hz;omega⟩
  ·refine Sz0 ?_;simp
 refine Sz3 h5 h6 h7 ?_;refine fb (fun eK=>?_) (fun eK=>?_)
 ·have aw:i<max a.length b.length:=by omega
  have eu:(dg a i+dg b i+c)/65536<=1:=by omega
  have tq:val (out++[(dg a i+dg b i+c)%65536])+65536^(i+1)*((dg a i+dg b i+c)/65536+val (a.drop (i+1))+val (b.drop (i+1)))=val a+val b:=by
   rw[Hd,ir,Kbv,<-hv,e1,e2];have:=Kbq (dg a i+dg b i+c) 65536;generalize 65536^i=P at *
   generalize(dg a i+dg b i+c)/65536=q at *
   generalize(dg a i+dg b i+c)%65536=r at *
   have e:c+(dg a i+65536*val (a.drop (i+1)))+(dg b i+65536*val (b.drop (i+1)))=r+65536*(q+val (a.drop (i+1))+val (b.drop (i+1))):=by omega
   rw[e,Ka4 P,Kbm];omega
  refine Sz3 h5 h6 h7 ?_;refine Qb hP (oY ha Oz) ?_;refine Sz3 h5 h6 h7 ?_;refine Qb hP (oY hb Oz) ?_;refine Sz4 h5 h6 h7 @Nat.mod_mod ?_;rw[Qr (f:=fun(x:Nat)=>.int .u16 x) (y:=(dg a i+dg b i+c)%65536) (xs:=out) (ty':=155) (fz:=false) (Tz1 hh) cE Oz rfl Oz Oz];refine Sz3 h5 h6 h7 ?_;refine Qf (2*(max a.length b.length-(i+1))+(dg a i+dg b i+c)/65536) ?_ ⟨i+1,(dg a i+dg b i+c)/65536,out++[(dg a i+dg b i+c)%65536],rfl,eu,by omega,?_,by simp[ir],?_,tq,?_⟩
  ·by_cases aw:i<max a.length b.length
   ·omega
   ·have z1:dg a i=0:=by rw[dg,iO Oz]
    have z2:dg b i=0:=by rw[dg,iO Oz]
    rw[z1,z2];omega
  ·by_cases aw:i<max a.length b.length
   ·omega
   ·have z1:dg a i=0:=by rw[dg,iO Oz]
    have z2:dg b i=0:=by rw[dg,iO Oz]
    rw[z1,z2];omega
  ·rw[ql];exact⟨oL,by intro z hz;simp at hz;omega⟩
  ·refine Sz0 ?_;simp
 refine Sz3 h5 h6 h7 ?_;refine Qa (fun Nn=>?_) (fun Nn=>?_)
 ·have uu:i<=max a.length b.length:=by omega
  have eu:(dg a i+dg b i+c)/65536<=1:=by omega
  have tq:val (out++[(dg a i+dg b i+c)%65536])+65536^(i+1)*((dg a i+dg b i+c)/65536+val (a.drop (i+1))+val (b.drop (i+1)))=val a+val b:=by
   rw[Hd,ir,Kbv,<-hv,e1,e2];have:=Kbq (dg a i+dg b i+c) 65536;generalize 65536^i=P at *
   generalize(dg a i+dg b i+c)/65536=q at *
   generalize(dg a i+dg b i+c)%65536=r at *
   have e:c+(dg a i+65536*val (a.drop (i+1)))+(dg b i+65536*val (b.drop (i+1)))=r+65536*(q+val (a.drop (i+1))+val (b.drop (i+1))):=by omega
   rw[e,Ka4 P,Kbm];omega
  refine Sz3 h5 h6 h7 ?_;refine Qb hP (oY ha Oz) ?_;refine Sz3 h5 h6 h7 ?_;refine Qb hP (oY hb Oz) ?_;refine Sz4 h5 h6 h7 @Nat.mod_mod ?_;rw[Qr (f:=fun(x:Nat)=>.int .u16 x) (y:=(dg a i+dg b i+c)%65536) (xs:=out) (ty':=155) (fz:=false) (Tz1 hh) cE Oz rfl Oz Oz];refine Sz3 h5 h6 h7 ?_;refine Qf (2*(max a.length b.length-(i+1))+(dg a i+dg b i+c)/65536) ?_ ⟨i+1,(dg a i+dg b i+c)/65536,out++[(dg a i+dg b i+c)%65536],rfl,eu,by omega,?_,by simp[ir],?_,tq,?_⟩
  ·by_cases aw:i<max a.length b.length
   ·omega
   ·have z1:dg a i=0:=by rw[dg,iO Oz]
    have z2:dg b i=0:=by rw[dg,iO Oz]
    rw[z1,z2];omega
  ·by_cases aw:i<max a.length b.length
   ·omega
   ·have z1:dg a i=0:=by rw[dg,iO Oz]
    have z2:dg b i=0:=by rw[dg,iO Oz]
    rw[z1,z2];omega
  ·rw[ql];exact⟨oL,by intro z hz;simp at hz;omega⟩
  ·refine Sz0 ?_;simp
 ·obtain rfl:c=0:=by omega
  rw[Kao Oz,Kao Oz]at hv;simp only[val,KaY,Kcd]at hv;refine Sz2 h5 hh ?_;refine ym hP (qm oL Oz) (by simp+decide (disch:=try exact E1 hh) only[go_sem,hh,ek,Kaw,KaD,Kav,KaB,Kam];simp[Kac]) rfl fun hp'=>?_;refine Sz0 ?_;exact Qc (by rw[hv]) rfl
theorem K0{a b:List Nat}(ha:Qk a)(hb:Qk b)(bD:a.length<2^40)(dJ:b.length<2^40):Qd Tryz.prog 199 [PV.nat a,PV.nat b] (· =if val a<val b then .aH [PV.num 0,.int .i64 2]else .aH [PV.num (val a-val b),.int .i64 0]):=by
 refine aE Qg Tryz.func199 aky fun C hP=>?_;refine Sz0 ?_;refine Qb hP (Gv ha hb Oz Oz) ?_;refine Sz0 ?_;refine Qa (fun hc=>?_) (fun hc=>?_)
 ·rw[if_pos (Hb.1 hc)];refine Sz0 ?_;exact fp rfl rfl rfl AG (Ql _)
 have iY:¬val a<val b:=fun h=>hc (Hb.2 h);rw[if_neg iY];refine Sz0 ?_;refine fW 6 900 1 155 Oz Tz0 ?_;refine Qi okB [(6,9),(14,37)] [36,37,900] (fun m J hp=>∃(i c:Nat)(out:List Nat),m=a.length-i/\c<=1/\i<=a.length/\out.length=i/\Qk out/\val (a.take i)+65536^i*c=val out+val (b.take i)/\J 6= .ms 900 out.length/\J 7= .int .i64 c/\J 8= .int .i64 i/\hp 900=some ⟨1,155,cD out,false⟩) a.length ?_ ?_
 ·refine⟨0,0,[],rfl,by omega,by omega,rfl,qq,by simp[val],?_⟩;refine Sz0 ?_;simp
 rintro _ J h ⟨i,c,out,rfl,zn,hi,ir,oL,hv,h6,h7,h8,hh⟩;refine Sz3 h6 h7 h8 ?_;refine Qa (fun hg=>?_) (fun hg=>?_)
 ·have al:i<a.length:=by omega
  have e1:=Un a i;have e2:=Un b i;have d1:=yM ha i;have d2:=yM hb i;refine Sz3 h6 h7 h8 ?_;refine Qb hP (oY ha Oz) ?_;refine Sz3 h6 h7 h8 ?_;refine Qb hP (oY hb Oz) ?_;refine Sz3 h6 h7 h8 ?_;have step:∀(d c':Nat),d<65536->c'<=1->dg a i+65536*c'=d+dg b i+c->val (a.take (i+1))+65536^(i+1)*c'=val (out++[d])+val (b.take (i+1)):=fun d c' _ _ h3=>by
   rw[Hd,ir,e1,e2,Kbv];generalize 65536^i=P at *
   have:P*(dg a i+65536*c')=P*(d+dg b i+c):=by rw[h3]
   rw[Ka4,<-Nat.mul_assoc,Ka4,Ka4]at this;omega
  refine Qa (fun hd=>?_) (fun hd=>?_)
  ·obtain⟨d,lL⟩:∃d:Nat,(dg a i:Int)-(dg b i:Int)-(c:Int)+65536=d:=⟨((dg a i:Int)-(dg b i:Int)-(c:Int)+65536).toNat,by omega⟩
   have bc:=step d 1 Oz Oz Oz;refine Sz4 h6 h7 h8 lL ?_;rw[Qr (f:=fun(x:Nat)=>.int .u16 x) (y:=d) (xs:=out) (ty':=155) (fz:=false) (Tz1 hh) (by simp+decide (disch:=first|omega|rfl|(simp+decide only[go_sem,KaS (by omega:d<65536)]<;>rfl)|fail) only[go_sem,KaS (by omega:d<65536)]) Oz rfl Oz Oz];refine Sz3 h6 h7 h8 ?_;refine Qf (a.length-(i+1)) Oz ⟨i+1,1,out++[d],rfl,by omega,by omega,by simp[ir],?_,bc,?_⟩
   ·rw[ql];exact⟨oL,by intro z hz;simp at hz;omega⟩
   ·refine Sz0 ?_;simp
  ·obtain⟨d,lL⟩:∃d:Nat,(dg a i:Int)-(dg b i:Int)-(c:Int)=d:=⟨((dg a i:Int)-(dg b i:Int)-(c:Int)).toNat,by omega⟩
   have bc:=step d 0 Oz Oz Oz;refine Sz4 h6 h7 h8 lL ?_;rw[Qr (f:=fun(x:Nat)=>.int .u16 x) (y:=d) (xs:=out) (ty':=155) (fz:=false) (Tz1 hh) (by simp+decide (disch:=first|omega|rfl|(simp+decide only[go_sem,KaS (by omega:d<65536)]<;>rfl)|fail) only[go_sem,KaS (by omega:d<65536)]) Oz rfl Oz Oz];refine Sz3 h6 h7 h8 ?_;refine Qf (a.length-(i+1)) Oz ⟨i+1,0,out++[d],rfl,by omega,by omega,by simp[ir],?_,bc,?_⟩
   ·rw[ql];exact⟨oL,by intro z hz;simp at hz;omega⟩
   ·refine Sz0 ?_;simp
 ·obtain rfl:i=a.length:=by omega
  have hbz:val (b.drop a.length)=0:=Gq (by have:=rE ha;omega);have Ev:=Ll b a.length;rw[hbz,Kcd,KaY]at Ev;rw[Kaz,<-Ev]at hv;have hvo:=rE oL;rw[ir]at hvo;have pJ:c=0:=by
   match c,zn with
   |0,_=>rfl
   |1,_=>exfalso;have:=rE ha;omega
  subst pJ;refine Sz2 h6 hh ?_;refine ym hP (qm oL Oz) (by simp+decide (disch:=try exact E1 hh) only[go_sem,hh,ek,Kaw,KaD,Kav,KaB,Kam];simp[Kac]) rfl fun hp'=>?_;refine Sz0 ?_;exact fp rfl rfl rfl (wC (congrArg PV.num Oz)) (Ql _)
theorem K1{a b:List Nat}(ha:Qk a)(hb:Qk b)(bD:a.length<2^40)(dJ:b.length<2^40):Qd Tryz.prog 149 [PV.nat a,PV.nat b] (· =PV.num (val a*val b)):=by
 refine aE Qg Tryz.func149 akz fun C hP=>?_;refine Sz0 ?_;refine Qi okB [(6,9),(17,62)] [] (fun m J hp=>∃(i:Nat)(L:List Nat),m=a.length-i/\i<=a.length/\L.length=a.length+b.length+1/\Qk L/\val L=val (a.take i)*val b/\J 6= .int .i64 i/\hp=Qj aA 16 ⟨1,155,cD L,false⟩) a.length ?_ ?_
 ·refine⟨0,List.replicate (a.length+b.length+1) 0,rfl,by omega,by simp,?_,by simp[val,OT],?_⟩
  ·intro z hz;rw[KcL hz];omega
  ·refine Sz0 ?_;simp
 rintro _ J _ ⟨i,L,rfl,hi,Ef,hL,hv,h6,rfl⟩;refine Sz1 h6 ?_;refine Qa (fun hg=>?_) (fun hg=>?_)
 ·have al:i<a.length:=by omega
  have Iu:=fm ha al;have nZ:=Cj al;have ZL:dg L (i+b.length)=0:=by apply adh;apply Gq;rw[hv,Nat.pow_add];have h1:=wo ha i Oz;have h2:=rE hb;exact Nat.mul_lt_mul'' h1 h2
  generalize eG:a[i]=ai at *
  refine Sz2 h6 eG ?_;refine Qi okB [(7,9),(23,62)] [] (fun m J hp=>∃(k c:Nat)(M:List Nat),m=b.length+1-k/\k<=b.length+1/\(k<=b.length∨c=0)/\c<65536/\M.length=L.length/\Qk M/\val M+65536^(i+k)*(c+ai*val (b.drop k))=val L+65536^i*(ai*val b)/\(∀j,i+k<=j->dg M j=dg L j)/\J 7= .int .u64 c/\J 8= .int .i64 k/\hp=Qj aA 16 ⟨1,155,cD M,false⟩) (b.length+1) ?_ ?_
  ·refine⟨0,0,L,rfl,by omega,by omega,by omega,rfl,hL,by simp,fun _ _=>rfl,?_⟩;refine Sz1 h6 ?_;simp
  rintro _ J2 _ ⟨k,c,M,rfl,hk,qT,hc,xu,hM,hw,zL,h7,h8,rfl⟩;have e2:=Aw b k;have d2:=yM hb k;refine Sz3 h6 h7 h8 ?_;refine fb (fun EL=>?_) (fun EL=>?_)
  ·have atE:k<=b.length:=by omega
   have hj:i+k<M.length:=by omega
   have hx:=fm hM hj;have ka:=fun v=>Sr (v:=v) hj;have zE:=wy Iu d2;have zq:dg M (i+k)=M[i+k]:=iM hj;generalize nh:M[i+k]=x at *
   have xz:=Kbq (x+ai*dg b k+c) 65536;have pS:=Pb (T:=val L+65536^i*(ai*val b)) (ka ((x+ai*dg b k+c)%65536)) (by rw[<-e2];exact hw) xz;have hr:=Kbx (x+ai*dg b k+c) (show 0<65536 by omega);have hq:(x+ai*dg b k+c)/65536<65536:=by omega
   have gO:¬k<b.length->(x+ai*dg b k+c)/65536=0:=fun h=>by
    have z1:dg b k=0:=by rw[dg,iO Oz]
    have z2:x=0:=by rw[<-zq,zL _ (Kae _),show i+k=i+b.length by omega,ZL]
    rw[z1,z2];omega
   have EO:Qk (M.set (i+k) ((x+ai*dg b k+c)%65536)):=fun z hz=>by
    rcases Kc5 hz with h|h
    ·exact hM z h
    ·omega
   have e5:IntKind.u64.wrap ((ai*dg b k:Nat):Int)=((ai*dg b k:Nat):Int):=uS Oz Oz;refine Sz5 h6 h7 h8 eG nh ?_;refine Qb hP (oY hb Oz) ?_;refine Sz7 h6 h7 h8 eG nh e5 @Nat.mod_mod ?_;refine Qf (b.length+1-(k+1)) Oz ⟨k+1,(x+ai*dg b k+c)/65536,M.set (i+k) ((x+ai*dg b k+c)%65536),rfl,by omega,?_,hq,by rw[Kcl];exact xu,EO,?_,?_,?_⟩
   ·by_cases h:k<b.length
    ·omega
    ·exact .inr (gO h)
   ·rw[<-Nat.add_assoc,Kbv];exact pS
   ·intro j xE;rw[Pc Oz];exact zL j Oz
   ·exact Tz3 h6 h7 h8
  refine Sz3 h6 h7 h8 ?_;refine Qa (fun pJ=>?_) (fun pJ=>?_)
  ·have atE:k<=b.length:=by omega
   have hj:i+k<M.length:=by omega
   have hx:=fm hM hj;have ka:=fun v=>Sr (v:=v) hj;have zE:=wy Iu d2;have zq:dg M (i+k)=M[i+k]:=iM hj;generalize nh:M[i+k]=x at *
   have xz:=Kbq (x+ai*dg b k+c) 65536;have pS:=Pb (T:=val L+65536^i*(ai*val b)) (ka ((x+ai*dg b k+c)%65536)) (by rw[<-e2];exact hw) xz;have hr:=Kbx (x+ai*dg b k+c) (show 0<65536 by omega);have hq:(x+ai*dg b k+c)/65536<65536:=by omega
   have gO:¬k<b.length->(x+ai*dg b k+c)/65536=0:=fun h=>by
    have z1:dg b k=0:=by rw[dg,iO Oz]
    have z2:x=0:=by rw[<-zq,zL _ (Kae _),show i+k=i+b.length by omega,ZL]
    rw[z1,z2];omega
   have EO:Qk (M.set (i+k) ((x+ai*dg b k+c)%65536)):=fun z hz=>by
    rcases Kc5 hz with h|h
    ·exact hM z h
    ·omega
   have e5:IntKind.u64.wrap ((ai*dg b k:Nat):Int)=((ai*dg b k:Nat):Int):=uS Oz Oz;refine Sz5 h6 h7 h8 eG nh ?_;refine Qb hP (oY hb Oz) ?_;refine Sz7 h6 h7 h8 eG nh e5 @Nat.mod_mod ?_;refine Qf (b.length+1-(k+1)) Oz ⟨k+1,(x+ai*dg b k+c)/65536,M.set (i+k) ((x+ai*dg b k+c)%65536),rfl,by omega,?_,hq,by rw[Kcl];exact xu,EO,?_,?_,?_⟩
   ·by_cases h:k<b.length
    ·omega
    ·exact .inr (gO h)
   ·rw[<-Nat.add_assoc,Kbv];exact pS
   ·intro j xE;rw[Pc Oz];exact zL j Oz
   ·exact Tz3 h6 h7 h8
  ·obtain rfl:c=0:=by omega
   rw[Kao Oz]at hw;simp only[val,Kcd,KaY]at hw;refine Sz3 h6 h7 h8 ?_;simp (disch:=decide) only[fV,dS];refine Qf (a.length-(i+1)) Oz ⟨i+1,M,rfl,by omega,by omega,hM,?_,?_⟩
   ·rw[hw,hv,nZ,KaK,Kbm]
   ·exact Tz0
 ·obtain rfl:i=a.length:=by omega
  rw[Kaz]at hv;refine Sz0 ?_;refine ym hP (qm hL Oz) (by simp+decide (disch:=try exact E0) only[go_sem,ek,Kaw,KaD,Kav,KaB,Kam];simp[Kac,Ef]) rfl fun hp'=>?_;refine Sz0 ?_;exact Qc (by rw[hv]) rfl
theorem GJ{x y:Nat}(hx:nl x<2^40)(hy:nl y<2^40):Qd Tryz.prog 149 [PV.num x,PV.num y] (· =PV.num (x*y)):=by
 have:=K1 (Qm x) (Qm y) hx hy
 rwa[Qy,Qy]at this
theorem ac4{x y:Nat}(hx:nl x<2^42)(hy:nl y<2^42):Qd Tryz.prog 215 [PV.num x,PV.num y] (· = .int .i64 (ji x y)):=by
 have:=Gv (Qm x) (Qm y) hx hy
 rwa[Qy,Qy]at this
theorem VX{x y:Nat}(hx:nl x<2^40)(hy:nl y<2^40)(h:y<=x):Qd Tryz.prog 199 [PV.num x,PV.num y] (· = .aH [PV.num (x-y),.int .i64 0]):=by
 have:=K0 (Qm x) (Qm y) hx hy
 rwa[Qy,Qy,if_neg Oz]at this
theorem SG{x y:Nat}:ji x y<=0↔x<=y:=by unfold ji;split<;>(try split)<;>omega
theorem Uw{x y:Nat}(hx:nl x<2^38)(hy:nl y<2^38)(du:0<y):Qd Tryz.prog 198 [PV.num x,PV.num y] (· = .int .u64 (min 65535 (x/y):Nat)):=by
 have xL:∀(n d:Nat) fr hp K,n<18446744073709551616->cu .quo false (.int .u64 (n:Int)) (.int .u64 2) d fr hp K=K (af fr d (.int .u64 ((n/2:Nat):Int))) hp:=fun n d fr hp K h=>by rw[show(2:Int)=((2:Nat):Int)from rfl,Dg Oz h]
 refine aE Qg Tryz.func198 akA fun C hP=>?_;refine Sz0 ?_;refine Qi okB [(5,25)] [] (fun m J hp=>∃lo hi:Nat,m=hi-lo/\lo<=hi/\hi<=65535/\y*lo<=x/\(hi=65535∨x<y*(hi+1))/\J 5= .int .u64 lo/\J 6= .int .u64 hi) 65535 ?_ ?_
 ·refine⟨0,65535,rfl,by omega,by omega,by omega,.inl rfl,?_⟩;refine Sz0 ?_;simp
 rintro _ J h ⟨lo,hi,rfl,h1,h2,h3,h4,h5,h6⟩;refine Sz2 h5 h6 ?_;refine Qa (fun hg=>?_) (fun hg=>?_)
 ·have dM:nl ((lo+hi+1)/2)<=4:=qu Oz;have hm:=rF y ((lo+hi+1)/2);generalize atQ:(lo+hi+1)/2=zZ at *
  refine Sz4 h5 h6 xL atQ ?_;refine Qb hP (sn (n:=zZ) Oz) ?_;refine Sz2 h5 h6 ?_;refine Qb hP (GJ (x:=y) (y:=zZ) Oz Oz) ?_;refine Sz2 h5 h6 ?_;refine Qb hP (ac4 (x:=y*zZ) (y:=x) Oz Oz) ?_;refine Sz2 h5 h6 ?_;refine Qa (fun hc=>?_) (fun hc=>?_)
  ·rw[SG]at hc;refine Sz2 h5 h6 ?_;refine Qf (hi-zZ) Oz ⟨zZ,hi,rfl,by omega,h2,hc,h4,?_⟩;exact Tz1 h6
  ·rw[SG]at hc;obtain⟨n,rfl⟩:∃n,zZ=n+1:=⟨zZ-1,by omega⟩
   have e:((n+1:Nat):Int)-1=n:=by omega
   refine Sz3 h5 h6 e ?_;refine Qf (n-lo) Oz ⟨lo,n,rfl,by omega,by omega,h3,.inr Oz,?_⟩;exact Tz1 h5
 ·obtain rfl:lo=hi:=by omega
  refine Sz1 h5 ?_;refine Qc ?_ rfl;have hle:lo<=x/y:=(Nat.le_div_iff_mul_le du).2 (by rw[KaP];exact h3);rcases h4 with rfl|h4
  ·rw[Kcb hle]
  ·have:x/y<lo+1:=(Kbi du).2 (by rw[KaP];exact h4);congr 2;omega
theorem Up{a b:List Nat}(ha:Qk a)(hb:Qk b)(bD:a.length<2^36)(dJ:b.length<2^36):Qd Tryz.prog 147 [PV.nat a,PV.nat b]
  (· =if val b=0 then .aH [PV.num 0,PV.num 0,.int .i64 3]else .aH [PV.num (val a/val b),PV.num (val a%val b),.int .i64 0]):=by
 have iW:=cq ha;have kC:=cq hb;refine aE Qg Tryz.func147 akB fun C hP=>?_;refine Sz0 ?_;refine Qb hP (qm ha Oz) ?_;refine Sz0 ?_;refine Qb hP (qm hb Oz) ?_;refine Sz0 ?_;generalize val a=x at *
 generalize val b=y at *
 unfold nl at iW kC;refine Qa (fun hz=>?_) (fun hz=>?_)
 ·have du:y=0:=mL.1 (sj Oz);refine Sz0 ?_;rw[if_pos du];exact jy rfl rfl rfl rfl AG AG (Ql _)
 have du:y≠0:=fun h=>by rw[h,gW]at hz;simp at hz
 rw[if_neg du];have hyp:0<y:=Kbg du;have ee:=Qm x;have n6:=Qm y;have tr:=Qy x;have zU:=Qy y;refine Sz0 ?_;refine fN (fun h1=>?_) (fun h1=>?_)
 ·refine Sz0 ?_;refine Qa (fun h2=>?_) (fun h2=>?_)
  ·have awq:=GR.1 (show nl x<=4 by unfold nl;omega);have awr:=GR.1 (show nl y<=4 by unfold nl;omega);have hq:=KcV x y;have hr:=Kbx x hyp;refine Sz0 ?_;refine Qb hP (Gf ee Oz) ?_;refine Sz1 tr ?_;refine Qb hP (Gf n6 Oz) ?_;refine Sz3 tr zU @Dg ?_;refine Qb hP (sn (n:=x/y) Oz) ?_;refine Sz0 ?_;refine Qb hP (Gf ee Oz) ?_;refine Sz1 tr ?_;refine Qb hP (Gf n6 Oz) ?_;refine Sz3 tr zU @rD ?_;refine Qb hP (sn (n:=x%y) Oz) ?_;refine Sz0 ?_;exact jy rfl rfl rfl rfl (Ql _) (Ql _) (Ql _)
  ·have aud:=trivial;refine Sz0 ?_;refine yz 7 1 Tz0 ?_;refine yz 8 1 Tz0 ?_;refine QA okB [(7,10),(41,69)] [49,51,58,60] (fun k J hp=>∃qs,k<=(ao x).length/\qs.length=(ao x).length-k/\Qk qs/\val qs=val ((ao x).drop k)/y/\J 7= .sl 1 (cD qs)/\J 8=PV.num (val ((ao x).drop k)%y)/\J 9= .int .i64 ((k:Int)-1)) (ao x).length ?_ ?_
   ·refine⟨[],Kae _,by simp,qq,by simp[val],?_⟩;refine Sz0 ?_;simp[val,gW]
   rintro k J h ⟨qs,hk,X6,rY,uy,h7,h8,h9⟩;refine Sz3 h7 h8 h9 ?_;have hr:=Kbx (val ((ao x).drop k)) hyp;refine Qa (fun hg=>?_) (fun hg=>?_)
   ·obtain _|n:=k
    ·omega
    have hn:n<(ao x).length:=by omega
    have MY:=fm ee hn;have e:((n+1:Nat):Int)-1=n:=by omega
    have bc:=Wi (x:=(ao x)[n]) hyp uy;rw[<-ot hn]at bc;generalize hV:val ((ao x).drop (n+1))%y=r at *
    generalize eG:(ao x)[n]=xi at *
    have dD:(ao r).length<=(ao y).length:=iL (Nat.le_of_lt hr);have tj:Qk ([xi]++ao r):=by rw[ql];exact⟨by intro z hz;simp at hz;omega,Qm r⟩
    have iH:val ([xi]++ao r)=r*65536+xi:=by rw[oW,Qy];simp[val];omega
    have aw:(r*65536+xi)/y<65536:=by rw[Kbi hyp];have:(r+1)*65536<=y*65536:=Kaj _ hr;omega
    have Nw:nl (r*65536+xi)<=(ao y).length+1:=by have:=cq tj;rw[iH,Kay]at this;simp at this;omega
    have xz:=Kbq (r*65536+xi) y;have gM:nl (y*((r*65536+xi)/y))<=(ao y).length+1:=Kap (iL Oz) Nw;have hn4:nl ((r*65536+xi)/y)<=4:=qu Oz;have BT:r*65536+xi-y*((r*65536+xi)/y)=(r*65536+xi)%y:=by omega
    refine Sz5 h7 h8 h9 e eG ?_;rw[mM (f:=fun(x:Nat)=>.int .u16 x) (xs:=[xi]) (ys:=ao r) (n:=1) cE rfl Oz Oz Oz];refine Sz5 h7 h8 h9 e eG ?_;refine ln hP (qm (l:=[xi]++ao r) tj (by simp;omega)) (by simp+decide (disch:=try exact E0) only[go_sem,ek,Kaw,KaD,Kav,KaB,Kam];simp[KbQ 1,Kac]) rfl ?_;rw[iH];refine Sz5 h7 h8 h9 e eG ?_;refine Qb hP (Uw (x:=r*65536+xi) (y:=y) Oz (by unfold nl;omega) hyp) ?_;rw[Kdi (by omega:(r*65536+xi)/y<=65535)];generalize hD:(r*65536+xi)/y=D at *
    simp+decide (disch:=first|omega|rfl|(simp+decide only[go_sem,h7,h8,h9,e,eG,KaS aw]<;>rfl)|fail) only[go_sem,h7,h8,h9,e,eG,KaS aw];rw[mM (f:=fun(x:Nat)=>.int .u16 x) (xs:=[D]) (ys:=qs) (n:=1) cE rfl Oz Oz Oz];refine Sz5 h7 h8 h9 e eG ?_;refine Qb hP (sn (n:=D) Oz) ?_;refine Sz4 h7 h8 h9 e ?_;refine Qb hP (GJ (x:=y) (y:=D) (by unfold nl;omega) Oz) ?_;refine Sz4 h7 h8 h9 e ?_;refine Qb hP (VX (x:=r*65536+xi) (y:=y*D) Oz Oz Oz) ?_;rw[BT];refine Sz4 h7 h8 h9 e ?_;refine Wh 7 n rfl ?_ Oz ⟨D::qs,by omega,by simp;omega,?_,?_,?_⟩
    ·exact vv
    ·rw[jt];exact⟨aw,rY⟩
    ·rw[val,bc.1]
    ·refine lG bc.2 ?_;simp[KbQ 1,Kac]
   ·obtain rfl:k=0:=by omega
    rw[Ka0,tr]at uy h8;refine Sz2 h7 h8 ?_;refine Qb hP (qm rY Oz) ?_;refine Sz2 h7 h8 ?_;exact jy rfl rfl rfl rfl (wC (by rw[uy])) (Ql _) (Ql _)
 ·have aud:=trivial;refine Sz0 ?_;refine yz 7 1 Tz0 ?_;refine yz 8 1 Tz0 ?_;refine QA okB [(7,10),(41,69)] [49,51,58,60] (fun k J hp=>∃qs,k<=(ao x).length/\qs.length=(ao x).length-k/\Qk qs/\val qs=val ((ao x).drop k)/y/\J 7= .sl 1 (cD qs)/\J 8=PV.num (val ((ao x).drop k)%y)/\J 9= .int .i64 ((k:Int)-1)) (ao x).length ?_ ?_
  ·refine⟨[],Kae _,by simp,qq,by simp[val],?_⟩;refine Sz0 ?_;simp[val,gW]
  rintro k J h ⟨qs,hk,X6,rY,uy,h7,h8,h9⟩;refine Sz3 h7 h8 h9 ?_;have hr:=Kbx (val ((ao x).drop k)) hyp;refine Qa (fun hg=>?_) (fun hg=>?_)
  ·obtain _|n:=k
   ·omega
   have hn:n<(ao x).length:=by omega
   have MY:=fm ee hn;have e:((n+1:Nat):Int)-1=n:=by omega
   have bc:=Wi (x:=(ao x)[n]) hyp uy;rw[<-ot hn]at bc;generalize hV:val ((ao x).drop (n+1))%y=r at *
   generalize eG:(ao x)[n]=xi at *
   have dD:(ao r).length<=(ao y).length:=iL (Nat.le_of_lt hr);have tj:Qk ([xi]++ao r):=by rw[ql];exact⟨by intro z hz;simp at hz;omega,Qm r⟩
   have iH:val ([xi]++ao r)=r*65536+xi:=by rw[oW,Qy];simp[val];omega
   have aw:(r*65536+xi)/y<65536:=by rw[Kbi hyp];have:(r+1)*65536<=y*65536:=Kaj _ hr;omega
   have Nw:nl (r*65536+xi)<=(ao y).length+1:=by have:=cq tj;rw[iH,Kay]at this;simp at this;omega
   have xz:=Kbq (r*65536+xi) y;have gM:nl (y*((r*65536+xi)/y))<=(ao y).length+1:=Kap (iL Oz) Nw;have hn4:nl ((r*65536+xi)/y)<=4:=qu Oz;have BT:r*65536+xi-y*((r*65536+xi)/y)=(r*65536+xi)%y:=by omega
   refine Sz5 h7 h8 h9 e eG ?_;rw[mM (f:=fun(x:Nat)=>.int .u16 x) (xs:=[xi]) (ys:=ao r) (n:=1) cE rfl Oz Oz Oz];refine Sz5 h7 h8 h9 e eG ?_;refine ln hP (qm (l:=[xi]++ao r) tj (by simp;omega)) (by simp+decide (disch:=try exact E0) only[go_sem,ek,Kaw,KaD,Kav,KaB,Kam];simp[KbQ 1,Kac]) rfl ?_;rw[iH];refine Sz5 h7 h8 h9 e eG ?_;refine Qb hP (Uw (x:=r*65536+xi) (y:=y) Oz (by unfold nl;omega) hyp) ?_;rw[Kdi (by omega:(r*65536+xi)/y<=65535)];generalize hD:(r*65536+xi)/y=D at *
   simp+decide (disch:=first|omega|rfl|(simp+decide only[go_sem,h7,h8,h9,e,eG,KaS aw]<;>rfl)|fail) only[go_sem,h7,h8,h9,e,eG,KaS aw];rw[mM (f:=fun(x:Nat)=>.int .u16 x) (xs:=[D]) (ys:=qs) (n:=1) cE rfl Oz Oz Oz];refine Sz5 h7 h8 h9 e eG ?_;refine Qb hP (sn (n:=D) Oz) ?_;refine Sz4 h7 h8 h9 e ?_;refine Qb hP (GJ (x:=y) (y:=D) (by unfold nl;omega) Oz) ?_;refine Sz4 h7 h8 h9 e ?_;refine Qb hP (VX (x:=r*65536+xi) (y:=y*D) Oz Oz Oz) ?_;rw[BT];refine Sz4 h7 h8 h9 e ?_;refine Wh 7 n rfl ?_ Oz ⟨D::qs,by omega,by simp;omega,?_,?_,?_⟩
   ·exact vv
   ·rw[jt];exact⟨aw,rY⟩
   ·rw[val,bc.1]
   ·refine lG bc.2 ?_;simp[KbQ 1,Kac]
  ·obtain rfl:k=0:=by omega
   rw[Ka0,tr]at uy h8;refine Sz2 h7 h8 ?_;refine Qb hP (qm rY Oz) ?_;refine Sz2 h7 h8 ?_;exact jy rfl rfl rfl rfl (wC (by rw[uy])) (Ql _) (Ql _)
theorem Q49{x y:Nat}(hx:nl x<2^36)(hy:nl y<2^36)(h0:y≠0):Qd Tryz.prog 147 [PV.num x,PV.num y] (· = .aH [PV.num (x/y),PV.num (x%y),.int .i64 0]):=by
 have:=Up (Qm x) (Qm y) hx hy
 rwa[Qy,Qy,if_neg h0]at this
theorem UY{a b:List Nat}(ha:Qk a)(hb:Qk b)(bD:a.length<2^36)(dJ:b.length<2^36):Qd Tryz.prog 83 [PV.nat a,PV.nat b] (· =PV.num (Nat.gcd (val a) (val b))):=by
 have iW:=cq ha;have kC:=cq hb;refine aE Qg Tryz.func83 ana fun C hP=>?_;refine Sz0 ?_;refine Qb hP (qm ha Oz) ?_;refine Sz0 ?_;refine Qb hP (qm hb Oz) ?_;refine Sz0 ?_;refine Qi okB [(0,1),(5,7),(12,23)] [] (fun m J hp=>∃x y,m=y/\Nat.gcd x y=Nat.gcd (val a) (val b)/\nl x<2^36/\nl y<2^36/\J 0=PV.num x/\J 1=PV.num y/\hp=aA) (val b) ?_ ?_
 ·refine⟨val a,val b,rfl,rfl,by omega,by omega,?_⟩;exact Tz0
 rintro y J _ ⟨x,_,rfl,hg,hx,hy,h0,h1,rfl⟩;generalize Nat.gcd (val a) (val b)=g at *
 refine Sz2 h0 h1 ?_;refine Qa (fun hc=>?_) (fun hc=>?_)
 ·have du:y≠0:=fun h=>by rw[h,gW]at hc;simp at hc
  have zD:=iL (Nat.le_of_lt (Kbx x (Kbg du)));refine Sz2 h0 h1 ?_;refine Qb hP (Q49 (x:=x) (y:=y) hx hy du) ?_;refine Sz2 h0 h1 ?_;refine Qf (x%y) (Kbx _ (Kbg du)) ⟨y,x%y,rfl,?_,hy,by omega,?_⟩
  ·rw[<-hg,KcW x y,Nat.gcd_rec y x,KcW]
  ·exact Tz0
 ·have du:y=0:=mL.1 (sj Oz);subst du;refine Sz1 h0 ?_;exact Qc (by rw[<-hg,Kda]) rfl
theorem wB{n:Bool}{a:List Nat}(ha:Qk a)(bD:a.length<2^42):Qd Tryz.prog 183 [.bool n,PV.nat a] (· =PV.zz (zv n a)):=by
 refine aE Qg Tryz.func183 akC fun C hP=>?_;refine Sz0 ?_;refine Qb hP (qm ha bD) ?_;refine Sz0 ?_;refine Ar (fun hn=>?_) (fun hn=>?_)
 all_goals
  refine Sz0 ?_;refine cr ?_;refine Sz0 ?_;exact Qc (by have:=JA n (val a);rw[hn]at this;subst hn;simpa[zv]using this) rfl
theorem Gk{n:Bool}{a:List Nat}(ha:Qk a)(bD:a.length<2^42):Qd Tryz.prog 152 [PV.zi n a] (· =PV.zz (zv n a)):=by refine aE Qg Tryz.func152 akD fun C hP=>?_;refine Sz0 ?_;refine Qb hP (wB ha bD) ?_;refine Sz0 ?_;refine cr ?_;refine Sz0 ?_;exact Qc rfl rfl
theorem Vo{n m:Bool}{a b:List Nat}(ha:Qk a)(hb:Qk b)(bD:a.length<2^40)(dJ:b.length<2^40):Qd Tryz.prog 148 [PV.zi n a,PV.zi m b] (· =PV.zz (zv n a*zv m b)):=by
 have hr:nl (val a*val b)<2^42:=by have:=rF (val a) (val b);have:=cq ha;have:=cq hb;omega
 refine aE Qg Tryz.func148 akI fun C hP=>?_;refine Sz0 ?_;refine Qb hP (K1 ha hb bD dJ) ?_;refine Sz0 ?_;refine Qb hP (wB (n:= !(n==m)) (Qm (val a*val b)) hr) ?_;refine Sz0 ?_;refine cr ?_;refine Sz0 ?_;exact Qc (congrArg PV.zz (by rw[u7];unfold zv;cases n<;>cases m<;>simp[Int.neg_mul,Int.mul_neg])) rfl
theorem Li{x:Int}(h1: -9223372036854775808<=x)(h2:x<=9223372036854775807):Qd Tryz.prog 120 [.int .i64 x] (· =PV.zz x):=by
 refine aE Qg Tryz.func120 akE fun C hP=>?_;refine Sz0 ?_;refine Qa (fun hc=>?_) (fun hc=>?_)
 ·obtain⟨y,hy⟩:∃y:Nat,x= -((y:Int)+1):=⟨(-(x+1)).toNat,by omega⟩
  have e1:IntKind.i64.wrap (x+1)= -(y:Int):=by rw[yr Oz Oz];omega
  have e2:IntKind.i64.wrap (0- -(y:Int))=(y:Int):=by rw[yr Oz Oz];omega
  have e3:IntKind.u64.wrap (y:Int)=(y:Int):=uS Oz Oz;have vQ:nl y<=4:=qu Oz;have rV:nl (y+1)<=4:=qu Oz;refine Sz3 e1 e2 e3 ?_;refine Qb hP (sn (n:=y) Oz) ?_;refine Sz0 ?_;refine Qb hP (sn (n:=1) Oz) ?_;refine Sz0 ?_;refine Qb hP (UX (Qm y) (Qm 1) (show nl y<_ by omega) (show nl 1<_ by rw[u9];omega)) ?_;refine Sz0 ?_;refine Qb hP (wB (n:=true) (Qm (val (ao y)+val (ao 1))) (show nl _<_ by rw[Qy,Qy];omega)) ?_;refine Sz0 ?_;refine cr ?_;refine Sz0 ?_;exact Qc (congrArg PV.zz (by rw[u7,Qy,Qy];simp;omega)) rfl
 ·obtain⟨y,rfl⟩:∃y:Nat,x=y:=⟨x.toNat,by omega⟩
  have vQ:nl y<=4:=qu Oz;refine Sz0 ?_;refine Qb hP (sn Oz) ?_;refine Sz0 ?_;refine Qb hP (wB (n:=false) (Qm y) (show nl _<_ by omega)) ?_;refine Sz0 ?_;refine cr ?_;refine Sz0 ?_;exact Qc (congrArg PV.zz (by rw[u7];simp)) rfl
theorem Q73{n:Bool}{a:List Nat}(ha:Qk a)(bD:a.length<2^42):Qd Tryz.prog 88 [PV.zi n a] (· = .int .i64 (gf (zv n a))):=by
 refine aE Qg Tryz.func88 anf fun C hP=>?_;refine Sz0 ?_;refine Qb hP (Gk ha bD) ?_;generalize zv n a=z;refine Sz0 ?_;refine Qa (fun hz=>?_) (fun hz=>?_)
 ·have:z=0:=by have:=mL.1 (sj (n:=z.natAbs) Oz);omega
  subst this;refine Sz0 ?_;exact Qc rfl rfl
 ·have h0:z≠0:=fun h=>by subst h;exact hz (by simp[gW])
  refine Sz0 ?_;refine CD (fun hn=>?_) (fun hn=>?_)
  ·have hn:z<0:=by simpa using hn
   refine Sz0 ?_;exact Qc (by rw[gf,if_pos hn]) rfl
  ·have hn:¬z<0:=by simpa using hn
   refine Sz0 ?_;exact Qc (by rw[gf,if_neg hn,if_pos Oz]) rfl
theorem Q5a{n:Bool}{a:List Nat}(ha:Qk a)(bD:a.length<2^42):Qd Tryz.prog 80 [PV.zi n a] (· = .bool (qA n a)):=by
 refine aE Qg Tryz.func80 ane fun C hP=>?_;refine Sz0 ?_;refine Qb hP (Uv ha Oz) ?_;refine Sz0 ?_;refine Ar (fun hv=>?_) (fun hv=>?_)
 ·refine Sz0 ?_;refine Ar (fun hn=>?_) (fun hn=>?_)
  ·refine Sz0 ?_;exact Qc (congrArg PV.bool (by unfold qA;subst hn;cases a<;>simp_all<;>omega)) rfl
  ·refine Sz0 ?_;exact Qc (congrArg PV.bool (by unfold qA;subst hn;cases a<;>simp_all)) rfl
 ·refine Sz0 ?_;exact Qc (congrArg PV.bool (by unfold qA;cases a<;>simp_all)) rfl
theorem Q99{n m:Bool}{a b:List Nat}(ha:Qk a)(hb:Qk b)(bD:a.length<2^41)(dJ:b.length<2^41):Qd Tryz.prog 182 [PV.zi n a,PV.zi m b] (· = .int .i64 (ep (zv n a) (zv m b))):=by
 have hx:nl (zv n a).natAbs<2^41:=by rw[kJ];have:=cq ha;omega
 have hy:nl (zv m b).natAbs<2^41:=by rw[kJ];have:=cq hb;omega
 refine aE Qg Tryz.func182 akF fun C hP=>?_;refine Sz0 ?_;refine Qb hP (Gk ha Oz) ?_;refine Sz0 ?_;refine Qb hP (Gk hb Oz) ?_;generalize zv n a=x at *
 generalize zv m b=y at *
 have lx:(ao x.natAbs).length<2^41:=hx;have ly:(ao y.natAbs).length<2^41:=hy;by_cases bG:x<0<;>by_cases du:y<0
 ·refine Sz2 bG du ?_;refine Qb hP (Gv (Qm y.natAbs) (Qm x.natAbs) Oz Oz) ?_;refine Sz0 ?_;exact Qc (congrArg (PV.int .i64) (by rw[Qy,Qy];unfold ji ep;split<;>split<;>(try split)<;>(try split)<;>omega)) rfl
 ·refine Sz2 bG du ?_;exact Qc (congrArg (PV.int .i64) (by unfold ep;rw[if_pos Oz])) rfl
 ·refine Sz2 bG du ?_;exact Qc (congrArg (PV.int .i64) (by unfold ep;rw[if_neg Oz,if_pos Oz])) rfl
 ·refine Sz2 bG du ?_;refine Qb hP (Gv (Qm x.natAbs) (Qm y.natAbs) Oz Oz) ?_;refine Sz0 ?_;exact Qc (congrArg (PV.int .i64) (by rw[Qy,Qy];unfold ji ep;split<;>split<;>(try split)<;>(try split)<;>omega)) rfl
theorem acf{n m:Bool}{a b:List Nat}(ha:Qk a)(hb:Qk b)(bD:a.length<2^40)(dJ:b.length<2^40):Qd Tryz.prog 150 [PV.zi n a,PV.zi m b] (· =PV.zz (zv n a+zv m b)):=by
 have iW:=cq ha;have kC:=cq hb;refine aE Qg Tryz.func150 akH fun C hP=>?_;refine Sz0 ?_;refine CD (fun gM=>?_) (fun gM=>?_)
 ·have gM:n=m:=by simpa using gM
  subst gM;have hr:=Tb (val a) (val b);refine Sz0 ?_;refine Qb hP (UX ha hb bD dJ) ?_;refine Sz0 ?_;refine Qb hP (wB (n:=n) (Qm (val a+val b)) (show nl _<_ by omega)) ?_;refine Sz0 ?_;refine cr ?_;refine Sz0 ?_;exact Qc (congrArg PV.zz (by rw[u7];unfold zv;split<;>simp<;>omega)) rfl
 have gM:n= !m:=by cases n<;>cases m<;>simp_all
 subst gM;refine Sz0 ?_;refine Qb hP (K0 ha hb bD dJ) ?_;by_cases hc:val a<val b
 ·rw[if_pos hc];have hr:=iL (Nat.sub_le (val b) (val a));refine Sz0 ?_;refine Qb hP (K0 hb ha dJ bD) ?_;rw[if_neg Oz];refine Sz0 ?_;refine Qb hP (wB (n:=m) (Qm (val b-val a)) (show nl _<_ by omega)) ?_;refine Sz0 ?_;refine cr ?_;refine Sz0 ?_;exact Qc (congrArg PV.zz (by rw[u7];unfold zv;cases m<;>simp<;>omega)) rfl
 ·rw[if_neg hc];have hr:=iL (Nat.sub_le (val a) (val b));refine Sz0 ?_;refine Qb hP (wB (n:= !m) (Qm (val a-val b)) (show nl _<_ by omega)) ?_;refine Sz0 ?_;refine cr ?_;refine Sz0 ?_;exact Qc (congrArg PV.zz (by rw[u7];unfold zv;cases m<;>simp<;>omega)) rfl
theorem UH{a:List Nat}{g:Nat}(ha:Qk a)(hx:a.length<2^36)(hy:nl g<2^36)(h0:g≠0):Qd Tryz.prog 147 [PV.nat a,PV.num g] (· = .aH [PV.num (val a/g),PV.num (val a%g),.int .i64 0]):=by
 have:=Up ha (Qm g) hx hy
 rwa[Qy,if_neg h0]at this
theorem anW(n:Bool)(a:List Nat)(D:Nat):zv n (ao (val a/Nat.gcd (val a) D))=zv n a/(Nat.gcd (zv n a).natAbs D:Int):=by
 rw[kJ,u7];unfold zv;cases n
 ·simp
 ·have hd:((Nat.gcd (val a) D:Nat):Int)∣(val a:Int):=Int.natCast_dvd_natCast.2 (Kdh _ _);simp only[if_true];rw[Int.neg_ediv_of_dvd hd,Int.natCast_ediv]
theorem UI{n:Bool}{a d:List Nat}(ha:Qk a)(hd:Qk d)(bD:a.length<2^36)(lP:d.length<2^36):Qd Tryz.prog 119 [PV.zi n a,PV.nat d] (· =PV.rat (rv n a d)):=by
 have iq:=cq ha;have vR:=cq hd;refine aE Qg Tryz.func119 akJ fun C hP=>?_;refine Sz0 ?_;refine Qb hP (qm hd Oz) ?_;refine Sz0 ?_;refine Qa (fun hz=>?_) (fun hz=>?_)
 ·have h0:val d=0:=mL.1 (sj (n:=val d) Oz);refine Sz0 ?_;refine Qb hP (sn (n:=1) Oz) ?_;refine Sz0 ?_;refine cr ?_;refine Sz0 ?_;exact(by unfold rv;rw[Vh (.inl h0),uW];exact pg Sl rfl)
 ·have h0:val d≠0:=fun h=>by rw[h,gW]at hz;exact hz rfl
  have rT:Nat.gcd (val a) (val d)≠0:=fun h=>h0 (Nat.gcd_eq_zero_iff.1 h).2;have hg:=iL (Kdj (val a) (Kbg h0));have hq:=Tr (val a) (Nat.gcd (val a) (val d));refine Sz0 ?_;refine Qb hP (UY ha hd bD lP) ?_;refine Sz0 ?_;refine Qb hP (UH ha bD Oz rT) ?_;refine Sz0 ?_;refine Qb hP (UH hd lP Oz rT) ?_;refine Sz0 ?_;refine Qb hP (Gk (n:=n) (Qm (val a/Nat.gcd (val a) (val d))) (show nl _<_ by omega)) ?_;rw[anW];have hm:=CG (z:=zv n a) h0;refine Sz0 ?_;refine cr ?_;refine Sz0 ?_;exact Qc (by unfold rv;rw[PV.rat,hm.1,hm.2,kJ]) rfl
theorem uL{n:Bool}{a d:List Nat}{k:Nat}(hp:Raw k n a d)(hk:k<2^36):Qd Tryz.prog 89 [PV.rr n a d] (· =PV.rat (rv n a d)):=by obtain⟨ha,hd,sa,sd,k1⟩:=hp;refine aE Qg Tryz.func89 anP fun C hP=>?_;refine Sz0 ?_;refine Qb hP (UI (n:=n) ha hd Oz Oz) ?_;refine Sz0 ?_;refine cr ?_;refine Sz0 ?_;exact Qc rfl rfl
theorem At{z:Int}{D:Nat}(hz:nl z.natAbs<2^36)(hD:nl D<2^36):Qd Tryz.prog 119 [PV.zz z,PV.num D] (· =PV.rat (mkRat z D)):=by
 have:=UI (n:=decide (z<0)) (Qm z.natAbs) (Qm D) hz hD
 rwa[rv,ow,Qy]at this
theorem qn{x:Int}(h1: -9223372036854775808<=x)(h2:x<=9223372036854775807):Qd Tryz.prog 50 [.int .i64 x] (· =PV.rat (x:Rat)):=by have vQ:nl x.natAbs<=4:=qu Oz;refine aE Qg Tryz.func50 anQ fun C hP=>?_;refine Sz0 ?_;refine Qb hP (Li h1 h2) ?_;refine Sz0 ?_;refine Qb hP (sn (n:=1) Oz) ?_;refine Sz0 ?_;refine Qb hP (At (z:=x) (D:=1) Oz (by rw[u9];omega)) ?_;refine Sz0 ?_;refine cr ?_;refine Sz0 ?_;exact Qc (congrArg PV.rat (Rat.mkRat_one x)) rfl
theorem Al(d:List Nat):Qd Tryz.prog 151 [PV.nat d] (· =PV.zi false d):=by refine aE Qg Tryz.func151 akL fun C hP=>?_;refine Sz0 ?_;refine cr ?_;refine Sz0 ?_;exact Qc rfl rfl
theorem VY{x:Int}(hx:nl x.natAbs<2^42):Qd Tryz.prog 88 [PV.zz x] (· = .int .i64 (gf x)):=by
 have:=Q73 (n:=decide (x<0)) (Qm x.natAbs) hx
 rwa[ow]at this
theorem Gl{n:Bool}{a d:List Nat}{k:Nat}(hp:Raw k n a d)(hk:k<2^36):Qd Tryz.prog 27 [PV.rr n a d] (· = .int .i64 (fc (rv n a d))):=by have hs:=hp.rs;unfold FW.rs at hs;refine aE Qg Tryz.func27 anR fun C hP=>?_;refine Sz0 ?_;refine Qb hP (uL hp hk) ?_;refine Sz0 ?_;refine Qb hP (VY (x:=(rv n a d).num) Oz) ?_;refine Sz0 ?_;exact Qc rfl rfl
theorem Ax{x:Int}{d:Nat}(hx:nl x.natAbs<2^40)(hy:nl d<2^40):Qd Tryz.prog 148 [PV.zz x,PV.zi false (ao d)] (· =PV.zz (x*(d:Int))):=by
 have:=Vo (n:=decide (x<0)) (m:=false) (Qm x.natAbs) (Qm d) hx hy
 rwa[ow,wD,Qy]at this
theorem aeP{x y:Int}(hx:nl x.natAbs<2^40)(hy:nl y.natAbs<2^40):Qd Tryz.prog 150 [PV.zz x,PV.zz y] (· =PV.zz (x+y)):=by
 have:=acf (n:=decide (x<0)) (m:=decide (y<0)) (Qm x.natAbs) (Qm y.natAbs) hx hy
 rwa[ow,ow]at this
theorem aeQ{x y:Int}(hx:nl x.natAbs<2^41)(hy:nl y.natAbs<2^41):Qd Tryz.prog 182 [PV.zz x,PV.zz y] (· = .int .i64 (ep x y)):=by
 have:=Q99 (n:=decide (x<0)) (m:=decide (y<0)) (Qm x.natAbs) (Qm y.natAbs) hx hy
 rwa[ow,ow]at this
theorem acg{n m:Bool}{a d b c:List Nat}{k:Nat}(hp:Raw k n a d)(hq:Raw k m b c)(hk:k<2^34):Qd Tryz.prog 85 [PV.rr n a d,PV.rr m b c] (· =PV.rat (rv n a d*rv m b c)):=by obtain⟨ha,hd,sa,sd,k1⟩:=hp;obtain⟨hb,hc,sb,sc,k2⟩:=hq;have h1:=js (zv n a) (zv m b);have h2:=rF (val d) (val c);rw[kJ,kJ]at h1;have e1:=cq ha;have e2:=cq hd;have e3:=cq hb;have e4:=cq hc;refine aE Qg Tryz.func85 anV fun C hP=>?_;refine Sz0 ?_;refine Qb hP (Vo (n:=n) (m:=m) ha hb Oz Oz) ?_;refine Sz0 ?_;refine Qb hP (K1 hd hc Oz Oz) ?_;refine Sz0 ?_;refine Qb hP (At (z:=zv n a*zv m b) (D:=val d*val c) Oz Oz) ?_;refine Sz0 ?_;refine cr ?_;refine Sz0 ?_;exact Qc (congrArg PV.rat (Rat.mkRat_mul_mkRat _ _ _ _).symm) rfl
theorem Vp{n m:Bool}{a d b c:List Nat}{k:Nat}(hp:Raw k n a d)(hq:Raw k m b c)(hk:k<2^34):Qd Tryz.prog 118 [PV.rr n a d,PV.rr m b c] (· = .int .i64 (qI (rv n a d) (rv m b c))):=by
 have hx:=hp.rs;have hy:=hq.rs;unfold FW.rs at hx hy;refine aE Qg Tryz.func118 akM fun C hP=>?_;refine Sz0 ?_;refine Qb hP (uL hp Oz) ?_;refine Sz0 ?_;refine Qb hP (uL hq Oz) ?_;generalize rv n a d=p at *
 generalize rv m b c=q at *
 have h1:=js p.num (q.den:Int);have h2:=js q.num (p.den:Int);rw[Kbj]at h1 h2;refine Sz0 ?_;refine Qb hP (Al (ao q.den)) ?_;refine Sz0 ?_;refine Qb hP (Ax (x:=p.num) (d:=q.den) Oz Oz) ?_;refine Sz0 ?_;refine Qb hP (Al (ao p.den)) ?_;refine Sz0 ?_;refine Qb hP (Ax (x:=q.num) (d:=p.den) Oz Oz) ?_;refine Sz0 ?_;refine Qb hP (aeQ (x:=p.num*(q.den:Int)) (y:=q.num*(p.den:Int)) Oz Oz) ?_;refine Sz0 ?_;exact Qc (congrArg (PV.int .i64) (by rw[<-Sm p.den_nz q.den_nz,Kc4,Kc4])) rfl
theorem Ux{n m:Bool}{a d b c:List Nat}{k:Nat}(hp:Raw k n a d)(hq:Raw k m b c)(hk:k<2^34):Qd Tryz.prog 49 [PV.rr n a d,PV.rr m b c] (· = .bool (decide (rv n a d=rv m b c))):=by refine aE Qg Tryz.func49 anS fun C hP=>?_;refine Sz0 ?_;refine Qb hP (Vp hp hq hk) ?_;refine Sz0 ?_;exact Qc (congrArg PV.bool (decide_eq_decide.2 GW)) rfl
theorem Vq{n m:Bool}{a d b c:List Nat}{k:Nat}(hp:Raw k n a d)(hq:Raw k m b c)(hk:k<2^34):Qd Tryz.prog 87 [PV.rr n a d,PV.rr m b c] (· =PV.rat (rv n a d+rv m b c)):=by
 have hx:=hp.rs;have hy:=hq.rs;unfold FW.rs at hx hy;refine aE Qg Tryz.func87 anU fun C hP=>?_;refine Sz0 ?_;refine Qb hP (uL hp Oz) ?_;refine Sz0 ?_;refine Qb hP (uL hq Oz) ?_;generalize rv n a d=p at *
 generalize rv m b c=q at *
 have h1:=js p.num (q.den:Int);have h2:=js q.num (p.den:Int);have h3:=tE (p.num*(q.den:Int)) (q.num*(p.den:Int));have h4:=rF p.den q.den;rw[Kbj]at h1 h2;refine Sz0 ?_;refine Qb hP (Al (ao q.den)) ?_;refine Sz0 ?_;refine Qb hP (Ax (x:=p.num) (d:=q.den) Oz Oz) ?_;refine Sz0 ?_;refine Qb hP (Al (ao p.den)) ?_;refine Sz0 ?_;refine Qb hP (Ax (x:=q.num) (d:=p.den) Oz Oz) ?_;refine Sz0 ?_;refine Qb hP (aeP (x:=p.num*(q.den:Int)) (y:=q.num*(p.den:Int)) Oz Oz) ?_;refine Sz0 ?_;refine Qb hP (GJ (x:=p.den) (y:=q.den) Oz Oz) ?_;refine Sz0 ?_;refine Qb hP (At (z:=p.num*(q.den:Int)+q.num*(p.den:Int)) (D:=p.den*q.den) Oz Oz) ?_;refine Sz0 ?_;refine cr ?_;refine Sz0 ?_;exact Qc (congrArg PV.rat (by rw[<-Rat.mkRat_add_mkRat _ _ p.den_nz q.den_nz,Kc4,Kc4])) rfl
theorem KC{n:Bool}{a d:List Nat}{k:Nat}(hp:Raw k n a d)(hk:k<2^36):Qd Tryz.prog 25 [PV.rr n a d] (· = .bool (lB n a d)):=by
 obtain⟨ha,hd,sa,sd,k1⟩:=hp;have xD:(ao (Nat.gcd (val a) (val d))).length<2^43:=by
  by_cases h0:val d=0
  ·rw[h0,Kda];have h4:=cq ha;unfold nl at h4;omega
  ·have h3:=iL (Kdj (val a) (Kbg h0));have h4:=cq hd;unfold nl at h3 h4;omega
 refine aE Qg Tryz.func25 ang fun C hP=>?_;refine Sz0 ?_;refine Qb hP (Q5a ha Oz) ?_;unfold lB;refine Sz0 ?_;cases hio:qA n a
 ·refine Sz0 ?_;exact Qc (by simp) rfl
 rw[KcA];refine Sz0 ?_;refine Qb hP (Uv hd Oz) ?_;refine Sz0 ?_;refine Ar (fun hv=>?_) (fun hv=>?_)
 ·refine Sz0 ?_;refine Qb hP (UY ha hd Oz Oz) ?_;refine Sz0 ?_;refine Qb hP (sn (n:=1) Oz) ?_;refine Sz0 ?_;refine Qb hP (Q72 xD (by rw[uW];decide)) ?_;rw[uW,decide_eq_decide.2 (Vn (Nat.gcd (val a) (val d)))];refine Sz0 ?_;refine fN (fun hg=>?_) (fun hg=>?_)
  ·refine Sz0 ?_;exact Qc (congrArg PV.bool (by cases d<;>simp_all)) rfl
  ·refine Sz0 ?_;exact Qc (congrArg PV.bool (by simp[hg])) rfl
 ·refine Sz0 ?_;exact Qc (congrArg PV.bool (by simp_all)) rfl
theorem KL(x:Int):Qd Tryz.prog 132 [.int .i64 x] (· = .int .i64 (gf x)):=by
 refine aE Qg Tryz.func132 aj5 fun C hP=>?_;refine Sz0 ?_;refine Qa (fun h=>?_) (fun h=>?_)
 ·refine Sz0 ?_;exact Qc (by rw[gf,if_pos h]) rfl
 refine Sz0 ?_;refine Qa (fun h2=>?_) (fun h2=>?_)
 ·refine Sz0 ?_;exact Qc (by rw[gf,if_neg h,if_pos h2]) rfl
 ·refine Sz0 ?_;exact Qc (by rw[gf,if_neg h,if_neg h2]) rfl
theorem ach{a:List Int}{v:Int}(hl:a.length<2^42):Qd Tryz.prog 66 [PV.mono a,.int .i64 v] (· = .int .i64 (if v<0 then 0 else eN a v.toNat)):=by
 refine aE Qg Tryz.func66 amH fun C hP=>?_;refine Sz0 ?_;refine fb (fun h1=>?_) (fun h1=>?_)
 ·refine Sz0 ?_;exact Qc (by rw[if_pos h1]) rfl
 ·obtain⟨n,rfl⟩:∃n:Nat,v=n:=⟨v.toNat,by omega⟩
  rw[if_neg h1];refine Sz0 ?_;refine Qa (fun h2=>?_) (fun h2=>?_)
  ·refine Sz0 ?_;exact Qc (by rw[jh Oz]) rfl
  ·have hn:n<a.length:=by omega
   refine Sz0 ?_;exact Qc (by rw[fY hn]) rfl
theorem oX{a:List Int}{i:Nat}(hl:a.length<2^42):Qd Tryz.prog 66 [PV.mono a,.int .i64 i] (· = .int .i64 (eN a i)):=by
 have:=ach (v:=i) hl
 rwa[if_neg Oz,Kcq]at this
theorem Ci{a:List Int}(hl:a.length<=1048576)(hb:∀x∈a,0<=x/\x<=1099511627776):Qd Tryz.prog 131 [PV.mono a] (· = .int .i64 (dT a)):=by
 refine aE Qg Tryz.func131 aj4 fun C hP=>?_;refine Sz0 ?_;refine Qi okB [(3,16)] [] (fun k J hp=>∃(i:Nat)(s:Int),k=a.length-i/\i<=a.length/\0<=s/\s<=1099511627776*i/\s+(a.drop i).sum=dT a/\J 4= .int .i64 (i:Nat)/\J 3= .int .i64 s/\hp=aA) a.length ?_ ?_
 ·refine⟨0,0,rfl,by omega,by omega,by omega,by simp[dT],?_⟩;refine Sz0 ?_;simp
 rintro _ J _ ⟨i,s,rfl,hi,iG,eu,qX,h4,h3,rfl⟩;refine Sz2 h4 h3 ?_;refine Qa (fun hg=>?_) (fun hg=>?_)
 ·have al:i<a.length:=by omega
  have hx:=hb _ (Kah al);rw[KaA al,KcZ]at qX;generalize eG:a[i]=x at *
  refine Sz3 h4 h3 eG ?_;refine Qf (a.length-(i+1)) Oz ⟨i+1,s+x,rfl,by omega,by omega,by push_cast;omega,by omega,?_⟩;exact Tz0
 ·rw[Kao Oz,List.sum_nil,Int.add_zero]at qX;refine Sz1 h3 ?_;exact Qc (by rw[qX]) rfl
theorem aci{l:List Int}(hl:l.length<2^42):Qd Tryz.prog 202 [PV.mono l] (· =PV.mono (cQ l)):=by
 refine aE Qg Tryz.func202 aj2 fun C hP=>?_;refine Sz0 ?_;refine Qi okB [(3,3),(7,18)] [] (fun m J hp=>m<=l.length/\mS l m=cQ l/\J 3= .int .i64 m/\hp=aA) l.length ?_ ?_
 ·refine⟨Kae _,rfl,?_⟩;exact Tz0
 rintro n J _ ⟨hn,hc,h3,rfl⟩;refine Sz1 h3 ?_;refine fN (fun hg=>?_) (fun hg=>?_)
 ·obtain _|n:=n
  ·omega
  have e:((n+1:Nat):Int)-1=n:=by omega
  simp only[mS]at hc;simp+decide (disch:=try exact D2 h3 e) only[go_sem,h3,e];refine Qa (fun hz=>?_) (fun hz=>?_)
  ·rw[if_pos (by simp[hz,show n<l.length by omega])]at hc;refine Sz2 h3 e ?_;refine Qf n Oz ⟨by omega,hc,?_⟩;exact Tz0
  ·rw[if_neg (by simpa[show n<l.length by omega]using hz)]at hc;have aw:(l.take (n+1)).length<2^42:=by rw[KaF];omega
   refine mm h3 e ?_;exact Qc (by rw[Kac (by simp),hc]) rfl
 ·obtain rfl:n=0:=by omega
  simp+decide (disch:=first|omega|rfl|(simp+decide only[go_sem,h3,Kcg,Kbu,Kbk]<;>rfl)|fail) only[go_sem,h3,Kcg,Kbu,Kbk];rw[GB (ys:=[]) rfl Oz (by simp) (by simp)];refine ij ?_;exact Qc (by rw[<-hc];rfl) rfl
theorem KD{a:List Int}(hl:a.length<2^42):Qd Tryz.prog 64 [PV.mono a] (· = .bool (ck a)):=by
 refine aE Qg Tryz.func64 amG fun C hP=>?_;refine Sz0 ?_;have bad:(64<a.length∨a.getLast? =some 0∨∃x∈a,x<0∨1048576<x)->ck a=false:=fun h=>by
  cases hb:ck a with
  |false=>rfl
  |true=>
   have:=MB.tA hb;simp only[ck,KaC,decide_eq_true_eq]at hb;rcases h with h|h|⟨x,hx,h⟩
   ·omega
   ·exact absurd h hb.2.1
   ·have h5:=this.lo x hx;have h6:=this.hi x hx;omega
 refine fb (fun h1=>?_) (fun h1=>?_)
 ·refine Sz0 ?_;exact Qc (by rw[bad (.inl Oz)]) rfl
 refine Sz0 ?_;have fin:a.length<=64->a.getLast? ≠some 0->(∀x∈a,0<=x/\x<=1048576)->ck a=true:=fun h1 h2 h3=>by simp only[ck,KaC,decide_eq_true_eq,Kax];exact⟨h1,h2,h3⟩
 refine fN (fun h2=>?_) (fun h2=>?_)
 ·obtain⟨k,hk⟩:∃k,a.length=k+1:=⟨a.length-1,by omega⟩
  have gK:=Mi hk;have e:((k+1:Nat):Int)-1=k:=by omega
  generalize hy:a[k]'Oz=y at *
  refine Sz3 hk e hy ?_;refine Qa (fun h3=>?_) (fun h3=>?_)
  ·refine Sz0 ?_;exact Qc (by rw[bad (.inr (.inl (by rw[gK,h3])))]) rfl
  have gK:a.getLast? ≠some 0:=by rw[gK];simpa using h3
  rw[<-hk]at *
  refine Sz0 ?_;refine Qi okB [(2,3),(21,38)] [] (fun k J hp=>∃i,k=a.length-i/\i<=a.length/\(∀x∈a.take i,0<=x/\x<=1048576)/\J 3= .int .i64 i/\hp=aA) a.length ?_ ?_
  ·refine⟨0,rfl,by omega,by simp,?_⟩;refine Sz0 ?_;rfl
  rintro _ J _ ⟨i,rfl,hi,cU,hj,rfl⟩;refine Sz1 hj ?_;refine Qa (fun hg=>?_) (fun hg=>?_)
  ·have al:i<a.length:=by omega
   have dB:=Kah al;have aT:∀x∈a.take (i+1),x∈a.take i∨x=a[i]:=fun x hx=>by
    rw[Kak al]at hx;rcases KaL.1 hx with h|h
    ·exact .inl h
    ·exact .inr (Kau.1 h)
   generalize hx:a[i]=x at *
   refine Sz2 hj hx ?_;refine fb (fun h5=>?_) (fun h5=>?_)
   ·refine Sz0 ?_;exact Qc (by rw[bad (.inr (.inr ⟨x,dB,.inl h5⟩))]) rfl
   ·refine Sz2 hj hx ?_;refine Qa (fun h6=>?_) (fun h6=>?_)
    ·refine Sz0 ?_;exact Qc (by rw[bad (.inr (.inr ⟨x,dB,.inr h6⟩))]) rfl
    ·refine Sz1 hj ?_;refine Qf (a.length-(i+1)) Oz ⟨i+1,rfl,by omega,fun y hy=>?_,?_⟩
     ·rcases aT y hy with h|rfl
      ·exact cU y h
      ·omega
     ·exact Tz0
  ·rw[Kac Oz]at cU;refine Sz0 ?_;exact Qc (by rw[fin Oz gK cU]) rfl
 ·have Nx:a=[]:=KaI.1 Oz;have gK:a.getLast? ≠some 0:=by rw[Nx];simp
  refine Sz0 ?_;refine Qi okB [(2,3),(21,38)] [] (fun k J hp=>∃i,k=a.length-i/\i<=a.length/\(∀x∈a.take i,0<=x/\x<=1048576)/\J 3= .int .i64 i/\hp=aA) a.length ?_ ?_
  ·refine⟨0,rfl,by omega,by simp,?_⟩;refine Sz0 ?_;rfl
  rintro _ J _ ⟨i,rfl,hi,cU,hj,rfl⟩;refine Sz1 hj ?_;refine Qa (fun hg=>?_) (fun hg=>?_)
  ·have al:i<a.length:=by omega
   have dB:=Kah al;have aT:∀x∈a.take (i+1),x∈a.take i∨x=a[i]:=fun x hx=>by
    rw[Kak al]at hx;rcases KaL.1 hx with h|h
    ·exact .inl h
    ·exact .inr (Kau.1 h)
   generalize hx:a[i]=x at *
   refine Sz2 hj hx ?_;refine fb (fun h5=>?_) (fun h5=>?_)
   ·refine Sz0 ?_;exact Qc (by rw[bad (.inr (.inr ⟨x,dB,.inl h5⟩))]) rfl
   ·refine Sz2 hj hx ?_;refine Qa (fun h6=>?_) (fun h6=>?_)
    ·refine Sz0 ?_;exact Qc (by rw[bad (.inr (.inr ⟨x,dB,.inr h6⟩))]) rfl
    ·refine Sz1 hj ?_;refine Qf (a.length-(i+1)) Oz ⟨i+1,rfl,by omega,fun y hy=>?_,?_⟩
     ·rcases aT y hy with h|rfl
      ·exact cU y h
      ·omega
     ·exact Tz0
  ·rw[Kac Oz]at cU;refine Sz0 ?_;exact Qc (by rw[fin Oz gK cU]) rfl
theorem Q74{a:List Int}(hl:a.length<2^42):Qd Tryz.prog 164 [PV.mono a] (· =PV.mono (if ck (cQ a)then cQ a else [])):=by
 have ht:=tD a;refine aE Qg Tryz.func164 aj3 fun C hP=>?_;refine Sz0 ?_;refine Qb hP (aci hl) ?_;refine Sz0 ?_;refine Qb hP (KD Oz) ?_;refine Sz0 ?_;cases bR:ck (cQ a)
 ·refine Sz1 @Bool.not_false ?_;exact pg (LR (by simp)) rfl
 ·have:(cQ a).length<=64:=(MB.tA bR).len;refine lG @Bool.not_true ?_;exact Qc (by simp[Kac]) rfl
theorem Q75{a b:List Int}(bD:a.length<2^43)(dJ:b.length<2^43):Qd Tryz.prog 142 [PV.mono a,PV.mono b] (· = .bool (decide (a=b))):=by
 refine aE Qg Tryz.func142 aj6 fun C hP=>?_;refine Sz0 ?_;refine Qa (fun h0=>?_) (fun h0=>?_)
 ·refine Sz0 ?_;exact Qc (congrArg PV.bool (by rw[decide_eq_false];rintro rfl;exact h0 rfl)) rfl
 have hlen:a.length=b.length:=by omega
 refine Sz0 ?_;refine Qi okB [(4,5),(11,25)] [] (fun n J hp=>∃i,n=a.length-i/\i<=a.length/\a.take i=b.take i/\J 5= .int .i64 (i:Nat)) a.length ?_ ?_
 ·refine⟨0,rfl,by omega,by simp,?_⟩;refine Sz0 ?_;rfl
 rintro _ J h ⟨i,rfl,hi,he,h5⟩;refine Sz1 h5 ?_;refine Qa (fun hg=>?_) (fun hg=>?_)
 ·have al:i<a.length:=by omega
  have uu:i<b.length:=by omega
  have ta:=Kak al;have tb:=Kak uu;have aJ:a=b->a[i]=b[i]:=fun h=>by subst h;rfl
  generalize hx:a[i]=x at *
  generalize hy:b[i]=y at *
  refine Sz3 h5 hx hy ?_;refine Qa (fun hc=>?_) (fun hc=>?_)
  ·refine Sz0 ?_;exact Qc (congrArg PV.bool (by rw[decide_eq_false];intro h;exact hc (by rw[aJ h]))) rfl
  ·refine Sz1 h5 ?_;refine Qf (a.length-(i+1)) Oz ⟨i+1,rfl,by omega,by rw[ta,tb,he,show x=y by omega],?_⟩;exact Tz0
 ·obtain rfl:i=a.length:=by omega
  rw[Kaz,hlen,Kaz]at he;refine Sz0 ?_;exact Qc (congrArg PV.bool (by rw[he];simp)) rfl
theorem Vr{k:Nat}{a b:List Int}(ha:MB k a)(hb:MB k b)(hk:k<=1099511627776):Qd Tryz.prog 98 [PV.mono a,PV.mono b] (· =PV.mono (mc (· + ·) a b)):=by
 have h1:=ha.len;have h2:=hb.len;have hz:=rp (· + ·) a b;refine aE Qg Tryz.func98 amI fun C hP=>?_;refine Sz0 ?_;refine fW 5 900 1 3 Oz Tz0 ?_;refine Qi okB [(5,28)] [27,28,900] (fun m J hp=>∃(i:Nat)(out:List Int),m=max a.length b.length-i/\i<=max a.length b.length/\out=(mc (· + ·) a b).take i/\J 5= .ms 900 out.length/\J 6= .int .i64 i/\hp 900=some ⟨1,3,nC out,false⟩) (max a.length b.length) ?_ ?_
 ·refine⟨0,[],rfl,by omega,by simp,?_⟩;refine Sz0 ?_;simp
 rintro _ J h ⟨i,out,rfl,hi,oL,h5,h6,hh⟩;have ir:out.length=i:=by rw[oL,KaF,hz];omega
 refine Sz2 h5 h6 ?_;refine fb (fun hg=>?_) (fun hg=>?_)
 ·have aw:i<max a.length b.length:=by omega
  have aT:=LS (g:=(· + ·)) aw;have ea:=ha.eN i;have eb:=hb.eN i;refine Sz2 h5 h6 ?_;refine Qb hP (oX (a:=a) (i:=i) Oz) ?_;refine Sz2 h5 h6 ?_;refine Qb hP (oX (a:=b) (i:=i) Oz) ?_;refine Sz2 h5 h6 ?_;rw[Qr (f:=fun(x:Int)=>.int .i64 x) (y:=eN a i+eN b i) (xs:=out) (ty':=3) (fz:=false) (Tz1 hh) cE Oz rfl Oz Oz];refine Sz2 h5 h6 ?_;refine Qf (max a.length b.length-(i+1)) Oz ⟨i+1,out++[eN a i+eN b i],rfl,by omega,by rw[aT,oL],?_⟩;refine Sz0 ?_;simp
 refine Sz2 h5 h6 ?_;refine Qa (fun eK=>?_) (fun eK=>?_)
 ·have aw:i<max a.length b.length:=by omega
  have aT:=LS (g:=(· + ·)) aw;have ea:=ha.eN i;have eb:=hb.eN i;refine Sz2 h5 h6 ?_;refine Qb hP (oX (a:=a) (i:=i) Oz) ?_;refine Sz2 h5 h6 ?_;refine Qb hP (oX (a:=b) (i:=i) Oz) ?_;refine Sz2 h5 h6 ?_;rw[Qr (f:=fun(x:Int)=>.int .i64 x) (y:=eN a i+eN b i) (xs:=out) (ty':=3) (fz:=false) (Tz1 hh) cE Oz rfl Oz Oz];refine Sz2 h5 h6 ?_;refine Qf (max a.length b.length-(i+1)) Oz ⟨i+1,out++[eN a i+eN b i],rfl,by omega,by rw[aT,oL],?_⟩;refine Sz0 ?_;simp
 obtain rfl:i=max a.length b.length:=by omega
 rw[Kac Oz]at oL;subst oL;refine mm h5 hh ?_;exact Qc (by rw[Kac (by simp)]) rfl
theorem L5(x y:Int):gf (x-y)=ep x y:=by unfold gf ep;(repeat' split)<;>omega
theorem acj{k:Nat}{a b:List Int}{o:Int}(ha:MB k a)(hb:MB k b)(hk:k<=1099511627776):Qd Tryz.prog 65 [PV.mono a,PV.mono b,.int .i64 o] (· = .int .i64 (me o a b)):=by
 have h1:=ha.len;have h2:=hb.len;have iW:∀x∈a,0<=x/\x<=1099511627776:=fun x hx=>by have:=ha.lo x hx;have:=ha.hi x hx;omega
 have kC:∀x∈b,0<=x/\x<=1099511627776:=fun x hx=>by have:=hb.lo x hx;have:=hb.hi x hx;omega
 have da:=Dm ha;have db:=Dm hb;refine aE Qg Tryz.func65 amJ fun C hP=>?_;refine Sz0 ?_;refine fN (fun ho=>?_) (fun ho=>?_)
 ·refine Sz0 ?_;refine Qb hP (Ci Oz iW) ?_;refine Sz0 ?_;refine Qb hP (Ci Oz kC) ?_;refine Sz0 ?_;refine Qa (fun hd=>?_) (fun hd=>?_)
  ·have mB:me o a b=ep (dT a) (dT b):=by unfold me;rw[if_pos ⟨ho,hd⟩]
   refine Sz0 ?_;refine Qb hP (Ci Oz iW) ?_;refine Sz0 ?_;refine Qb hP (Ci Oz kC) ?_;refine Sz0 ?_;refine Qb hP (KL _) ?_;refine Sz0 ?_;exact Qc (by rw[mB,L5]) rfl
  have mB:me o a b=bm a b:=by unfold me;rw[if_neg (fun h=>hd h.2)]
  refine Sz0 ?_;refine Qi okB [(6,7),(29,47)] [] (fun n J hp=>n<=max a.length b.length/\eS a b n=bm a b/\J 7= .int .i64 ((n:Int)-1)/\hp=aA) (max a.length b.length) ?_ ?_
  ·refine⟨by omega,rfl,?_⟩;exact Tz0
  rintro n J _ ⟨hn,hc,h7,rfl⟩;refine Sz1 h7 ?_;refine Qa (fun hg=>?_) (fun hg=>?_)
  ·obtain _|n:=n
   ·omega
   have e:((n+1:Nat):Int)-1=n:=by omega
   have ea:=ha.eN n;have eb:=hb.eN n;rw[eS]at hc;refine Sz2 h7 e ?_;refine Qb hP (oX Oz) ?_;refine Sz2 h7 e ?_;refine Qb hP (oX Oz) ?_;refine Sz2 h7 e ?_;refine Qa (fun h4=>?_) (fun h4=>?_)
   ·rw[if_neg h4]at hc;refine Sz2 h7 e ?_;refine Qb hP (oX Oz) ?_;refine Sz2 h7 e ?_;refine Qb hP (oX Oz) ?_;refine Sz2 h7 e ?_;refine Qb hP (KL _) ?_;refine Sz2 h7 e ?_;exact Qc (by rw[mB,<-hc,L5]) rfl
   ·rw[if_pos Oz]at hc;refine Sz2 h7 e ?_;refine Qf n Oz ⟨by omega,hc,?_⟩;exact Tz0
  ·obtain rfl:n=0:=by omega
   refine Sz0 ?_;exact Qc (by rw[mB,<-hc];rfl) rfl
 ·have mB:me o a b=bm a b:=by unfold me;rw[if_neg (fun h=>ho h.1)]
  refine Sz0 ?_;refine Qi okB [(6,7),(29,47)] [] (fun n J hp=>n<=max a.length b.length/\eS a b n=bm a b/\J 7= .int .i64 ((n:Int)-1)/\hp=aA) (max a.length b.length) ?_ ?_
  ·refine⟨by omega,rfl,?_⟩;exact Tz0
  rintro n J _ ⟨hn,hc,h7,rfl⟩;refine Sz1 h7 ?_;refine Qa (fun hg=>?_) (fun hg=>?_)
  ·obtain _|n:=n
   ·omega
   have e:((n+1:Nat):Int)-1=n:=by omega
   have ea:=ha.eN n;have eb:=hb.eN n;rw[eS]at hc;refine Sz2 h7 e ?_;refine Qb hP (oX Oz) ?_;refine Sz2 h7 e ?_;refine Qb hP (oX Oz) ?_;refine Sz2 h7 e ?_;refine Qa (fun h4=>?_) (fun h4=>?_)
   ·rw[if_neg h4]at hc;refine Sz2 h7 e ?_;refine Qb hP (oX Oz) ?_;refine Sz2 h7 e ?_;refine Qb hP (oX Oz) ?_;refine Sz2 h7 e ?_;refine Qb hP (KL _) ?_;refine Sz2 h7 e ?_;exact Qc (by rw[mB,<-hc,L5]) rfl
   ·rw[if_pos Oz]at hc;refine Sz2 h7 e ?_;refine Qf n Oz ⟨by omega,hc,?_⟩;exact Tz0
  ·obtain rfl:n=0:=by omega
   refine Sz0 ?_;exact Qc (by rw[mB,<-hc];rfl) rfl
theorem G'{a b:Rat}{k:Nat}(ha:rs a<=k)(hb:rs b<=k)(hk:k<2^34):Qd Tryz.prog 87 [PV.rat a,PV.rat b] (· =PV.rat (a+b)):=by
 have:=Vq (fO ha) (fO hb) hk
 rwa[eA,eA]at this
theorem wF{a b:Rat}{k:Nat}(ha:rs a<=k)(hb:rs b<=k)(hk:k<2^34):Qd Tryz.prog 85 [PV.rat a,PV.rat b] (· =PV.rat (a*b)):=by
 have:=acg (fO ha) (fO hb) hk
 rwa[eA,eA]at this
theorem agF{a b:Rat}{k:Nat}(ha:rs a<=k)(hb:rs b<=k)(hk:k<2^34):Qd Tryz.prog 118 [PV.rat a,PV.rat b] (· = .int .i64 (qI a b)):=by
 have:=Vp (fO ha) (fO hb) hk
 rwa[eA,eA]at this
theorem o7{a:Rat}(ha:rs a<2^36):Qd Tryz.prog 27 [PV.rat a] (· = .int .i64 (fc a)):=by
 have:=Gl (fO (Kae (rs a))) ha
 rwa[eA]at this
theorem DG{k:Nat}{a b:List Int}(ha:MB k a)(hb:MB k b)(hk:k<=1099511627776):Qd Tryz.prog 65 [PV.mono a,PV.mono b,.int .i64 0] (· = .int .i64 (bm a b)):=by
 have:=acj (o:=0) ha hb hk
 rwa[DF]at this
theorem ack{p q:List Tm}{K E:Nat}(hp:PB K E p)(hq:PB K E q)(hK:K<=2^33)(hE:E<=2^38)(cW:p.length<=2^36)(oJ:q.length<=2^36):
  Qd Tryz.prog 113 [PV.aL p,PV.aL q] (· = .int .i64 (ks p q)):=by
 refine aE Qg Tryz.func113 aj8 fun C hP=>?_;refine Sz0 ?_;refine Qi okB [(4,47)] [] (fun n J hp=>∃i,n=p.length-i/\i<=p.length/\i<=q.length/\ks (p.drop i) (q.drop i)=ks p q/\J 5= .int .i64 (i:Nat)) p.length ?_ ?_
 ·refine⟨0,rfl,by omega,by omega,rfl,?_⟩;refine Sz0 ?_;rfl
 rintro _ J h ⟨i,rfl,hi,dZ,iu,h5⟩;refine Sz1 h5 ?_;refine fN (fun hg=>?_) (fun hg=>?_)
 ·have al:i<p.length:=by omega
  refine Sz1 h5 ?_;refine Qa (fun hk=>?_) (fun hk=>?_)
  ·have bI:i<q.length:=by omega
   have cg:=hp.get al;have qZ:=hq.get bI;have c1:=cg.c;have c2:=qZ.c;rw[Pa al bI]at iu;generalize hx:p[i]=x at *
   generalize hy:q[i]=y at *
   refine Sz3 h5 hx hy ?_;refine Qb hP (DG cg.m qZ.m Oz) ?_;refine Sz3 h5 hx hy ?_;refine Qa (fun hc=>?_) (fun hc=>?_)
   ·refine Sz0 ?_;exact Qc (by rw[<-iu,if_pos (by rw[pE,if_pos hc];exact hc),pE,if_pos hc]) rfl
   ·refine Sz3 h5 hx hy ?_;refine Qb hP (agF (a:=x.1) (b:=y.1) (k:=2^33) Oz Oz Oz) ?_;refine Sz3 h5 hx hy ?_;refine Qa (fun iD=>?_) (fun iD=>?_)
    ·refine Sz0 ?_;exact Qc (by rw[<-iu,if_pos (by rw[pE,if_neg hc];exact iD),pE,if_neg hc]) rfl
    ·rw[if_neg (by rw[pE,if_neg hc];exact iD)]at iu;refine Sz1 h5 ?_;refine Qf (p.length-(i+1)) Oz ⟨i+1,rfl,by omega,by omega,iu,?_⟩;exact Tz0
  refine Sz0 ?_;refine Qa (fun hk=>?_) (fun hk=>?_)
  ·refine Sz0 ?_;exact Qc (by rw[<-iu,Kao (show p.length<=i by omega),C6,if_neg (by rw[Kbc];omega)]) rfl
  ·refine Sz0 ?_;refine Qa (fun qT=>?_) (fun qT=>?_)
   ·refine Sz0 ?_;refine Qc ?_ rfl;rw[<-iu,KaA (show i<p.length by omega),Kao (show q.length<=i by omega),ks]
   ·refine Sz0 ?_;exact Qc (by rw[<-iu,Kao (show p.length<=i by omega),C6,if_pos (by rw[Kbc];omega)]) rfl
 ·have al:i=p.length:=by omega
  refine Sz0 ?_;refine Qa (fun hk=>?_) (fun hk=>?_)
  ·refine Sz0 ?_;exact Qc (by rw[<-iu,Kao (show p.length<=i by omega),C6,if_neg (by rw[Kbc];omega)]) rfl
  ·refine Sz0 ?_;refine Qa (fun qT=>?_) (fun qT=>?_)
   ·refine Sz0 ?_;refine Qc ?_ rfl;rw[<-iu,KaA (show i<p.length by omega),Kao (show q.length<=i by omega),ks]
   ·refine Sz0 ?_;exact Qc (by rw[<-iu,Kao (show p.length<=i by omega),C6,if_pos (by rw[Kbc];omega)]) rfl
theorem Uy{p q:List Tm}{K E:Nat}(hp:PB K E p)(hq:PB K E q)(hK:K<=2^33)(hE:E<=2^38)(cW:p.length<=2^36)(oJ:q.length<=2^36):Qd Tryz.prog 40 [PV.aL p,PV.aL q] (· = .bool (decide (p=q))):=by refine aE Qg Tryz.func40 ani fun C hP=>?_;refine Sz0 ?_;refine Qb hP (ack hp hq hK hE cW oJ) ?_;refine Sz0 ?_;exact Qc (congrArg PV.bool (decide_eq_decide.2 (JC hp.last hq.last))) rfl
theorem Vs{p q:List Tm}{K E:Nat}(hp:PB K E p)(hq:PB K E q)(hK:K<=2^32)(hE:E<=2^38)(cW:p.length<=2^36)(oJ:q.length<=2^36):
  Qd Tryz.prog 110 [PV.aL p,PV.aL q] (· =PV.aL (aW p q)):=by
 refine aE Qg Tryz.func110 aj7 fun C hP=>?_;refine Sz0 ?_;refine fW 5 900 4 95 Oz Tz0 ?_;refine Qi okB [(5,90)] [9,61,62,75,76,87,88,900] (fun n J hp=>∃i k out,n=(p.length-i)+(q.length-k)/\i<=p.length/\k<=q.length/\out.length<=i+k/\out++aW (p.drop i) (q.drop k)=aW p q/\
  J 5= .ms 900 out.length/\J 6= .int .i64 (i:Nat)/\J 7= .int .i64 (k:Nat)/\hp 900=some ⟨4,95,out.map PV.term,false⟩) (p.length+q.length) ?_ ?_
 ·refine⟨0,0,[],by omega,by omega,by omega,by simp,rfl,?_⟩;refine Sz0 ?_;simp
 rintro _ J h ⟨i,k,out,rfl,hi,hk,ir,eX,h5,h6,h7,hh⟩;refine Sz3 h5 h6 h7 ?_;refine fb (fun hg=>?_) (fun hg=>?_)
 ·have al:i<p.length:=by omega
  refine Sz3 h5 h6 h7 ?_;refine Qa (fun h=>by omega) (fun _=>?_);refine Sz3 h5 h6 h7 ?_;refine Qa (fun eK=>?_) (fun eK=>?_)
  ·have bI:k<q.length:=by omega
   have cg:=hp.get al;have qZ:=hq.get bI;rw[O9 al bI]at eX;have c1:=cg.c;have c2:=qZ.c;generalize hx:p[i]=x at *
   generalize hy:q[k]=y at *
   refine Sz5 h5 h6 h7 hx hy ?_;refine Qb hP (DG cg.m qZ.m Oz) ?_;refine Sz5 h5 h6 h7 hx hy ?_;refine Qa (fun hc=>?_) (fun hc=>?_)
   ·rw[if_pos hc]at eX;refine Sz4 h5 h6 h7 hx ?_;rw[Qr (f:=PV.term) (y:=x) (xs:=out) (ty':=95) (fz:=false) (Tz1 hh) cE Oz rfl Oz Oz];refine Sz4 h5 h6 h7 hx ?_;refine Qf ((p.length-(i+1))+(q.length-k)) Oz ⟨i+1,k,out++[x],rfl,by omega,hk,by simp;omega,by simpa using eX,?_⟩;refine Sz3 h5 h6 h7 ?_;simp
   rw[if_neg hc]at eX;refine Sz5 h5 h6 h7 hx hy ?_;refine Qa (fun iD=>?_) (fun iD=>?_)
   ·rw[if_pos iD]at eX;refine Sz4 h5 h6 h7 hy ?_;rw[Qr (f:=PV.term) (y:=y) (xs:=out) (ty':=95) (fz:=false) (Tz1 hh) cE Oz rfl Oz Oz];refine Sz4 h5 h6 h7 hy ?_;refine Qf ((p.length-i)+(q.length-(k+1))) Oz ⟨i,k+1,out++[y],rfl,by omega,by omega,by simp;omega,by simpa using eX,?_⟩;refine Sz3 h5 h6 h7 ?_;simp
   rw[if_neg iD]at eX;have NK:=lz x.1 y.1;refine Sz5 h5 h6 h7 hx hy ?_;refine lk ?_ ?_
   all_goals
    refine Sz5 h5 h6 h7 hx hy ?_;refine Qb hP (G' (a:=x.1) (b:=y.1) (k:=2^32) Oz Oz Oz) ?_;refine Sz5 h5 h6 h7 hx hy ?_;refine Qb hP (o7 (a:=x.1+y.1) Oz) ?_;refine Sz5 h5 h6 h7 hx hy ?_;refine Qa (fun hz=>?_) (fun hz=>?_)
    ·rw[if_neg (fun h=>hz (dy.2 h))]at eX;refine Sz5 h5 h6 h7 hx hy ?_;rw[Qr (f:=PV.term) (y:=(x.1+y.1,x.2)) (xs:=out) (ty':=95) (fz:=false) (Tz1 hh) cE Oz rfl Oz Oz];refine Sz5 h5 h6 h7 hx hy ?_;refine Qf ((p.length-(i+1))+(q.length-(k+1))) Oz ⟨i+1,k+1,out++[(x.1+y.1,x.2)],rfl,by omega,by omega,by simp;omega,by simpa using eX,?_⟩;refine Sz3 h5 h6 h7 ?_;simp
    ·rw[if_pos (dy.1 (Decidable.not_not.1 hz))]at eX;refine Sz5 h5 h6 h7 hx hy ?_;refine Qf ((p.length-(i+1))+(q.length-(k+1))) Oz ⟨i+1,k+1,out,rfl,by omega,by omega,by omega,eX,?_⟩;exact Tz4 h5 h6 h7 hh
  ·rw[Kao (show q.length<=k by omega),o9,KaA al]at eX;have eX:out++p[i]::aW (p.drop (i+1)) (q.drop k)=aW p q:=by rw[Kao (show q.length<=k by omega),o9];exact eX
   generalize hx:p[i]=x at *
   refine Sz4 h5 h6 h7 hx ?_;rw[Qr (f:=PV.term) (y:=x) (xs:=out) (ty':=95) (fz:=false) (Tz1 hh) cE Oz rfl Oz Oz];refine Sz4 h5 h6 h7 hx ?_;refine Qf ((p.length-(i+1))+(q.length-k)) Oz ⟨i+1,k,out++[x],rfl,by omega,hk,by simp;omega,by simpa using eX,?_⟩;refine Sz3 h5 h6 h7 ?_;simp
 ·have al:i=p.length:=by omega
  refine Sz3 h5 h6 h7 ?_;refine Qa (fun eK=>?_) (fun eK=>?_)
  ·have bI:k<q.length:=by omega
   rw[Kao (show p.length<=i by omega),yt,KaA bI]at eX;have eX:out++q[k]::aW (p.drop i) (q.drop (k+1))=aW p q:=by rw[Kao (show p.length<=i by omega),yt];exact eX
   generalize hy:q[k]=y at *
   refine Sz4 h5 h6 h7 hy ?_;refine Qa (fun _=>?_) (fun h=>by omega);refine Sz4 h5 h6 h7 hy ?_;rw[Qr (f:=PV.term) (y:=y) (xs:=out) (ty':=95) (fz:=false) (Tz1 hh) cE Oz rfl Oz Oz];refine Sz4 h5 h6 h7 hy ?_;refine Qf ((p.length-i)+(q.length-(k+1))) Oz ⟨i,k+1,out++[y],rfl,by omega,by omega,by simp;omega,by simpa using eX,?_⟩;refine Sz3 h5 h6 h7 ?_;simp
  ·rw[Kao (show p.length<=i by omega),yt,Kao (show q.length<=k by omega),Kam]at eX;refine Vz4 h5 h6 h7 hh ?_;exact Qc (by rw[Kac (by simp),eX]) rfl
theorem Pz{k l:Nat}{a b:List Int}(ha:MB k a)(hb:MB l b)(h1:a.getLast? ≠some 0)(h2:b.getLast? ≠some 0):mc (· + ·) a b=bF a b:=by
 rw[bF,Mh];rw[Kbn,rp];intro h;obtain⟨hl,hv⟩:=Kaf.1 h;rw[<-fY hl,So (by simp)]at hv;rw[rp]at hl;have p1:=(ha.eN (max a.length b.length-1)).1;have p2:=(hb.eN (max a.length b.length-1)).1;by_cases hc:b.length<=a.length
 ·apply h1;have e:max a.length b.length-1=a.length-1:=by omega
  rw[e]at hv p1 p2;rw[Kbn,Kag Oz,<-fY Oz];congr 1;omega
 ·apply h2;have e:max a.length b.length-1=b.length-1:=by omega
  rw[e]at hv p1 p2;rw[Kbn,Kag Oz,<-fY Oz];congr 1;omega
theorem Q5b{p:List Tm}{t:Tm}{K E:Nat}(hp:PB K E p)(ht:TB K E t)(pU:NZ p)(ht0:t.1≠0)(hK:K<=2^33)(hE:E<=2^38)(cW:p.length<=2^36):
  Qd Tryz.prog 134 [PV.aL p,PV.term t] (· =PV.aL (ca p t)):=by
 refine aE Qg Tryz.func134 akb fun C hP=>?_;refine Sz0 ?_;refine fW 5 900 4 95 Oz Tz0 ?_;refine Qi okB [(5,32)] [31,32,900] (fun n J hp=>∃i,n=p.length-i/\i<=p.length/\J 5= .ms 900 (ca (p.take i) t).length/\J 6= .int .i64 (i:Nat)/\hp 3=some ⟨4,95,[PV.term t],false⟩/\hp 900=some ⟨4,95,(ca (p.take i) t).map PV.term,false⟩) p.length ?_ ?_
 ·refine⟨0,rfl,by omega,?_⟩;refine Sz0 ?_;simp[ca]
 rintro _ J h ⟨i,rfl,hi,h5,h6,cb,hh⟩;refine Sz2 h5 h6 ?_;refine Qa (fun hg=>?_) (fun hg=>?_)
 ·have al:i<p.length:=by omega
  have cg:=hp.get al;have aT:=KZ (t:=t) al;have hlen:=ye (p.take i) t;rw[KaF]at hlen;have c1:=cg.c;have c2:=ht.c;have lQ:=pU _ (Kah al);generalize hx:p[i]=x at *
  have hzz:=Pz cg.m ht.m cg.l ht.l;rw[if_neg (fun h=>by rcases KcX.1 h with h|h<;>contradiction)]at aT;refine Sz4 h5 h6 cb hx ?_;refine Qb hP (wF (a:=x.1) (b:=t.1) (k:=2^33) Oz Oz Oz) ?_;refine Sz4 h5 h6 cb hx ?_;refine Qb hP (Vr cg.m ht.m Oz) ?_;rw[hzz];refine Sz4 h5 h6 cb hx ?_;rw[Qr (f:=PV.term) (y:=(x.1*t.1,bF x.2 t.2)) (xs:=ca (p.take i) t) (ty':=95) (fz:=false) (Tz1 hh) cE Oz rfl Oz Oz];rw[<-aT];refine Sz4 h5 h6 cb hx ?_;refine Qf (p.length-(i+1)) Oz ⟨i+1,rfl,by omega,?_⟩;rw[aT];simp+decide (disch:=first|omega|rfl|(simp+decide only[go_sem,h5,h6,cb,Kay]<;>rfl)|fail) only[go_sem,h5,h6,cb,Kay]
 ·obtain rfl:i=p.length:=by omega
  rw[Kaz]at h5 hh;refine mm h5 hh ?_;exact Qc (by simp[Kac]) rfl
theorem adB{p q:List Tm}{i:Nat}(h:i<q.length):rG p (q.take (i+1))=aW (rG p (q.take i)) (ca p q[i]):=by rw[Kak h,rG,Kde,rG];rfl
theorem Vt{K E:Nat}{p:List Tm}(hp:PB K E p):∀(q out:List Tm)(L:Nat),PB K E q->PB L (E+E) out->PB (q.length*(K+K)+L) (E+E) (q.foldl (fun out t=>aW out (ca p t)) out)/\(q.foldl (fun out t=>aW out (ca p t)) out).length<=q.length*p.length+out.length
 | [],out,L,_,ho=>⟨by simpa using ho,by simp⟩
 |t::q,out,L,hq,ho=>by obtain⟨h1,h2⟩:=Vt hp q (aW out (ca p t)) (L+(K+K)) (PB.cons.1 hq).2 (JB _ _ ho (Av hp (PB.cons.1 hq).1));have h3:=KR out (ca p t);have h4:=ye p t;refine⟨h1.mono (by rw[KaT,KaK];omega) (Kae _),Kap h2 ?_⟩;rw[KaT,KaK];omega
theorem agG{K E:Nat}{p q:List Tm}(hp:PB K E p)(hq:PB K E q):PB (q.length*(K+K)) (E+E) (rG p q)/\(rG p q).length<=q.length*p.length:=by have:=Vt hp q [] 0 hq (PB.nil _ _);simpa[rG]using this
theorem Vu{p q:List Tm}{K E:Nat}(hp:PB K E p)(hq:PB K E q)(hnp:NZ p)(hnq:NZ q)(hE:E<=2^37)(cW:p.length<=2^30)(oJ:q.length<=2^30)(rW:q.length*p.length<=2^36)(hK:q.length*(K+K)+(K+K)<=2^32):
  Qd Tryz.prog 69 [PV.aL p,PV.aL q] (· =PV.aL (rG p q)):=by
 refine aE Qg Tryz.func69 ank fun C hP=>?_;refine Sz0 ?_;refine yz 5 4 Tz0 ?_;refine Qi okB [(5,20)] [] (fun n J hp=>∃i,n=q.length-i/\i<=q.length/\J 5=PV.aL (rG p (q.take i))/\J 6= .int .i64 (i:Nat)) q.length ?_ ?_
 ·refine⟨0,rfl,by omega,?_⟩;refine Sz0 ?_;simp[rG]
 rintro _ J h ⟨i,rfl,hi,h5,h6⟩;refine Sz2 h5 h6 ?_;refine Qa (fun hg=>?_) (fun hg=>?_)
 ·have al:i<q.length:=by omega
  have qZ:=hq.get al;have aT:=adB (p:=p) al;have lQ:=hnq _ (Kah al);obtain⟨hb1,hb2⟩:=agG hp (hq.take i);have dU:=Av hp qZ;have aw:=ye p q[i];generalize hx:q[i]=x at *
  have e1:(q.take i).length=i:=by rw[KaF];omega
  rw[e1]at hb1 hb2;have e2:i*(K+K)<=q.length*(K+K):=Kaj _ hi;have e3:i*p.length<=q.length*p.length:=Kaj _ hi;refine Sz3 h5 h6 hx ?_;refine Qb hP (Q5b (t:=x) hp qZ hnp lQ Oz Oz Oz) ?_;refine Sz3 h5 h6 hx ?_;refine Qb hP (Vs (K:=q.length*(K+K)+(K+K)) (E:=E+E) (hb1.mono Oz Oz) (dU.mono Oz Oz) hK Oz Oz Oz) ?_;refine Sz3 h5 h6 hx ?_;refine Qf (q.length-(i+1)) Oz ⟨i+1,rfl,by omega,?_⟩;rw[aT];exact Tz0
 ·obtain rfl:i=q.length:=by omega
  rw[Kaz]at h5;refine Sz1 h5 ?_;exact Qc rfl rfl
theorem Q5c{p:List Tm}{a:Rat}{K E:Nat}(hp:PB K E p)(pU:NZ p)(ha:rs a+1<=K)(hK:K<=2^33)(hE:E<=2^38)(cW:p.length<=2^36):
  Qd Tryz.prog 111 [PV.aL p,PV.rat a] (· =PV.aL (l7 p a)):=by
 refine aE Qg Tryz.func111 aj9 fun C hP=>?_;refine Sz0 ?_;refine fW 5 900 4 95 Oz Tz0 ?_;refine Qi okB [(5,33)] [32,33,900] (fun n J hp=>∃i,n=p.length-i/\i<=p.length/\J 5= .ms 900 (ca (p.take i) (a,[])).length/\J 6= .int .i64 (i:Nat)/\hp 3=some ⟨3,51,[PV.rat a],false⟩/\hp 900=some ⟨4,95,(ca (p.take i) (a,[])).map PV.term,false⟩) p.length ?_ ?_
 ·refine⟨0,rfl,by omega,?_⟩;refine Sz0 ?_;simp[ca]
 rintro _ J h ⟨i,rfl,hi,h5,h6,cb,hh⟩;refine Sz2 h5 h6 ?_;refine fN (fun hg=>?_) (fun hg=>?_)
 ·have al:i<p.length:=by omega
  have cg:=hp.get al;have aT:=KZ (t:=(a,[])) al;have hlen:=ye (p.take i) (a,[]);rw[KaF]at hlen;have c1:=cg.c;have lQ:=pU _ (Kah al);generalize hx:p[i]=x at *
  refine Sz4 h5 h6 cb hx ?_;refine Qb hP (o7 (a:=a) Oz) ?_;refine Sz4 h5 h6 cb hx ?_;refine Qa (fun hz=>?_) (fun hz=>?_)
  ·rw[if_neg (fun h=>by rcases KcX.1 h with h|h;exact lQ h;exact hz (dy.2 h)),P' cg.l]at aT;refine Sz4 h5 h6 cb hx ?_;refine Qb hP (wF (a:=x.1) (b:=a) (k:=2^33) Oz Oz Oz) ?_;refine Sz4 h5 h6 cb hx ?_;rw[Qr (f:=PV.term) (y:=(x.1*a,x.2)) (xs:=ca (p.take i) (a,[])) (ty':=95) (fz:=false) (Tz1 hh) cE Oz rfl Oz Oz];rw[<-aT];refine Sz4 h5 h6 cb hx ?_;refine Qf (p.length-(i+1)) Oz ⟨i+1,rfl,by omega,?_⟩;rw[aT];simp+decide (disch:=first|omega|rfl|(simp+decide only[go_sem,h5,h6,cb,Kay]<;>rfl)|fail) only[go_sem,h5,h6,cb,Kay]
  ·have Is:=dy.1 (Decidable.not_not.1 hz);have e0:∀l:List Tm,ca l (a,[])=[]:=fun l=>by rw[Is];simp[ca]
   refine vw h5 hh cb ?_;refine Qc ?_ rfl;rw[e0,l7,if_pos Is];rfl
 ·obtain rfl:i=p.length:=by omega
  rw[Kaz]at h5 hh;refine vw h5 hh cb ?_;refine Qc ?_ rfl;rw[Kac (by simp),l7];split
  ·rename_i Is;rw[Is];simp[ca]
  ·rfl
theorem acm{p:List Tm}{K E:Nat}(hp:PB K E p)(pU:NZ p)(zc:2<=K)(hK:K<=2^33)(hE:E<=2^38)(cW:p.length<=2^36):Qd Tryz.prog 71 [PV.aL p] (· =PV.aL (Oe p)):=by have h1:=F3;refine aE Qg Tryz.func71 anl fun C hP=>?_;refine Sz0 ?_;refine Qb hP (qn (x:= -1) Oz Oz) ?_;refine Sz0 ?_;refine Qb hP (Q5c (a:=((-1:Int):Rat)) hp pU (by have:((-1:Int):Rat)= -1:=rfl;rw[this];omega) hK hE cW) ?_;refine Sz0 ?_;exact Qc rfl rfl
theorem Vv{p q:List Tm}{K E:Nat}(hp:PB K E p)(hq:PB K E q)(pU:NZ q)(zc:2<=K)(hK:K<=2^31)(hE:E<=2^38)(cW:p.length<=2^36)(oJ:q.length<=2^36):Qd Tryz.prog 68 [PV.aL p,PV.aL q] (· =PV.aL (Of p q)):=by have hl:=Uq q (-1);refine aE Qg Tryz.func68 ano fun C hP=>?_;refine Sz0 ?_;refine Qb hP (acm hq pU zc Oz hE oJ) ?_;refine Sz0 ?_;refine Qb hP (Vs (hp.mono (K':=K+2) Oz (Kae _)) (aip hq) Oz hE cW (by show(l7 q (-1)).length<=_;omega)) ?_;refine Sz0 ?_;exact Qc rfl rfl
theorem KN{l:List aP}{k:Nat}(hb:∀t∈l,RB k t)(dR:1<=k)(hk:k<2^36)(jm:l.length<2^40):Qd Tryz.prog 19 [PV.jI l] (· = .bool (dz l)):=by
 have lO:=L1 l;have bad:∀ {b:Bool},(b=true->False)->b=false:=fun {b} h=>by cases b<;>simp_all
 refine aE Qg Tryz.func19 ann fun C hP=>?_;refine Sz0 ?_;refine Qi okB [(2,51)] [] (fun n J hp=>∃i,n=l.length-i/\i<=l.length/\(∀j (h:j<l.length),j<i->gC l[j]=true)/\(∀j (h:j+1<l.length),j+1<i->0<bm l[j].m l[j+1].m)/\J 3= .int .i64 (i:Nat)) l.length ?_ ?_
 ·refine⟨0,rfl,by omega,by omega,by omega,?_⟩;refine Sz0 ?_;rfl
 rintro _ J h ⟨i,rfl,hi,h1,h2,h7⟩;refine Sz1 h7 ?_;refine Qa (fun hg=>?_) (fun hg=>?_)
 ·have al:i<l.length:=by omega
  have dU:=hb _ (Kah al);have hr:=(RB.raw dU dR).rs;have kZ:=dU.l;have zg:dz l=true->gC l[i]=true:=fun h=>(lO.1 h).1 i al;have M1:∀(j:Nat)(hj:j+1=i),dz l=true->0<bm (l[j]'Oz).m l[i].m:=fun j hj h=>by subst hj;exact(lO.1 h).2 j al
  have Et:gC l[i]=true->∀j (h:j<l.length),j<i+1->gC l[j]=true:=fun h j hj im=>by
   by_cases e:j=i
   ·subst e;exact h
   ·exact h1 j hj Oz
  have NG:∀(j:Nat)(hj:j+1=i),MB 1048576 (l[j]'Oz).m:=fun j hj=>by have:=h1 j Oz Oz;simp only[gC,KaC]at this;exact MB.tA this.2.2
  have Eu:(∀(j:Nat)(hj:j+1=i),0<bm (l[j]'Oz).m l[i].m)->∀j (h:j+1<l.length),j+1<i+1->0<bm l[j].m l[j+1].m:=fun h j hj im=>by
   by_cases e:j+1=i
   ·subst e;exact h j rfl
   ·exact h2 j hj Oz
  generalize hx:l[i]=x at *
  have cM:rs (rv x.n x.a x.d)<2^36:=by omega
  refine Sz2 h7 hx ?_;refine Qb hP (KC (RB.raw dU dR) hk) ?_;refine Sz1 h7 ?_;cases bR:lB x.n x.a x.d
  ·have hf:dz l=false:=bad fun h=>by have:=zg h;simp[gC,bR]at this
   refine Sz2 h7 @Bool.not_false ?_;exact Qc (by rw[hf]) rfl
  refine Sz3 h7 @Bool.not_true hx ?_;refine Qb hP (Gl (RB.raw dU dR) hk) ?_;refine Sz1 h7 ?_;refine fb (fun hz=>?_) (fun hz=>?_)
  ·have hf:dz l=false:=bad fun h=>by have:=zg h;simp[gC,aP.q,dy.1 hz]at this
   refine Sz1 h7 ?_;exact Qc (by rw[hf]) rfl
  refine Sz2 h7 hx ?_;refine Qb hP (KD Oz) ?_;refine Sz1 h7 ?_;cases lf:ck x.m
  ·have hf:dz l=false:=bad fun h=>by have:=zg h;simp[gC,lf]at this
   refine Sz2 h7 @Bool.not_false ?_;exact Qc (by rw[hf]) rfl
  have Fa:gC x=true:=by simp only[gC,bR,lf,KcA,Bool.and_true,decide_eq_true_eq];exact fun h=>hz (dy.2 h)
  refine Sz2 h7 @Bool.not_true ?_;refine fN (fun uq=>?_) (fun uq=>?_)
  ·obtain⟨j,rfl⟩:∃j,i=j+1:=⟨i-1,by omega⟩
   have e:((j+1:Nat):Int)-1=j:=by omega
   have tg:j<l.length:=by omega
   have zH:=NG j rfl;have M3:=M1 j rfl;have MX:0<bm (l[j]'Oz).m x.m->∀j2 (h:j2+1<l.length),j2+1<j+1+1->0<bm l[j2].m l[j2+1].m:=fun h=>Eu (fun j' et=>by
    obtain rfl:j'=j:=by omega
    exact h)
   generalize hy:l[j]'Oz=y at *
   refine Sz4 h7 e hx hy ?_;refine Qb hP (DG zH (MB.tA lf) Oz) ?_;refine Sz2 h7 e ?_;refine Qa (fun hc=>?_) (fun hc=>?_)
   ·have hf:dz l=false:=bad fun h=>by have:=M3 h;omega
    refine Sz1 h7 ?_;exact Qc (by rw[hf]) rfl
   ·refine Sz1 h7 ?_;refine Qf (l.length-(j+1+1)) Oz ⟨j+1+1,rfl,by omega,Et Fa,MX Oz,?_⟩;exact Tz0
  ·obtain rfl:i=0:=by omega
   refine Sz1 h7 ?_;refine Qf (l.length-1) Oz ⟨1,rfl,by omega,Et Fa,Eu (fun j hj=>by omega),?_⟩;exact Tz0
 ·obtain rfl:i=l.length:=by omega
  have hf:dz l=true:=lO.2 ⟨fun j hj=>h1 j hj hj,fun j hj=>h2 j hj hj⟩;refine Sz0 ?_;exact Qc (by rw[hf]) rfl
theorem Lj{a b:Rat}{k:Nat}(ha:rs a<=k)(hb:rs b<=k)(hk:k<2^34):Qd Tryz.prog 49 [PV.rat a,PV.rat b] (· = .bool (decide (a=b))):=by
 have:=Ux (fO ha) (fO hb) hk
 rwa[eA,eA]at this
theorem K2{p:List Tm}{n:Bool}{a d:List Nat}{m:List Int}{K E k:Nat}(hp:PB K E p)(hs:kL p)(pU:NZ p)(hr:Raw k n a d)(hk:k<=2^32)(hm:MB E m)(hl:m.getLast? ≠some 0)(hK:K<=2^32)(hE:E<=2^38)(cW:p.length<=2^36):
  Qd Tryz.prog 133 [PV.aL p,PV.rr n a d,PV.mono m] (· =PV.aL (lC p (rv n a d) m)):=by
 have BO:=hr.rs;refine aE Qg Tryz.func133 aka fun C hP=>?_;refine Sz0 ?_;refine Qi okB [(7,7),(12,26)] [] (fun k J hp=>k<=p.length/\(∀t∈p.drop k,bm t.2 m<0)/\J 7= .int .i64 (k:Nat)/\hp 4=some ⟨3,51,[PV.rr n a d],false⟩) p.length ?_ ?_
 ·refine⟨by omega,by simp,?_⟩;exact Tz0
 rintro j J h ⟨hj,hd,h7,eE⟩;refine Sz1 h7 ?_;refine fN (fun hg=>?_) (fun hg=>?_)
 ·obtain⟨i,rfl⟩:∃i,j=i+1:=⟨j-1,by omega⟩
  have e:((i+1:Nat):Int)-1=i:=by omega
  have hi:i<p.length:=by omega
  have cg:=hp.get hi;have xA:p.drop i=p[i]::p.drop (i+1):=KaA hi;have aT:p.take (i+1)=p.take i++[p[i]]:=Kak hi;have nZ:=Q7o hs hi;have cU:p=p.take i++p[i]::p.drop (i+1):=by rw[<-xA,KbB]
  have c1:=cg.c;generalize hx:p[i]=x at *
  refine Sz3 h7 e hx ?_;refine Qb hP (DG cg.m hm Oz) ?_;refine Sz3 h7 e hx ?_;refine Qa (fun hc=>?_) (fun hc=>?_)
  ·refine Sz3 h7 e hx ?_;refine Qf i Oz ⟨by omega,?_,?_⟩
   ·rw[xA];intro t ht;rcases KaG.1 ht with rfl|ht
    ·exact hc
    ·exact hd t ht
   ·exact Tz1 eE
  ·refine Sz3 h7 e hx ?_;refine fN (fun _=>?_) (fun h=>by omega);refine Sz3 h7 e hx ?_;refine Qb hP (DG cg.m hm Oz) ?_;refine Sz3 h7 e hx ?_;refine Qa (fun iD=>?_) (fun iD=>?_)
   ·have nh:x.2=m:=(wM cg.l hl).1 iD;have bG:=pU _ (Kah hi);rw[hx]at bG;have fS:lC p (rv n a d) m=p.take i++(if x.1+rv n a d=0 then []else [(x.1+rv n a d,m)])++p.drop (i+1):=by
     have Xt:p=p.take i++(x.1,m)::p.drop (i+1):=by rw[<-nh];exact cU
     rw[lC];split
     ·rename_i h0;have e0:x.1+0=x.1:=Rat.add_zero _;rw[h0,o9,e0,if_neg bG];simpa using Xt
     ·conv=>lhs;rw[Xt]
      exact Sw (fun t ht=>by rw[<-nh];exact nZ t ht)
    have qY:(p.take i).length<=p.length:=List.length_take_le' _ _;have gA:(p.drop (i+1)).length<=p.length:=by rw[Kbc];omega
    have NK:=lz x.1 (rv n a d);have I2:=fO (q:=x.1) (k:=2^32) Oz;have fg:=Vq (k:=2^32) I2 (show Raw (2^32) n a d from⟨hr.la,hr.ld,by have:=hr.sa;omega,by have:=hr.sd;omega,by omega⟩) Oz;rw[eA]at fg;refine Sz4 h7 e hx eE ?_;refine lk ?_ ?_
    all_goals
     refine Sz4 h7 e hx eE ?_;refine Qb hP fg ?_;refine Sz4 h7 e hx eE ?_;refine Qb hP (o7 (a:=x.1+rv n a d) Oz) ?_;refine Sz4 h7 e hx eE ?_;refine Qa (fun hz=>?_) (fun hz=>?_)
     ·rw[if_neg (fun h=>hz (dy.2 h))]at fS;refine Sz4 h7 e hx eE ?_;rw[Qr (f:=PV.term) (y:=(x.1+rv n a d,m)) (xs:=p.take i) (ty':=95) (fz:=false) Tz0 cE Oz rfl Oz Oz];refine Sz4 h7 e hx eE ?_;rw[mM (f:=PV.term) (xs:=p.take i++[(x.1+rv n a d,m)]) (ys:=p.drop (i+1)) Tz0 (by simp<;>omega) Oz Oz Oz];refine ij ?_;refine Qc ?_ rfl;rw[Kac (by simp<;>omega),fS]
     ·rw[if_pos (dy.1 (Decidable.not_not.1 hz)),Kam]at fS;refine Sz4 h7 e hx eE ?_;rw[mM (f:=PV.term) (xs:=p.take i) (ys:=p.drop (i+1)) Tz0 (by simp<;>omega) Oz Oz Oz];refine ij ?_;refine Qc ?_ rfl;rw[Kac (by simp<;>omega),fS]
   ·have No:aW p [(rv n a d,m)]=p.take (i+1)++(rv n a d,m)::p.drop (i+1):=by
     have:=JK (m:=m) (c:=rv n a d) (u:=p.take (i+1)) (v:=p.drop (i+1)) (fun t ht=>by
      rw[aT]at ht;rcases KaL.1 ht with ht|ht
      ·exact Ak (nZ t ht) Oz
      ·simp only[Kau]at ht;subst ht;omega) hd
     rwa[KbB]at this
    have qY:(p.take (i+1)).length<=p.length:=List.length_take_le' _ _;have gA:(p.drop (i+1)).length<=p.length:=by rw[Kbc];omega
    refine Sz2 h7 eE ?_;refine Qb hP (Gl hr Oz) ?_;refine Sz2 h7 eE ?_;refine Qa (fun hz=>?_) (fun hz=>?_)
    ·have v3:¬rv n a d=0:=fun h=>hz (dy.2 h);refine Sz2 h7 eE ?_;refine Qb hP (uL hr Oz) ?_;refine Sz2 h7 eE ?_;rw[Qr (f:=PV.term) (y:=(rv n a d,m)) (xs:=p.take (i+1)) (ty':=95) (fz:=false) Tz0 cE Oz rfl Oz Oz];refine Sz2 h7 eE ?_;rw[mM (f:=PV.term) (xs:=p.take (i+1)++[(rv n a d,m)]) (ys:=p.drop (i+1)) Tz0 (by simp<;>omega) Oz Oz Oz];refine ij ?_;refine Qc ?_ rfl;rw[Kac (by simp<;>omega),lC,if_neg v3,No];simp
    ·have v3:rv n a d=0:=dy.1 (Decidable.not_not.1 hz);refine Sz2 h7 eE ?_;rw[mM (f:=PV.term) (xs:=p.take (i+1)) (ys:=p.drop (i+1)) Tz0 (by simp<;>omega) Oz Oz Oz];refine ij ?_;refine Qc ?_ rfl;rw[Kac (by simp<;>omega),lC,if_pos v3,o9,KbB]
 ·obtain rfl:j=0:=by omega
  have No:aW p [(rv n a d,m)]=[]++(rv n a d,m)::p:=JK (m:=m) (c:=rv n a d) (u:=[]) (v:=p) (by simp) (by simpa using hd);refine Sz1 h7 ?_;rw[Q92 Oz];refine Sz2 h7 eE ?_;refine Qb hP (Gl hr Oz) ?_;refine Sz2 h7 eE ?_;refine Qa (fun hz=>?_) (fun hz=>?_)
  ·have v3:¬rv n a d=0:=fun h=>hz (dy.2 h);refine Sz2 h7 eE ?_;refine Qb hP (uL hr Oz) ?_;refine Sz2 h7 eE ?_;rw[Qr (f:=PV.term) (y:=(rv n a d,m)) (xs:=([]:List Tm)) (ty':=95) (fz:=false) Tz0 cE Oz (n:=0) rfl Oz Oz];refine Sz2 h7 eE ?_;rw[mM (f:=PV.term) (xs:=([]:List Tm)++[(rv n a d,m)]) (ys:=p) Tz0 (by simp<;>omega) Oz Oz Oz];refine ij ?_;refine Qc ?_ rfl;rw[Kac (by simp<;>omega),lC,if_neg v3,No];simp
  ·have v3:rv n a d=0:=dy.1 (Decidable.not_not.1 hz);refine Sz2 h7 eE ?_;rw[mM (f:=PV.term) (xs:=([]:List Tm)) (ys:=p) Tz0 (by simp<;>omega) Oz Oz Oz];refine ij ?_;refine Qc ?_ rfl;rw[Kac (by simp<;>omega),lC,if_pos v3,o9]
theorem Q5d{n:Bool}{a d:List Nat}{k:Nat}(hr:Raw k n a d)(hk:k<=2^32):Qd Tryz.prog 70 [PV.rr n a d] (· =PV.aL (tM (rv n a d))):=by
 have fg:=(K2 (p:=[]) (m:=[]) (K:=1) (E:=1) (PB.nil _ _) trivial (by simp[NZ]) hr hk ⟨by simp,by simp,by simp⟩ (by simp) Oz Oz (by simp)).le (args':=[.au,PV.rr n a d,.au]) ⟨trivial,Ql _,trivial,trivial⟩;have e:lC [] (rv n a d) []=tM (rv n a d):=by rw[lC,yt];rfl
 rw[e]at fg;refine aE Qg Tryz.func70 amK fun C hP=>?_;refine Sz0 ?_;refine Qb hP fg ?_;refine Sz0 ?_;exact Qc rfl rfl
theorem Q5e{a m:List Int}(bD:a.length<2^42)(rW:m.length<2^42):Qd Tryz.prog 165 [PV.mono a,PV.mono m] (· = .bool (AZ a m)):=by
 refine aE Qg Tryz.func165 akc fun C hP=>?_;refine Sz0 ?_;refine Qi okB [(4,19)] [] (fun n J hp=>∃i,n=a.length-i/\i<=a.length/\(∀j,j<i->eN a j=eN m j)/\J 5= .int .i64 (i:Nat)) a.length ?_ ?_
 ·refine⟨0,rfl,by omega,by omega,?_⟩;refine Sz0 ?_;rfl
 rintro _ J h ⟨i,rfl,hi,h1,h5⟩;refine Sz1 h5 ?_;refine Qa (fun hg=>?_) (fun hg=>?_)
 ·have al:i<a.length:=by omega
  have he:=fY al;generalize hx:a[i]=x at *
  refine Sz2 h5 hx ?_;refine Qb hP (oX rW) ?_;refine Sz2 h5 hx ?_;refine Qa (fun hc=>?_) (fun hc=>?_)
  ·refine Sz0 ?_;refine Qc (congrArg PV.bool ?_) rfl;cases hz:AZ a m with
   |false=>rfl
   |true=>rw[Gu]at hz;have:=hz i al;rw[he]at this;exact absurd this hc
  ·refine Sz1 h5 ?_;refine Qf (a.length-(i+1)) Oz ⟨i+1,rfl,by omega,fun j hj=>?_,?_⟩
   ·by_cases im:j=i
    ·subst im;rw[he];exact Decidable.not_not.1 hc
    ·exact h1 j Oz
   ·exact Tz0
 ·obtain rfl:i=a.length:=by omega
  refine Sz0 ?_;exact Qc (congrArg PV.bool (Gu.2 h1).symm) rfl
theorem Q76{l:List aP}{k:Nat}(hb:∀t∈l,RB k t)(dR:1<=k)(hk:k<=2^24)(jm:l.length<=100):Qd Tryz.prog 94 [PV.jI l] (· =PV.aL (sA l)):=by
 have dt:∀t∈l,rs t.q<=k:=fun t ht=>(RB.raw (hb t ht) dR).rs;have asX:∀i,PB (i*(k+1)) 1048576 (sA (l.take i))/\(sA (l.take i)).length<=i:=fun i=>by have e:(l.take i).length<=i:=List.length_take_le _ _;obtain⟨h1,h2⟩:=UT (l:=l.take i) (k:=k) (fun t ht=>dt t (Kbf ht));rw[Pu];exact⟨h1.mono (Kaj _ e) (Kae _),by omega⟩
 refine aE Qg Tryz.func94 anm fun C hP=>?_;refine Sz0 ?_;refine yz 3 4 Tz0 ?_;refine Qi okB [(3,32)] [] (fun n J hp=>∃i,n=l.length-i/\i<=l.length/\J 3=PV.aL (sA (l.take i))/\J 4= .int .i64 (i:Nat)) l.length ?_ ?_
 ·refine⟨0,rfl,by omega,?_⟩;refine Sz0 ?_;simp[sA,pj]
 rintro _ J h ⟨i,rfl,hi,h3,h4⟩;refine Sz2 h3 h4 ?_;refine Qa (fun hg=>?_) (fun hg=>?_)
 ·have al:i<l.length:=by omega
  have dU:=hb _ (Kah al);have aT:=Q94 al;obtain⟨hb1,hb2⟩:=asX i;have zF:=Wq (l.take i);have IF:i*(k+1)<=100*(2^24+1):=KaQ Oz Oz;generalize hx:l[i]=x at *
  have kZ:=dU.l;have hz:=Q7q x.m;have qY:=tD x.m;refine Sz3 h3 h4 hx ?_;refine Qb hP (Q74 Oz) ?_;refine Sz3 h3 h4 hx ?_;refine Qb hP (Q5e (m:=if ck (cQ x.m)=true then cQ x.m else []) Oz (by split<;>simp<;>omega)) ?_;rw[hz];refine Sz3 h3 h4 hx ?_;cases lf:ck (cQ x.m)
  ·rw[Ls lf]at aT;refine Sz3 h3 h4 hx ?_;refine Qf (l.length-(i+1)) Oz ⟨i+1,rfl,by omega,?_⟩;rw[aT];refine Sz1 h3 ?_;rfl
  ·rw[GH lf]at aT;refine Sz3 h3 h4 hx ?_;refine Qb hP (K2 hb1 zF.s zF.z (RB.raw dU dR) Oz (MB.tA lf) (yj lf) Oz Oz Oz) ?_;refine Sz3 h3 h4 hx ?_;refine Qf (l.length-(i+1)) Oz ⟨i+1,rfl,by omega,?_⟩;rw[aT];refine Sz1 h3 ?_;rfl
 ·obtain rfl:i=l.length:=by omega
  rw[Kaz]at h3;refine Sz1 h3 ?_;exact Qc rfl rfl
theorem adC{a:Rat}{k:Nat}(h:rs a<=k)(hk:k<=2^32):Qd Tryz.prog 70 [PV.rat a] (· =PV.aL (tM a)):=by
 have:=Q5d (fO h) hk
 rwa[eA]at this
theorem Q77{a:Rat}{n:Nat}(hB:1+rs a*n<=2^33)(hn:n<=2^40)(ha:rs a<=2^33):Qd Tryz.prog 106 [PV.rat a,.int .i64 n] (· =PV.rat (cI a n)):=by
 have h1:=mT;have lH:((1:Int):Rat)=1:=rfl;refine aE Qg Tryz.func106 ajm fun C hP=>?_;refine Sz0 ?_;refine Qb hP (CO (x:=1) Oz Oz) ?_;refine Sz0 ?_;refine Qi dV [(1,1),(7,21)] [] (fun m J hp=>∃x o:Rat,m<=n/\rs o+rs x*m<=2^33/\o*cI x m=cI a n/\J 1= .int .i64 (m:Nat)/\hp 2=some ⟨3,51,[PV.rat x],false⟩/\hp 4=some ⟨3,51,[.agg [.bool false,.au,.au]],false⟩/\hp 5=some ⟨3,51,[PV.rat o],false⟩) n ?_ ?_
 ·refine⟨a,((1:Int):Rat),by omega,by rw[lH];omega,by rw[lH];grind,?_⟩;refine Sz0 ?_;rfl
 rintro m J h ⟨x,o,hm,dt,hq,hJ,dI,eE,cf⟩;refine Sz1 @hJ ?_;refine Qa (fun hg=>?_) (fun hg=>?_)
 ·have hx:rs x<=rs x*m:=KaZ _ Oz;have e2:(2:Int)=((2:Nat):Int):=rfl;have pX:∀d fr hp K,cu .rem false (.int .i64 (m:Int)) (.int .i64 2) d fr hp K=K (af fr d (.int .i64 ((m%2:Nat):Int))) hp:=fun d fr hp K=>by rw[e2,rD Oz]
  have pW:∀d fr hp K,cu .quo false (.int .i64 (m:Int)) (.int .i64 2) d fr hp K=K (af fr d (.int .i64 ((m/2:Nat):Int))) hp:=fun d fr hp K=>by rw[e2,Dh Oz Oz]
  have xI:=fD x x;have hom:=fD o x;have nQ:rs (x*x)*(m/2)<=rs x*(2*(m/2)):=by rw[<-Nat.mul_assoc];exact Kaj _ Oz
  refine Sz5 @hJ dI cf pX pW ?_;refine Qa (fun h2=>?_) (fun h2=>?_)
  ·have at1:m%2=1:=by omega
   have NI:o*x*cI (x*x) (m/2)=cI a n:=by rw[<-hq,<-Ut at1];grind
   have NJ:m=1->o*x*cI x (1/2)=cI a n:=fun h=>by rw[<-hq,h];show o*x*1=o*cI x 1;rw[ag4];grind
   have nf:rs x*m=rs x*(2*(m/2))+rs x:=by rw[show m=2*(m/2)+1 by omega,Ka4,KbK];congr 2;omega
   refine Sz5 @hJ dI cf pX pW ?_;refine Qb hP (pz (a:=o) (b:=x) (k:=2^33) Oz Oz Oz) ?_;refine Sz5 @hJ dI cf pX pW ?_;refine Qa (fun h3=>?_) (fun h3=>?_)
   ·refine Sz5 @hJ dI cf pX pW ?_;refine Qb hP (pz (a:=x) (b:=x) (k:=2^33) Oz Oz Oz) ?_;refine Sz5 @hJ dI cf pX pW ?_;refine Qf (m/2) Oz ⟨x*x,o*x,by omega,by omega,NI,?_⟩;exact Tz3 dI eE cf
   ·obtain rfl:m=1:=by omega
    refine Sz5 @hJ dI cf pX pW ?_;refine Qf (1/2) Oz ⟨x,o*x,by omega,by omega,(NJ rfl),?_⟩;exact Tz3 dI eE cf
  ·have atk:m%2=0:=by omega
   have NI:o*cI (x*x) (m/2)=cI a n:=by rw[<-hq,<-Uo atk]
   have NJ:m=1->o*cI x (1/2)=cI a n:=fun h=>by omega
   have nf:rs x*m=rs x*(2*(m/2)):=by congr 1;omega
   refine Sz5 @hJ dI cf pX pW ?_;refine Qa (fun h3=>?_) (fun h3=>?_)
   ·refine Sz5 @hJ dI cf pX pW ?_;refine Qb hP (pz (a:=x) (b:=x) (k:=2^33) Oz Oz Oz) ?_;refine Sz5 @hJ dI cf pX pW ?_;refine Qf (m/2) Oz ⟨x*x,o,by omega,by omega,NI,?_⟩;exact Tz3 dI eE cf
   ·obtain rfl:m=1:=by omega
    refine Sz5 @hJ dI cf pX pW ?_;refine Qf (1/2) Oz ⟨x,o,by omega,by omega,(NJ rfl),?_⟩;exact Tz3 dI eE cf
 ·obtain rfl:m=0:=by omega
  have jo:o=cI a n:=by rw[<-hq,CN];grind
  refine Sz3 dI eE cf ?_;refine cr ?_;refine Sz0 ?_;exact Qc (by rw[jo]) rfl
theorem acn{p:List Tm}{vs:List Rat}{K E W:Nat}(hp:PB K E p)(hv:∀v∈vs,rs v<=W)(hW:1<=W)(hB:1+p.length*(K+64*(1+W*E))+(K+64*(1+W*E))<=2^33)(hE:E<=2^38)(cW:p.length<=2^36)(hlv:vs.length<=2^36):
  Qd Tryz.prog 37 [PV.aL p,PV.bj vs] (· =vE vs p):=by
 have h0:((0:Int):Rat)=0:=rfl;refine aE Qg Tryz.func37 amF fun C hP=>?_;refine Sz0 ?_;refine Qi dV [(5,5),(7,7),(16,27)] [7] (fun n J hp=>∃i,n=p.length-i/\i<=p.length/\(∀t∈p.take i,¬vs.length<t.2.length)/\J 16= .int .i64 (i:Nat)/\hp 4=some ⟨3,51,[.agg [.bool false,.au,.au]],false⟩) p.length ?_ ?_
 ·refine⟨0,rfl,by omega,by simp,?_⟩;refine Sz0 ?_;rfl
 rintro _ J h ⟨i,rfl,hi,h1,qO,eE⟩;refine Sz1 qO ?_;refine Qa (fun hg=>?_) (fun hg=>?_)
 ·have al:i<p.length:=by omega
  have cg:=hp.get al;have dB:=Kah al;have aT:p.take (i+1)=p.take i++[p[i]]:=Kak al;generalize hx:p[i]=x at *
  have kZ:=cg.m.len;have htr:=Mh cg.l;refine Sz2 qO hx ?_;refine Qb hP (Q97 (a:=x.2) Oz) ?_;rw[htr];refine Sz2 qO hx ?_;refine Qa (fun hc=>?_) (fun hc=>?_)
  ·have ho:qJ vs p=true:=by unfold qJ;rw[Ka6];exact⟨x,dB,decide_eq_true Oz⟩
   refine Sz1 eE ?_;refine mO ?_;refine Sz0 ?_;exact fp (p':=PV.rr false [] []) (q':=.int .i64 2) (by rw[vE,if_pos ho]) rfl rfl ⟨rfl,trivial,trivial,trivial⟩ (Ql _)
  ·refine Sz1 qO ?_;refine Qf (p.length-(i+1)) Oz ⟨i+1,rfl,by omega,?_,?_⟩
   ·rw[aT];intro z hz;rcases KaL.1 hz with hz|hz
    ·exact h1 z hz
    ·simp only[Kau]at hz;subst hz;omega
   ·exact Tz1 eE
 ·obtain rfl:i=p.length:=by omega
  rw[Kaz]at h1;have ho:qJ vs p=false:=by unfold qJ;rw[KbU];intro t ht;simpa using h1 t ht
  refine Sz1 eE ?_;refine Qb hP (CO (x:=0) Oz Oz) ?_;refine Sz1 eE ?_;refine Qi dV [(10,13),(31,59)] [10,11] (fun n J hp=>∃i,n=p.length-i/\i<=p.length/\J 31= .int .i64 (i:Nat)/\hp 4=some ⟨3,51,[.agg [.bool false,.au,.au]],false⟩/\hp 8=some ⟨3,51,[PV.rat (iy vs (p.take i))],false⟩) p.length ?_ ?_
  ·refine⟨0,rfl,by omega,?_⟩;refine Sz1 eE ?_;exact⟨rfl,rfl⟩
  rintro _ J1 lH ⟨i,rfl,te,pI,EK,zt⟩;refine Sz1 pI ?_;refine Qa (fun nS=>?_) (fun nS=>?_)
  ·have al:i<p.length:=by omega
   have cg:=hp.get al;have ee:=h1 _ (Kah al);have aT:=Lf (vs:=vs) al;have hrp:=C8 hp hv hW i Oz;generalize hx:p[i]=x at *
   have kZ:=cg.m.len;have hxc:=cg.c;have atU:i*(K+64*(1+W*E))<=p.length*(K+64*(1+W*E)):=Kaj _ te;have EV:=fun j=>HD (vs:=vs) cg.m hv hW x.1 j;have EJ:∀j,j<=x.2.length->j*(1+W*E)<=64*(1+W*E):=fun j hj=>Kaj _ Oz;refine Sz2 pI hx ?_;refine Qi dV [(12,13),(40,55)] [] (fun n J hp=>∃j,n=x.2.length-j/\j<=x.2.length/\J 40= .int .i64 (j:Nat)/\hp 4=some ⟨3,51,[.agg [.bool false,.au,.au]],false⟩/\hp 8=some ⟨3,51,[PV.rat (iy vs (p.take i))],false⟩/\hp 11=some ⟨3,51,[PV.rat (x.1*eT vs x.2 j)],false⟩) x.2.length ?_ ?_
   ·refine⟨0,rfl,by omega,?_⟩;have e0:x.1*eT vs x.2 0=x.1:=by show x.1*1=x.1;grind
    rw[e0];refine Sz2 EK zt ?_;rfl
   rintro _ J2 h2 ⟨j,rfl,hj,um,BF,xG,pR⟩;refine Sz1 um ?_;refine Qa (fun eK=>?_) (fun eK=>?_)
   ·have et:j<x.2.length:=by omega
    have uv:=fY et;have Ns:=cg.m.eN j;have xJ:eT vs x.2 (j+1)=eT vs x.2 j*cI (vs.getD j 0) (eN x.2 j).toNat:=rfl;generalize hy:x.2[j]=y at *
    obtain⟨m,rfl⟩:∃m:Nat,y=m:=⟨y.toNat,by omega⟩
    rw[uv,Kcq]at xJ;rw[uv]at Ns;refine Sz2 um hy ?_;refine Qa (fun hz=>?_) (fun hz=>?_)
    ·have zs:j<vs.length:=by omega
     have NW:vs.getD j 0=vs[j]:=by simp[Kad,zs]
     have NX:=hv _ (Kah zs);rw[NW]at xJ;generalize pY:vs[j]=v at *
     have hwe:rs v*m<=W*E:=KaQ NX Oz;have zP:rs v<=rs v*m:=KaZ _ Oz;have hqp:=Dp v m;have jH:=EV j;have nf:=EJ j hj;refine Sz4 um hy pR pY ?_;refine Qb hP (Q77 (a:=v) (n:=m) Oz Oz Oz) ?_;refine Sz4 um hy pR pY ?_;refine Qb hP (pz (a:=x.1*eT vs x.2 j) (b:=cI v m) (k:=2^33) Oz Oz Oz) ?_;refine Sz4 um hy pR pY ?_;refine Qf (x.2.length-(j+1)) Oz ⟨j+1,rfl,by omega,?_⟩;have e1:x.1*eT vs x.2 (j+1)=x.1*eT vs x.2 j*cI v m:=by rw[xJ];grind
     rw[e1];exact Tz2 BF xG
    ·obtain rfl:m=0:=by omega
     refine Sz2 um hy ?_;refine Qf (x.2.length-(j+1)) Oz ⟨j+1,rfl,by omega,?_⟩;have e1:x.1*eT vs x.2 (j+1)=x.1*eT vs x.2 j:=by rw[xJ,CN];grind
     rw[e1];exact Tz3 BF xG pR
   ·obtain rfl:j=x.2.length:=by omega
    have jH:=EV x.2.length;have nf:=EJ x.2.length (Kae _);have NK:=lz (iy vs (p.take i)) (x.1*kG vs x.2);rw[show eT vs x.2 x.2.length=kG vs x.2 from rfl]at pR jH;refine Sz4 pI um xG pR ?_;refine Qb hP (wV (a:=iy vs (p.take i)) (b:=x.1*kG vs x.2) (k:=2^33) Oz Oz Oz) ?_;refine Sz4 pI um xG pR ?_;simp (disch:=decide) only[fV,dS];refine Qf (p.length-(i+1)) Oz ⟨i+1,rfl,by omega,?_⟩;rw[aT];exact Tz1 BF
  ·obtain rfl:i=p.length:=by omega
   rw[Kaz]at zt;refine Sz2 EK zt ?_;refine mO ?_;refine Sz0 ?_;exact fp (by rw[vE,if_neg (by simp[ho])]) rfl rfl (Ql _) (Ql _)
end Go.Proofs.YtkoclfmjlolkhaaGreat
namespace Go.FW
open Go
theorem VZ(x y:Int)(hy:y≠0):mkRat (zv (decide (x<0) !=decide (y<0)) (ao x.natAbs)) y.natAbs=(x:Rat)/(y:Rat):=by
 rw[Kb6,u7,<-Rat.intCast_natCast];have h3:(y:Rat)≠0:=by rw[Ne,Ka5];exact hy
 by_cases du:y<0
 ·have e2:(((y.natAbs:Nat):Int):Rat)= -(y:Rat):=by rw[<-Rat.intCast_neg];congr 1;omega
  have e1:(if(decide (x<0) !=decide (y<0))=true then -(x.natAbs:Int)else x.natAbs)= -x:=by by_cases hx:x<0<;>simp[hx,du]<;>omega
  rw[e1,e2,Rat.intCast_neg];grind
 ·have e2:(((y.natAbs:Nat):Int):Rat)=(y:Rat):=by congr 1;omega
  have e1:(if(decide (x<0) !=decide (y<0))=true then -(x.natAbs:Int)else x.natAbs)=x:=by by_cases hx:x<0<;>simp[hx,du]<;>omega
  rw[e1,e2]
theorem anX{n m:Bool}{a d b c:List Nat}(hd:val d≠0)(hc:val c≠0)(hb:zv m b≠0):((zv n a*(val c:Int):Int):Rat)/((zv m b*(val d:Int):Int):Rat)=rv n a d/rv m b c:=by
 have h1:((val d:Int):Rat)≠0:=by rw[Ne,Ka5];omega
 have h2:((val c:Int):Rat)≠0:=by rw[Ne,Ka5];omega
 have h3:((zv m b:Int):Rat)≠0:=by rw[Ne,Ka5];exact hb
 unfold rv;rw[Kb6,Kb6,KaU,KaU];rw[<-Rat.intCast_natCast,<-Rat.intCast_natCast];grind
theorem yE(x y:Int)(hy:y≠0):rs ((x:Rat)/(y:Rat))<=max (nl x.natAbs) (max (nl y.natAbs) 1):=by
 rw[<-VZ x y hy];have:=Hc (zv (decide (x<0) !=decide (y<0)) (ao x.natAbs)) y.natAbs
 rwa[kJ,Qy]at this
theorem DH(q:Rat)(h:q≠0):rs q⁻¹ <=rs q:=by
 have hn:q.num≠0:=fun e=>h (Rat.num_eq_zero.1 e);have e:q⁻¹ =(((q.den:Int):Int):Rat)/((q.num:Int):Rat):=by
  have d1:q=(q.num:Rat)/((q.den:Int):Rat):=by
   conv=>lhs;rw[<-Rat.mkRat_self q]
   rw[Kb6,KbR]
  have k1:((q.den:Int):Rat)≠0:=by rw[Ne,Ka5];have:=q.den_nz;omega
  have k3:((q.num:Int):Rat)≠0:=by rw[Ne,Ka5];exact hn
  generalize(q.num:Rat)=A at *
  generalize((q.den:Int):Rat)=D at *
  rw[d1];grind
 have h2:=yE (q.den:Int) q.num hn;have h3:=J8 q;rw[e];unfold rs at h3⊢;unfold rs at h2;rw[Kbj]at h2;have h4:1<=nl q.den:=by have:=q.den_nz;apply Decidable.byContradiction;intro hc;exact this (Cv.1 (by omega))
 omega
def IC(p:List Tm):Tm:=p.headD (0,[])
theorem akP{p:List Tm}(h:p≠[]):IC p∈p:=by cases p with
 |nil=>exact absurd rfl h
 |cons t p=>simp[IC]
def mU(c:Rat):Rat:=if c<0 then -c else c
theorem Vw(c:Rat):0<=mU c:=by unfold mU;grind
theorem agH(a b:Rat):mU (a*b)=mU a*mU b:=by
 have pos:∀x:Rat,0<=x->mU x=x:=fun x h=>by unfold mU;grind
 have neg:∀x:Rat,x<=0->mU x= -x:=fun x h=>by unfold mU;grind
 rcases Decidable.em (0<=a)with ha|ha<;>rcases Decidable.em (0<=b)with hb|hb
 ·rw[pos _ (KbG ha hb),pos _ ha,pos _ hb]
 ·have h:=KbG ha (show 0<= -b by grind);rw[neg (a*b) (by grind),pos _ ha,neg b (by grind)];grind
 ·have h:=KbG (show 0<= -a by grind) hb;rw[neg (a*b) (by grind),neg a (by grind),pos _ hb];grind
 ·have h:=KbG (show 0<= -a by grind) (show 0<= -b by grind);rw[pos (a*b) (by grind),neg a (by grind),neg b (by grind)];grind
theorem QY(z:Int):mU (z:Rat)=((z.natAbs:Nat):Rat):=by
 rw[<-Rat.intCast_natCast];unfold mU;split
 ·rename_i h;have h':z<0:=by have:=(Rat.intCast_lt_intCast (a:=z) (b:=0)).1 (by simpa using h);exact this
  rw[<-Rat.intCast_neg];congr 1;omega
 ·rename_i h;have h':¬z<0:=fun hz=>h (by have:=(Rat.intCast_lt_intCast (a:=z) (b:=0)).2 hz;simpa using this);congr 1;omega
def lU(m:List Int):Nat:=(eN m 3).toNat*729+(eN m 2).toNat*81+(eN m 1).toNat*9+(eN m 0).toNat
theorem asi{a b:List Int}(ha:a.length<=4)(hb:b.length<=4):bm a b=eS a b 4:=(AH (by omega)).symm
theorem akQ{a b:List Int}(ha:a.length<=4)(hb:b.length<=4)(h:bm a b<0):
  eN a 3<eN b 3∨(eN a 3=eN b 3/\(eN a 2<eN b 2∨(eN a 2=eN b 2/\(eN a 1<eN b 1∨(eN a 1=eN b 1/\eN a 0<eN b 0))))):=by
 rw[asi ha hb]at h;simp only[eS]at h;have z3:=AW (x:=eN a 3) (y:=eN b 3);have z2:=AW (x:=eN a 2) (y:=eN b 2);have z1:=AW (x:=eN a 1) (y:=eN b 1);have z0:=AW (x:=eN a 0) (y:=eN b 0);by_cases e3:eN a 3=eN b 3
 ·rw[if_pos e3]at h;refine .inr ⟨e3,?_⟩;by_cases e2:eN a 2=eN b 2
  ·rw[if_pos e2]at h;refine .inr ⟨e2,?_⟩;by_cases e1:eN a 1=eN b 1
   ·rw[if_pos e1]at h;refine .inr ⟨e1,?_⟩;by_cases e0:eN a 0=eN b 0
    ·rw[if_pos e0]at h;omega
    ·rw[if_neg e0]at h;exact z0.1 h
   ·rw[if_neg e1]at h;exact .inl (z1.1 h)
  ·rw[if_neg e2]at h;exact .inl (z2.1 h)
 ·rw[if_neg e3]at h;exact .inl (z3.1 h)
def nW(W:Rat):List Tm->Rat
 | []=>0
 |t::p=>mU t.1*W^lU t.2+nW W p
theorem V'{W:Rat}(h:0<=W):∀n:Nat,0<=W^n
 |0=>by rw[Rat.pow_zero];decide
 |n+1=>by rw[Rat.pow_succ];exact KbG (V' h n) h
theorem Ou{W:Rat}(h:1<=W):∀n:Nat,1<=W^n
 |0=>by rw[Rat.pow_zero];decide
 |n+1=>by rw[Rat.pow_succ];have h1:=Ou h n;have:=Rat.mul_le_mul_of_nonneg_right h1 (show(0:Rat)<=W by grind);grind
theorem Vx{W:Rat}(h:0<=W)(c:Rat)(m:List Int):0<=mU c*W^lU m:=KbG (Vw c) (V' h _)
theorem PA{W:Rat}(h:0<=W):∀p,0<=nW W p
 | []=>by simp only[nW];decide
 |t::p=>by have h1:=Vx h t.1 t.2;have h2:=PA h p;simp only[nW];grind
def Pos(p:List Tm):Prop:=∀t∈p,∀i,0<=eN t.2 i
def uK(c:Rat):Prop:=∃z:Int,c=(z:Rat)
theorem uK.add{a b:Rat}:uK a->uK b->uK (a+b):=fun⟨x,hx⟩ ⟨y,hy⟩=>⟨x+y,by rw[hx,hy,Kdb]⟩
theorem uK.neg{a:Rat}:uK a->uK (-a):=fun⟨x,hx⟩=>⟨-x,by rw[hx,Rat.intCast_neg]⟩
def IW(D F:Rat)(N:Nat)(p:List Tm):Prop:=∀t∈p,lU t.2<=N/\uK (t.1*(D*F^(N-lU t.2)))
theorem IW.cons{D F:Rat}{N:Nat}{t:Tm}{p:List Tm}:IW D F N (t::p)↔(lU t.2<=N/\uK (t.1*(D*F^(N-lU t.2))))/\IW D F N p:=by simp[IW]
def c4(m:List Int):Nat:=(((eN m 3).toNat*81+(eN m 2).toNat)*729+(eN m 1).toNat)*6561+(eN m 0).toNat
theorem abW{a b:List Int}(ha:∀i,0<=eN a i)(hb:∀i,0<=eN b i)(la:a.length<=4)(lb:b.length<=4)(pa:lU a<=6560)(pb:lU b<=6560)(h:bm a b<0):c4 a<c4 b:=by have a0:=ha 0;have a1:=ha 1;have a2:=ha 2;have a3:=ha 3;have b0:=hb 0;have b1:=hb 1;have b2:=hb 2;have b3:=hb 3;have:=akQ la lb h;simp only[lU]at pa pb;simp only[c4,Zo,Zg,Zm,Zc,Zf,Zl,Zh,Zs,Zi,Zb,Zk,Zn,Zu,Zq,Zr,Zz];omega
theorem abX{a:List Int}(pa:lU a<=6560):c4 a<2^32:=by simp only[lU]at pa;simp only[c4,Zo,Zg,Zm,Zc,Zf,Zl,Zh,Zs,Zi,Zb,Zk,Zn,Zu,Zq,Zr,Zz];omega
structure FG(D F W N0:Rat)(p:List Tm):Prop where
 i:IW D F 6560 p
 n:nW W p<=N0
 pos:Pos p
 ml:ML 4 p
 uG:bB p
theorem adD{p:List Tm}:(∀t∈p,lU t.2<=6560)->Pos p->ML 4 p->kL p->p≠[]->p.length<=c4 (IC p).2+1:=by
 induction p with
 |nil=>intro _ _ _ _ h;exact absurd rfl h
 | cons t p ih=>
  intro hp hP hM hs _;cases p with
  |nil=>simp
  |cons s p=>have h1:=ih (fun x hx=>hp x (by simp[hx])) (fun x hx=>hP x (by simp[hx])) (fun x hx=>hM x (by simp[hx])) hs.2 (by simp);have h2:=hs.1 s (by simp);have h3:=AI t.2 s.2;have h4:=abW (hP s (by simp)) (hP t (by simp)) (hM s (by simp)) (hM t (by simp)) (hp s (by simp)) (hp t (by simp)) (by omega);simp only[IC,List.headD_cons,KaT]at h1⊢;omega
theorem FG.len{D F W N0:Rat}{p:List Tm}(h:FG D F W N0 p):p.length<=2^32:=by
 by_cases h0:p=[]
 ·subst h0;simp
 ·have h1:=adD (fun t ht=>(h.i t ht).1) h.pos h.ml h.uG.s h0;have:=abX (h.i _ (akP h0)).1;omega
theorem Tu{W:Rat}(h:1<=W):∀ {p:List Tm} {t:Tm},t∈p->mU t.1<=nW W p
 | s::p,t,ht=>by
  have h0:(0:Rat)<=W:=by grind
  have h1:=PA h0 p;have h2:=Vx h0 s.1 s.2;simp only[nW];rcases KaG.1 ht with rfl|ht
  ·have h3:=Kb7 (Ou h (lU t.2)) (Vw t.1);grind
  ·have:=Tu h ht;grind
theorem FG.PB{d f w n0 L:Nat}{p:List Tm}(h:FG d f w n0 p)(hd:0<d)(hf:0<f)(hw:0<w)(lQ:0<n0)(hL:nl (n0*(d*f^6560))<L):PB L 6560 p:=by
 intro t ht;obtain⟨h1,z,hz⟩:=h.i t ht;have NY:(1:Rat)<=(w:Rat):=by rw[<-Rat.intCast_natCast,show(1:Rat)=((1:Int):Rat)from rfl,Kb2];omega
 have hN:mU t.1<=(n0:Rat):=by have:=Tu NY ht;have:=h.n;grind
 have hX:(d:Rat)*(f:Rat)^(6560-lU t.2)=((d*f^(6560-lU t.2):Nat):Rat):=by rw[Rat.natCast_mul,Rat.natCast_pow]
 have atF:∀N k:Nat,k<=N->d*f^k<=d*f^N:=fun N k h=>KaE _ (KaR hf h);have Xo:=atF 6560 (6560-lU t.2) (Nat.sub_le _ _);have Es:0<d*f^(6560-lU t.2):=Nat.mul_pos hd (Kbw hf);rw[hX]at hz;generalize d*f^(6560-lU t.2)=X at *
 generalize d*f^6560=Y at *
 have hXr:((X:Int):Rat)≠0:=by rw[Ne,Ka5];omega
 have e:t.1=(z:Rat)/((X:Int):Rat):=by rw[<-hz,KbR];rw[KbR]at hXr;grind
 have hzl:z.natAbs<=n0*Y:=by
  have h2:mU (z:Rat)=mU t.1*(X:Rat):=by rw[<-hz,agH];congr 1;rw[<-Rat.intCast_natCast,QY,Kbj,KbR]
  rw[QY]at h2;have h3:(0:Rat)<=(X:Rat):=by rw[<-Rat.intCast_natCast,show(0:Rat)=((0:Int):Rat)from rfl,Kb2];omega
  have h4:=Rat.mul_le_mul_of_nonneg_right hN h3;rw[<-h2,<-Rat.natCast_mul,<-Rat.intCast_natCast,<-Rat.intCast_natCast,Kb2]at h4;have h5:=KaE n0 Xo;omega
 have hr:=yE z (X:Int) (by omega);rw[<-e,Kbj]at hr;have g1:=iL hzl;have g2:nl X<=nl (n0*Y):=by exact iL (Kap Xo (Nat.le_mul_of_pos_left _ lQ))
 have g3:1<=nl X:=by apply Decidable.byContradiction;intro hc;have:=Cv.1 (show nl X=0 by omega);omega
 refine⟨by omega,⟨by have:=h.ml t ht;omega,fun x hx=>?_,fun x hx=>?_⟩,h.uG.c t ht⟩
 all_goals
  obtain⟨i,hi,rfl⟩:=KaV hx;have hp:=h.pos t ht i;rw[fY hi]at hp
 ·exact hp
 ·have hl:=h.ml t ht;simp only[lU]at h1;rw[<-fY hi];rw[<-fY hi]at hp;have:i=0∨i=1∨i=2∨i=3:=by omega
  rcases this with rfl|rfl|rfl|rfl<;>omega
def nF(p:List Tm):Nat:=(p.map fun t=>t.1.den).foldr (· * ·) 1
theorem agI(p:List Tm):0<nF p:=by
 induction p with
 |nil=>simp[nF]
 |cons t p ih=>exact Nat.mul_pos (Kbg t.1.den_nz) ih
theorem QZ:∀ {p:List Tm} {t:Tm},t∈p->t.1.den∣nF p
 |s::p,t,ht=>by
  rcases KaG.1 ht with rfl|ht
  ·exact Nat.dvd_mul_right _ _
  ·exact Nat.dvd_trans (QZ ht) (Nat.dvd_mul_left _ _)
def dK:Nat->Nat
 |0=>5
 |k+1=>10*dK k+62
def dE:Nat->Nat
 |0=>4
 |k+1=>3*dE k
def dL:Nat->Nat
 |0=>5
 |k+1=>10*dL k
theorem d5{k:Nat}(h:k<=5):dK k<=1188882/\dE k<=972/\dL k<=500000/\(k<5->dK k<=118882):=by
 have:k=0∨k=1∨k=2∨k=3∨k=4∨k=5:=by omega
 rcases this with rfl|rfl|rfl|rfl|rfl|rfl<;>decide
theorem bB.drop{p:List Tm}(h:bB p):∀k,bB (p.drop k)
 |0=>h
 |k+1=>by
  have:=bB.drop h k;rw[<-List.drop_drop];cases hd:p.drop k with
  |nil=>simpa using bB.nil
  |cons t l=>rw[hd]at this;simpa using this.tail
structure mW where
 n:Bool
 a:List Nat
 d:List Nat
 p:List aP
instance : Inhabited mW := ⟨⟨false, [], [], []⟩⟩
abbrev PV.wc(s:mW):PV:=.agg [.bool s.n,PV.nat s.a,PV.nat s.d,PV.jI s.p]
abbrev Sq:=Rat×List Tm
abbrev PV.sq(x:Sq):PV:=.agg [.bool (decide (x.1.num<0)),PV.num x.1.num.natAbs,PV.num x.1.den,PV.aL x.2]
def mW.sq(s:mW):Sq:=(rv s.n s.a s.d,s.p.map aP.tm)
def r9(s:mW):Int:=if lB s.n s.a s.d=true then(if dz s.p=true then(if 0<rv s.n s.a s.d then 0 else 2)else 1)else 1
def sC:List mW->Int
 | []=>0
 |s::l=>if r9 s=0 then sC l else r9 s
theorem aco{l:List mW}{i:Nat}(h:i<l.length):sC (l.drop i)=if r9 l[i]=0 then sC (l.drop (i+1))else r9 l[i]:=by rw[KaA h];rfl
def oT(x:Sq):List Tm:=l7 (hO x.2 x.2) x.1
def jS(l:List Sq):List Tm:=l.foldl (fun o x=>aW o (oT x)) []
def sF:List Sq->List Tm->Option (List Tm)
 | [],o=>some o
 |x::l,o=>if tN (aW o (oT x))=true then none else sF l (aW o (oT x))
theorem G1{l:List Sq}{i:Nat}(h:i<l.length):jS (l.take (i+1))=aW (jS (l.take i)) (oT l[i]):=by unfold jS;rw[Kak h,Kde];rfl
theorem Ov{l:List Sq}{i:Nat}(o:List Tm)(h:i<l.length):sF (l.drop i) o=if tN (aW o (oT l[i]))=true then none else sF (l.drop (i+1)) (aW o (oT l[i])):=by rw[KaA h];rfl
abbrev PV.wa(r:List Tm×Int):PV:=.aH [PV.aL r.1,.int .i64 r.2]
def Ce:Option (List Tm)->List Tm×Int
 |some r=>(r,0)
 |none=>([],4)
def yQ(l:List mW):List Tm×Int:=if sC l=0 then Ce (sF (l.map mW.sq) [])else([],sC l)
structure uc(K E n:Nat)(x:Sq):Prop where
 w:rs x.1+1<=K
 b:PB K E x.2
 l:x.2.length<=n
 n:bB x.2
theorem Kd{K E n:Nat}{x:Sq}(h:uc K E n x):PB (n*(K+K)+K) (E+E) (oT x)/\(oT x).length<=n*n/\bB (oT x):=by have h1:=Wg h.b h.b;have h2:=L3 h.n.s h.n.s;have h3:=O' (a:=x.1) (L:=K) h1.1 h.w;have h4:=Uq (hO x.2 x.2) x.1;have h5:=KaQ h.l h.l;have h6:min x.2.length x.2.length*(K+K)<=n*(K+K):=Kaj _ (by have:=h.l;omega);exact⟨h3.mono (by omega) (by omega),by unfold oT;omega,ads h2.s _⟩
theorem yB{K E n:Nat}{l:List Sq}(h:∀x∈l,uc K E n x):∀i,i<=l.length->PB ((n*(K+K)+K)*i) (E+E) (jS (l.take i))/\(jS (l.take i)).length<=n*n*i/\bB (jS (l.take i))
 |0,_=>⟨by simp[jS,PB.nil],by simp[jS],by simp[jS,bB.nil]⟩
 |i+1,hi=>by obtain⟨h1,h2,h3⟩:=yB h i (by omega);obtain⟨g1,g2,g3⟩:=Kd (h _ (Kah (show i<l.length by omega)));rw[G1 (by omega)];have:=KR (jS (l.take i)) (oT l[i]);rw[Nat.mul_succ,Nat.mul_succ];exact⟨JB _ _ h1 g1,by omega,Hk h3 g3⟩
def B8(a d:List Nat):Bool:=decide (a.length<=2)&&decide (d.length<=2)
def tw(t:aP):Bool:=decide (t.m.length<=70)&&B8 t.a t.d
def sD(p:List aP):Bool:=decide (p.length<=20)&&p.all tw
end Go.FW
