/- Part 6 of the proof of SquaresProofs: L1, CM, CP, CS2, CS3, CU, CA, CQ, R3, R4, M1, M2, P1, P2, P3, P4, P8, CS, S1, S2, S3, S4, S5, S6, S7, S8, S9, T1, T1b, T1c, T1d, U1, U2, U3, CL, U4, U7, U8, U10, P9, FwUD, FwUE, FwUF, FwUI, FwUJ, FwUH, FwUK, FwXA. Own lemmas; no conditions. -/
import Derived.Test.YtkoclfmjlolkhaaGreatSquaresProofsPart5
set_option maxHeartbeats 1000000
set_option linter.unusedSimpArgs false
set_option linter.unusedVariables false
set_option linter.unnecessarySimpa false
set_option maxRecDepth 100000
namespace Go.Proofs.YtkoclfmjlolkhaaGreat
open Go Go.FW Go.ChangeShapes Go.WideShapes Go.ChangeAt Go.RowKit
variable {H : Type} {enc : TypeId × Value -> H}
variable {w : World} {base : Nat} {spare : Nat -> Bool} {held : Bool} {r : Reach} {b0 : Nat} {v : Value} {d : DataW H} {ps : List MemPlace}
end Go.Proofs.YtkoclfmjlolkhaaGreat
namespace Go.Proofs.YtkoclfmjlolkhaaGreat
open Go Go.FW
def am3:ay:=⟨47,[.t 6],Zr (YE 6)<|Zr (kZ 11<|
 Zo (.mx 15 (.t 12) (.t 14))<|
 Zo (.mk 16 1 8 3 (Zz 0) (.t 15) (.t 15))<|
 Zm 7 16 .nil)<| .seq (Zr (YP 17 7)<| .block 0<| .loop<|Zr (Ys 20 19 18)<| .seq (.cond (.t 20) .skip (.exit 0))<| .seq (.block 1<|Zr (YW 21 19 8)<|Zr (Zc 9 0<|
 Yl 10 0)<| .seq (Zr (YH 22 8 0)<| .cond (.t 25) (.rg (Yn 26 0 8<|
 Yc 9 29)) .skip)<| .seq (Zr (YH 30 8 1)<| .cond (.t 33) (.rg (Yn 34 1 8<|
 Yc 10 37)) .skip)<| .rg (Ye 38 7 8<|
 YX 40 2 9 10<|
 Zo (.call (some 43) false (.t 40) [.t 41,.t 42])<|
 Zi 44 1 38 39<|
 gK 1 44 43))<| .rg (Yw 45 19 19))<|Zr (YW 46 7 6) .ret⟩
theorem afJ:Qe Tryz.prog Tryz.f167=some am3:=by kernel_rfl
def am2:ay:=⟨24,[.t 2],Zr (YE 2)<|Zr (Yo 4 0<|
 Zm 3 5 .nil)<| .seq (.block 0<| .loop<| .seq (Zr (YB 6 3 1<|
 Zg 8 true (.ld 13 1 false (.t 12))<|
 Zg 8 true (.bin 14 .eql false (.t 13) (.c (Zz 0)))<|
 Yp 15 8 14 .nil)<| .cond (.t 15) .skip (.exit 0))<| .block 1<| .rg (qX 16 3))<| .seq (Zr (Zm 18 3<|
 jG 19 18 0)<| .cond (.t 19) (Zr (YE 2) .ret) .skip)<|Zr (YX 20 0 3 3<|
 Zo (.sl 23 1 (.t 20) none (some (.t 21)) (some (.t 22)))<|
 Yc 2 23) .ret⟩
theorem afK:Qe Tryz.prog Tryz.f166=some am2:=by kernel_rfl
def amF:ay:=⟨35,[.t 2],Zr (Yh 2)<| .seq (Zr (Yo 5 0<|
 Zk 7 .gtr 6 64<|
 qW 8 7 0<|
 sD 8 0<|
 Zg 8 false (.mv 12 (.t 11))<|
 Zg 12 true (.mv 13 (.t 0))<|
 Zg 12 true (.mv 14 (.t 0))<|
 Zg 12 true (.len 15 (.t 14))<|
 Zg 12 true (.bin 16 .sub false (.t 15) (.c (Zz 1)))<|
 Zg 12 true (.idx 17 1 (.t 13) (.t 16))<|
 Zg 12 true (.ld 18 1 false (.t 17))<|
 Zg 12 true (.bin 19 .eql false (.t 18) (.c (Zz 0)))<|
 Zg 8 false (.pick 20 (.t 12) (.t 19) (.c (.bool false)))<|
 ew 21 8 20)<| .cond (.t 21) (Zr (Yh 2) .ret) .skip)<| .seq (Zr (YP 22 0)<| .block 0<| .loop<|Zr (Ys 25 24 23)<| .seq (.cond (.t 25) .skip (.exit 0))<| .seq (.block 1<|Zr (YM 26 22 24<|
 Yc 4 27)<|Zr (nX 28 4<|
 xx 30 29 4 1048576<|
 ew 33 30 32)<| .cond (.t 33) (Zr (Yh 2) .ret) .skip)<| .rg (YD 34 24 24))<|Zr (YZ 2) .ret⟩
theorem afL:Qe Tryz.prog Tryz.f135=some amF:=by kernel_rfl
def amW:ay:=⟨10,[.t 2],Zr (YE 2)<|Zr (Yz 3 0 166<|
 Zm 0 4 .nil)<| .seq (Zr (Yz 5 0 135<|
 Zu 7 6 .nil)<| .cond (.t 7) (Zr (YE 2) .ret) .skip)<|Zr (Zm 8 0<|
 Zo (.app 9 1 8 3 (.c .al) (.t 8))<|
 Zm 2 9 .nil) .ret⟩
theorem afM:Qe Tryz.prog Tryz.f156=some amW:=by kernel_rfl
def amn:ay:=⟨17,[.t 2],Zr (Yl 2 0)<|Zr (Yl 3 0)<| .seq (Zr (YP 6 0)<| .block 0<| .loop<|Zr (Ys 9 8 7)<| .seq (.cond (.t 9) .skip (.exit 0))<| .seq (.block 1<|Zr (YM 10 6 8<|
 Zm 5 11 .nil)<| .rg (Ye 12 3 5<|
 cX 14 12 13<|
 Zm 3 14 .nil))<| .rg (YD 15 8 8))<|Zr (YW 16 3 2) .ret⟩
theorem afN:Qe Tryz.prog Tryz.f114=some amn:=by kernel_rfl
def anX:ay:=⟨17,[.t 4],Zr (Yl 4 0)<| .seq (Zr (nX 5 1<|
 qY 7 6 1 0<|
 Zg 7 false (.len 10 (.t 9))<|
 Zg 7 false (.bin 11 .geq false (.t 8) (.t 10))<|
 ew 12 7 11)<| .cond (.t 12) (Zr (Yl 4 0) .ret) .skip)<|Zr (Yn 13 0 1<|
 Zm 4 16 .nil) .ret⟩
theorem afO:Qe Tryz.prog Tryz.f223=some anX:=by kernel_rfl
def ame:ay:=⟨7,[.t 2],Zr (Yl 2 0)<|Zr (Yz 3 0 166<|
 Zn 5 4<|
 Zk 6 .sub 5 1<|
 Zm 2 6 .nil) .ret⟩
theorem afP:Qe Tryz.prog Tryz.f104=some ame:=by kernel_rfl
def c96:ay:=⟨9,[.t 4],Zr (YE 4)<|Zr (Ye 5 0 1<|
 Zq 7 false 167 [.t 5,.t 6,.c (.fn 168 [] [])]<|
 Yk 8 166 7<|
 Zm 4 8 .nil) .ret⟩
theorem ajv:Qe Tryz.prog Tryz.f96=some c96:=by kernel_rfl
def am4:ay:=⟨8,[.t 4],Zr (Yl 4 0)<|Zr (Ye 5 0 1<|
 Zb 7 .add 5 6<|
 Zm 4 7 .nil) .ret⟩
theorem agr:Qe Tryz.prog Tryz.f168=some am4:=by kernel_rfl
def anv:ay:=⟨46,[.t 6],Zr (Yl 6 0)<| .seq (Zr (Zm 12 2<|
 jG 13 12 1)<| .cond (.t 13) (Zr (lT 14 114<|
 Zm 7 15<|
 Zm 8 17 .nil)<|Zr (Ye 18 7 8<|
 Zb 20 .neq 18 19 .nil)<| .cond (.t 20) (.seq (Zr (Ye 21 7 8<|
 Ys 23 21 22)<| .cond (.t 23) (Zr (jX 6) .ret) .skip)<|Zr (Yl 6 1) .ret) .skip) .skip)<| .seq (Zr (kZ 24<|
 Zo (.mx 28 (.t 25) (.t 27))<|
 Zk 29 .sub 28 1<|
 Yc 9 29)<| .block 0<| .loop<| .seq (Zr (Zm 30 9<|
 Zk 31 .geq 30 0 .nil)<| .cond (.t 31) .skip (.exit 0))<| .seq (.block 1<|Zr (YL 34 0 9 223<|
 YL 37 1 9 223<|
 mX 10 36 39)<|Zr (Ye 40 10 11<|
 Zb 42 .neq 40 41 .nil)<| .cond (.t 42) (.seq (Zr (Ye 43 10 11<|
 Ys 45 43 44)<| .cond (.t 45) (Zr (jX 6) .ret) .skip)<|Zr (Yl 6 1) .ret) .skip)<| .rg (qX 32 9))<|Zr (Yl 6 0) .ret⟩
theorem ags:Qe Tryz.prog Tryz.f193=some anv:=by kernel_rfl
def anI:ay:=⟨97,[.t 8],Zr (YE 8)<|Zr (kZ 15<|
 cX 19 16 18<|
 Zo (.mk 20 4 80 95 (.agg [.bool false,.al,.al,.al]) (.c (Zz 0)) (.t 19))<|
 Zm 9 20 .nil)<|Zr (Zc 10 0<|
 Yl 11 0)<| .seq (.block 0<| .loop<| .seq (Zr (Ye 21 10 0<|
 Zn 23 22<|
 Zb 24 .lss 21 23<|
 YS 25 24 11<|
 Zg 25 true (.mv 27 (.t 1))<|
 Zg 25 true (.len 28 (.t 27))<|
 Zg 25 true (.bin 29 .lss false (.t 26) (.t 28))<|
 Yp 30 25 29 .nil)<| .cond (.t 30) .skip (.exit 0))<| .block 1<|Zr (YX 31 2 0 10<|
 YI 34 4 32 33<|
 ky 36 1 11 4<|
 Zo (.call (some 40) false (.t 31) [.t 35,.t 39])<|
 Yc 12 40)<| .block 2<|Zr (Zm 64 12<|
 Zk 65 .gtr 64 0<|
 Zm 63 65 .nil)<| .cond (.t 63) (Zr (YX 66 9 0 10<|
 YI 69 4 67 68<|
 Zo (.bs 71 4 95 [.t 70])<|
 Zo (.app 72 4 80 95 (.t 66) (.t 71))<|
 Yc 9 72)<| .rg (gh 73 10 10)) (Zr (nX 76 12<|
 Zm 75 77 .nil)<| .cond (.t 75) (Zr (YX 78 9 1 11<|
 YI 81 4 79 80<|
 Zo (.bs 83 4 95 [.t 82])<|
 Zo (.app 84 4 80 95 (.t 78) (.t 83))<|
 Yc 9 84)<| .rg (gh 85 11 11)) (.seq (Zr (YX 42 3 0 10<|
 YI 45 4 43 44<|
 ky 47 1 11 4<|
 .br (Zo (.call (some 51) true (.t 42) [.t 46,.t 50])<|
 Zm 41 51<|
 Yd 52 41<|
 Zo (.alloc 13 4 95 (.agg [.bool false,.al,.al,.al]))<|
 Zs 4 13 52<|
 Yc 14 53) (Zo (.alloc 13 4 95 (.agg [.bool false,.al,.al,.al]))<|
 Zo (.call (some 51) true (.t 42) [.t 46,.t 50])<|
 Zm 41 51<|
 Yd 52 41<|
 Zs 4 13 52<|
 Yc 14 53))<|Zr (Yc 54 14)<| .cond (.t 54) (.rg (Zm 55 9<|
 Zh 56 4 13<|
 Yv 57 4 95 56 80 55 9)) .skip)<|Zr (gh 59 10 10)<| .rg (gh 61 11 11))))<|Zr (YX 87 9 0 10<|
 Zo (.sl 90 4 (.t 88) (some (.t 89)) none none)<|
 Zo (.app 91 4 80 95 (.t 87) (.t 90))<|
 Yc 9 91)<|Zr (YX 92 9 1 11<|
 Zo (.sl 95 4 (.t 93) (some (.t 94)) none none)<|
 mZ 96 4 80 95 92 95<|
 Yc 8 96) .ret⟩
theorem agt:Qe Tryz.prog Tryz.f206=some anI:=by kernel_rfl
def amG:ay:=⟨10,[.t 4],Zr (gZ 2 95<|
 jE 3 95 1<|
 Yl 4 0)<|Zr (eS 5 3 2 3 3<|
 Zq 9 false 193 [.t 6,.t 8,.c (Zz 0)]<|
 Zm 4 9 .nil) .ret⟩
theorem O7:Qe Tryz.prog Tryz.f136=some amG:=by kernel_rfl
def anJ:ay:=⟨19,[.cell 4 4 true,.t 5],Zr (gZ 2 95<|
 jE 3 95 1<|
 Zo (.alloc 4 4 95 (.agg [.bool false,.al,.al,.al]))<|
 Yh 5)<|Zr (YT 7 2 3<|
 YT 9 3 3<|
 Ym 11 107 8 10<|
 Yb 6<|
 Zs 3 6 11 .nil)<|Zr (Zh 12 3 6<|
 Yf 13 3 2<|
 YG 15 12 14<|
 Zh 16 3 6<|
 YY 17 38 16<|
 Zk 18 .neq 17 0<|
 Zs 4 4 15<|
 Yc 5 18) .ret⟩
theorem agu:Qe Tryz.prog Tryz.f207=some anJ:=by kernel_rfl
def amX:ay:=⟨25,[.t 2],Zr (YE 2)<| .seq (Zr (Yo 4 0 .nil)<| .block 0<|Zr (oX 7 5 0 6)<| .cond (.t 6) (Zr (YE 2) .ret) (Zr (oX 9 5 1 8)<| .cond (.t 8) (Zr (Zm 10 0<|
 Zo (.idx 11 1 (.t 10) (.c (Zz 0)))<|
 Zl 12 1 11<|
 Zm 2 12 .nil) .ret) .skip))<|Zr (Yo 13 0<|
 Zk 15 .quo 14 2<|
 Zm 3 15 .nil)<|Zr (Ye 16 0 3<|
 tV 18 1 16 17<|
 Ye 20 0 3<|
 Zo (.sl 22 1 (.t 20) (some (.t 21)) none none)<|
 Yk 19 157 18<|
 Yk 23 157 22<|
 Ym 24 170 19 23<|
 Yc 2 24) .ret⟩
theorem O8:Qe Tryz.prog Tryz.f157=some amX:=by kernel_rfl
def amV:ay:=⟨12,[.t 4],Zr (jE 2 51 0<|
 YE 4)<| .seq (Zr (dG 5 3 2 38<|
 jG 7 6 0)<| .cond (.t 7) (Zr (YE 4) .ret) .skip)<|Zr (Zh 8 3 2<|
 Zm 9 1<|
 YG 10 8 9<|
 Zo (.bs 11 4 95 [.t 10])<|
 Zm 4 11 .nil) .ret⟩
theorem agv:Qe Tryz.prog Tryz.f155=some amV:=by kernel_rfl
def c72:ay:=⟨43,[.t 2],Zr (Yh 2)<| .seq (Zr (YP 5 0)<| .block 0<| .loop<|Zr (Ys 8 7 6)<| .seq (.cond (.t 8) .skip (.exit 0))<| .seq (.block 1<|Zr (Zm 9 7<|
 YI 10 4 5 7<|
 Zo (.alloc 4 4 95 (.agg [.bool false,.al,.al,.al]))<|
 Zm 3 9<|
 Zs 4 4 11 .nil)<|Zr (YT 12 4 3<|
 YY 14 122 13<|
 Zu 15 14<|
 Zm 16 15<|
 Zg 16 false (.fP 17 0 (.t 4))<|
 Zg 16 false (.ld 18 3 true (.t 17))<|
 Zg 16 false (.call (some 19) true (.c (.fn 38 [] [])) [.t 18])<|
 Zg 16 false (.bin 20 .eql false (.t 19) (.c (Zz 0)))<|
 Yj 21 16 20<|
 YA 22 21 3 4<|
 Zg 22 false (.call (some 25) true (.c (.fn 135 [] [])) [.t 24])<|
 Zg 22 false (.un 26 .not (.t 25))<|
 Yj 27 22 26<|
 xx 28 27 3 0<|
 Zg 28 false (.mv 31 (.t 30))<|
 Zg 31 true (.mv 32 (.t 0))<|
 Zg 31 true (.mv 33 (.t 3))<|
 Zg 31 true (.bin 34 .sub false (.t 33) (.c (Zz 1)))<|
 Zg 31 true (.idx 35 4 (.t 32) (.t 34))<|
 Zg 31 true (.ld 36 4 true (.t 35))<|
 Zg 31 true (.ld 37 4 true (.t 4))<|
 Zg 31 true (.call (some 38) true (.c (.fn 136 [] [])) [.t 36,.t 37])<|
 Zg 31 true (.bin 39 .leq false (.t 38) (.c (Zz 0)))<|
 Zg 28 false (.pick 40 (.t 31) (.t 39) (.c (.bool false)))<|
 ew 41 28 40)<| .cond (.t 41) (Zr (Yh 2) .ret) .skip)<| .rg (Yw 42 7 7))<|Zr (YZ 2) .ret⟩
theorem ai1:Qe Tryz.prog Tryz.f72=some c72:=by kernel_rfl
def c91:ay:=⟨54,[.t 2],Zr (YE 2)<|Zr (YE 3)<| .seq (Zr (YP 8 0)<| .block 0<| .loop<|Zr (Ys 11 10 9)<| .seq (.cond (.t 11) .skip (.exit 0))<| .seq (.block 1<|Zr (Yy 12 8 10 5 95)<|Zr (Yf 14 3 5<|
 Zn 16 15<|
 Zm 6 16 .nil)<| .seq (.block 2<| .loop<| .seq (Zr (Zm 17 6<|
 Zk 18 .gtr 17 0<|
 Zm 19 18<|
 YO 19 3 5<|
 Zg 19 true (.mv 22 (.t 6))<|
 Zg 19 true (.bin 23 .sub false (.t 22) (.c (Zz 1)))<|
 Zg 19 true (.idx 24 1 (.t 21) (.t 23))<|
 Zg 19 true (.ld 25 1 false (.t 24))<|
 Zg 19 true (.bin 26 .eql false (.t 25) (.c (Zz 0)))<|
 Yp 27 19 26 .nil)<| .cond (.t 27) .skip (.exit 2))<| .block 3<| .rg (qX 28 6))<| .seq (Zr (Yf 30 3 5<|
 Zm 32 6<|
 tV 33 1 31 32<|
 Yk 34 135 33<|
 Zu 35 34 .nil)<| .cond (.t 35) (.exit 1) .skip)<|Zr (YT 36 5 3<|
 Yf 40 3 5<|
 Zq 38 true 61 [.c (Zz 0)]<|
 Yr 39 107 37 38<|
 YY 42 156 41<|
 Yr 43 155 39 42<|
 Yc 7 43)<|Zr (Yo 44 7<|
 Zk 46 .gtr 45 0 .nil)<| .cond (.t 46) (.rg (Ye 47 3 7<|
 Yv 49 1 37 48 24 47 3)) .skip)<| .rg (Yw 51 10 10))<|Zr (Yz 52 3 157<|
 Yc 2 53) .ret⟩
theorem ai2:Qe Tryz.prog Tryz.f91=some c91:=by kernel_rfl
def c97:ay:=⟨9,[.t 4],Zr (Yh 4)<|Zr (YL 5 0 1 169<|
 oX 8 7 0 4) .ret⟩
theorem ai3:Qe Tryz.prog Tryz.f97=some c97:=by kernel_rfl
def am5:ay:=⟨10,[.t 4],Zr (Yl 4 0)<|Zr (Zo (.mv 5 (.c (.fn 203 [] []))) .nil)<|Zr (YX 6 0 1 5<|
 Zq 9 false 205 [.t 6,.t 7,.t 8]<|
 Zm 4 9 .nil) .ret⟩
theorem agw:Qe Tryz.prog Tryz.f169=some am5:=by kernel_rfl
def anF:ay:=⟨17,[.t 4],Zr (gZ 2 95<|
 jE 3 95 1<|
 Yl 4 0)<| .seq (Zr (nV 6 4 2 3 136<|
 Zm 5 8 .nil)<|Zr (Zm 9 5<|
 hO 10 9)<| .cond (.t 10) (Zr (jH 11 5 4) .ret) .skip)<|Zr (YT 12 2 3<|
 YT 14 3 3<|
 Ym 16 204 13 15<|
 Zm 4 16 .nil) .ret⟩
theorem agx:Qe Tryz.prog Tryz.f203=some anF:=by kernel_rfl
def am6:ay:=⟨8,[.t 4],Zr (YE 4)<|Zr (Ye 5 0 1<|
 Zq 7 false 206 [.t 5,.t 6,.c (.fn 136 [] []),.c (.fn 207 [] [])]<|
 Zm 4 7 .nil) .ret⟩
theorem agy:Qe Tryz.prog Tryz.f170=some am6:=by kernel_rfl
def am8:ay:=⟨38,[.t 4],Zr (jE 3 95 1<|
 YE 4)<|Zr (Yo 9 0<|
 Zo (.mk 11 4 80 95 (.agg [.bool false,.al,.al,.al]) (.c (Zz 0)) (.t 10))<|
 Zm 5 11 .nil)<| .seq (Zr (YP 12 0)<| .block 0<| .loop<|Zr (Ys 15 14 13)<| .seq (.cond (.t 15) .skip (.exit 0))<| .seq (.block 1<|Zr (Yy 16 12 14 7 95)<|Zr (YT 18 7 3<|
 YT 20 3 3<|
 Ym 22 105 19 21<|
 lR 8 22)<|Zr (dG 23 3 8 38<|
 hO 25 24)<| .cond (.t 25) (.rg (Zm 26 5<|
 Zh 27 3 8<|
 eS 28 3 7 3 3<|
 Yr 32 96 29 31<|
 YG 33 27 32<|
 Yv 34 4 95 33 80 26 5)) .skip)<| .rg (Yw 36 14 14))<|Zr (YW 37 5 4) .ret⟩
theorem agz:Qe Tryz.prog Tryz.f172=some am8:=by kernel_rfl
def amd:ay:=⟨33,[.t 4],Zr (YE 4)<| .seq (Zr (kZ 8<|
 Zb 12 .gtr 9 11 .nil)<| .cond (.t 12) (.rg (Ye 13 1 0<|
 mX 0 13 14)) .skip)<|Zr (Yo 15 0<|
 Zo (.mk 17 1 24 37 .al (.c (Zz 0)) (.t 16))<|
 Zm 5 17 .nil)<| .seq (Zr (YP 18 0)<| .block 0<| .loop<|Zr (Ys 21 20 19)<| .seq (.cond (.t 21) .skip (.exit 0))<| .seq (.block 1<|Zr (Yy 22 18 20 7 95)<| .rg (Ye 24 5 1<|
 Zh 26 4 7<|
 Ym 27 172 25 26<|
 Zo (.bs 28 1 37 [.t 27])<|
 Zo (.app 29 1 24 37 (.t 24) (.t 28))<|
 Yc 5 29))<| .rg (YD 30 20 20))<|Zr (Yz 31 5 157<|
 Yc 4 32) .ret⟩
theorem agA:Qe Tryz.prog Tryz.f103=some amd:=by kernel_rfl
def amc:ay:=⟨12,[.t 4],Zr (Zo (.box 3 3 51 (.t 1))<|
 YE 4)<| .seq (Zr (dG 5 3 3 38<|
 jG 7 6 0)<| .cond (.t 7) (Zr (YE 4) .ret) .skip)<|Zr (Zm 8 0<|
 Zh 9 3 3<|
 Zo (.eA 10 [.bool false,.al,.al,.al] [(0,3,.t 9)])<|
 Ym 11 172 8 10<|
 Zm 4 11 .nil) .ret⟩
theorem agB:Qe Tryz.prog Tryz.f102=some amc:=by kernel_rfl
def c43:ay:=⟨19,[.t 2],Zr (Yl 2 0)<|Zr (jX 3)<| .seq (Zr (YP 6 0)<| .block 0<| .loop<|Zr (Ys 9 8 7)<| .seq (.cond (.t 9) .skip (.exit 0))<| .seq (.block 1<|Zr (Yy 10 6 8 5 95)<| .rg (Zm 12 3<|
 Yf 13 3 5<|
 Yk 15 114 14<|
 Zo (.mx 16 (.t 12) (.t 15))<|
 Yc 3 16))<| .rg (YD 17 8 8))<|Zr (YW 18 3 2) .ret⟩
theorem ai4:Qe Tryz.prog Tryz.f43=some c43:=by kernel_rfl
def c44:ay:=⟨47,[.t 2],Zr (YE 2)<|Zr (Zo (.alloc 3 64 128 (.agg [.bool false,.bool false,.bool false,.bool false,.bool false,.bool false,.bool false,.bool false,.bool false,.bool false,.bool false,.bool false,.bool false,.bool false,.bool false,.bool false,.bool false,.bool false,.bool false,.bool false,.bool false,.bool false,.bool false,.bool false,.bool false,.bool false,.bool false,.bool false,.bool false,.bool false,.bool false,.bool false,.bool false,.bool false,.bool false,.bool false,.bool false,.bool false,.bool false,.bool false,.bool false,.bool false,.bool false,.bool false,.bool false,.bool false,.bool false,.bool false,.bool false,.bool false,.bool false,.bool false,.bool false,.bool false,.bool false,.bool false,.bool false,.bool false,.bool false,.bool false,.bool false,.bool false,.bool false,.bool false])) .nil)<| .seq (Zr (YP 11 0)<| .block 0<| .loop<|Zr (Ys 14 13 12)<| .seq (.cond (.t 14) .skip (.exit 0))<| .seq (.block 1<|Zr (Yy 15 11 13 5 95)<|Zr (Yf 17 3 5<|
 Zn 19 18<|
 Yl 20 0)<| .block 2<| .loop<|Zr (Ys 21 20 19)<| .seq (.cond (.t 21) .skip (.exit 2))<| .seq (.block 3<|Zr (ra 22 20 18 6)<|Zr (Zm 25 7<|
 Zk 26 .neq 25 0<|
 YS 27 26 6<|
 Zg 27 true (.bin 29 .lss false (.t 28) (.c (Zz 64)))<|
 Yp 30 27 29 .nil)<| .cond (.t 30) (.rg (Zm 31 6<|
 Zo (.Ai 32 64 1 (.t 3) (.t 31))<|
 Zo (.st 1 (.t 32) (.c (.bool true))) .nil)) .skip)<| .rg (Yw 33 20 20))<| .rg (Yw 34 13 13))<|Zr (YE 8)<| .seq (Zr (Zh 35 64 3<|
 Yl 36 0)<| .block 4<| .loop<|Zr (Zk 37 .lss 36 64 .nil)<| .seq (.cond (.t 37) .skip (.exit 4))<| .seq (.block 5<|Zr (Zm 38 36<|
 Zo (.Aj 39 64 1 false (.t 35) (.t 36))<|
 mX 9 38 39)<|Zr (Yc 40 10)<| .cond (.t 40) (.rg (Ye 41 8 9<|
 Yv 43 1 3 42 8 41 8)) .skip)<| .rg (YD 45 36 36))<|Zr (YW 46 8 2) .ret⟩
theorem ai5:Qe Tryz.prog Tryz.f44=some c44:=by kernel_rfl
def amg:ay:=⟨23,[.cell 4 3 true],Zr (jE 2 51 0<|
 Yb 4 .nil)<|Zr (jW 6 61 1<|
 Yb 5<|
 Zs 3 5 6 .nil)<| .seq (.block 0<| .loop<| .seq (Zr (Zm 7 1<|
 Zk 8 .gtr 7 0 .nil)<| .cond (.t 8) .skip (.exit 0))<| .seq (.block 1<| .seq (Zr (Zm 11 1<|
 Zk 12 .rem 11 2<|
 jG 13 12 1)<| .cond (.t 13) (.rg (nV 14 3 5 2 105<|
 Zs 3 5 16 .nil)) .skip)<|Zr (Zm 17 1<|
 Zk 18 .gtr 17 1 .nil)<| .cond (.t 18) (.rg (nV 19 3 2 2 105<|
 gK 3 2 21)) .skip)<| .rg (Zm 9 1<|
 Zk 10 .quo 9 2<|
 Zm 1 10 .nil))<|Zr (Zh 22 3 5<|
 jk 3 22) .ret⟩
theorem agC:Qe Tryz.prog Tryz.f106=some amg:=by kernel_rfl
def c37:ay:=⟨61,[.cell 4 3 true,.t 5],Zr (Yb 4<|
 Yl 5 0)<| .seq (Zr (YP 14 0)<| .block 0<| .loop<|Zr (Ys 17 16 15)<| .seq (.cond (.t 17) .skip (.exit 0))<| .seq (.block 1<|Zr (Yy 18 14 16 7 95)<|Zr (Yf 20 3 7<|
 Yk 22 104 21<|
 Yo 23 1<|
 Zb 25 .geq 22 24 .nil)<| .cond (.t 25) (Zr (Zo (.eA 26 [.bool false,.al,.al] [])<|
 Zs 3 4 26<|
 Yl 5 2) .ret) .skip)<| .rg (YD 27 16 16))<|Zr (jW 28 61 0<|
 lR 8 28)<| .seq (Zr (YP 29 0)<| .block 2<| .loop<|Zr (Ys 32 31 30)<| .seq (.cond (.t 32) .skip (.exit 2))<| .seq (.block 3<|Zr (Yy 33 29 31 10 95)<|Zr (YT 35 10 3<|
 lR 11 36)<| .seq (Zr (Yf 37 3 10<|
 Zn 39 38<|
 Yl 40 0)<| .block 4<| .loop<|Zr (Ys 41 40 39)<| .seq (.cond (.t 41) .skip (.exit 4))<| .seq (.block 5<|Zr (ra 42 40 38 12)<|Zr (Zm 45 13<|
 Zk 46 .gtr 45 0 .nil)<| .cond (.t 46) (.rg (Zh 47 3 11<|
 ky 48 1 12 3<|
 Zm 52 13<|
 Yr 53 106 51 52<|
 ji 54 105 47 53 3 11)) .skip)<| .rg (Yw 55 40 40))<| .rg (nV 56 3 8 11 107<|
 Zs 3 8 58 .nil))<| .rg (Yw 59 31 31))<|Zr (Zh 60 3 8<|
 Zs 3 4 60<|
 Yl 5 0) .ret⟩
theorem ai6:Qe Tryz.prog Tryz.f37=some c37:=by kernel_rfl
def anH:ay:=⟨39,[.t 6],Zr (Yl 6 0)<| .seq (Zr (YP 11 0)<| .block 0<| .loop<|Zr (Ys 14 13 12)<| .seq (.cond (.t 14) .skip (.exit 0))<| .seq (.block 1<|Zr (Zm 15 13<|
 YI 16 4 11 13<|
 Zo (.alloc 8 4 95 (.agg [.bool false,.al,.al,.al]))<|
 Zm 7 15<|
 Zs 4 8 17 .nil)<| .seq (Zr (Ye 18 7 1<|
 Zn 20 19<|
 Zb 21 .geq 18 20 .nil)<| .cond (.t 21) (Zr (Yl 6 1) .ret) .skip)<|Zr (Ye 22 1 7<|
 Yy 24 22 23 9 95)<|Zr (Zm 26 2<|
 Zh 27 4 8<|
 Zh 28 4 9<|
 Zo (.call (some 29) false (.t 26) [.t 27,.t 28])<|
 Yc 10 29)<|Zr (Zm 30 10<|
 hO 31 30)<| .cond (.t 31) (Zr (YW 32 10 6) .ret) .skip)<| .rg (Yw 33 13 13))<| .seq (Zr (kZ 34<|
 Ys 38 35 37)<| .cond (.t 38) (Zr (jX 6) .ret) .skip)<|Zr (Yl 6 0) .ret⟩
theorem agD:Qe Tryz.prog Tryz.f205=some anH:=by kernel_rfl
def anK:ay:=⟨9,[.t 4],Zr (Yh 4)<|Zr (YL 5 0 1 225<|
 Zk 8 .geq 7 0<|
 Zm 4 8 .nil) .ret⟩
theorem agE:Qe Tryz.prog Tryz.f208=some anK:=by kernel_rfl
def anN:ay:=⟨9,[.t 4],Zr (Yh 4)<|Zr (YL 5 0 1 226<|
 Zk 8 .geq 7 0<|
 Zm 4 8 .nil) .ret⟩
theorem agF:Qe Tryz.prog Tryz.f210=some anN:=by kernel_rfl
def anZ:ay:=⟨19,[.t 4],Zr (Yl 4 0)<| .seq (Zr (YP 6 0)<| .block 0<| .loop<|Zr (Ys 9 8 7)<| .seq (.cond (.t 9) .skip (.exit 0))<| .seq (.block 1<|Zr (jH 10 8 5)<|Zr (YX 11 1 0 5<|
 YI 14 4 12 13<|
 Zo (.call (some 16) false (.t 11) [.t 15]) .nil)<| .cond (.t 16) (Zr (YW 17 5 4) .ret) .skip)<| .rg (YD 18 8 8))<|Zr (jX 4) .ret⟩
theorem agG:Qe Tryz.prog Tryz.f225=some anZ:=by kernel_rfl
def an0:ay:=⟨19,[.t 4],Zr (Yl 4 0)<| .seq (Zr (YP 6 0)<| .block 0<| .loop<|Zr (Ys 9 8 7)<| .seq (.cond (.t 9) .skip (.exit 0))<| .seq (.block 1<|Zr (jH 10 8 5)<|Zr (YX 11 1 0 5<|
 YM 14 12 13<|
 Zo (.call (some 16) false (.t 11) [.t 15]) .nil)<| .cond (.t 16) (Zr (YW 17 5 4) .ret) .skip)<| .rg (YD 18 8 8))<|Zr (jX 4) .ret⟩
theorem agH:Qe Tryz.prog Tryz.f226=some an0:=by kernel_rfl
def c64:ay:=⟨39,[.t 2],Zr (Yh 2)<| .seq (Zr (Yo 4 0<|
 Zk 6 .gtr 5 64<|
 qW 7 6 0<|
 sD 7 0<|
 Zg 7 false (.mv 11 (.t 10))<|
 Zg 11 true (.mv 12 (.t 0))<|
 Zg 11 true (.mv 13 (.t 0))<|
 Zg 11 true (.len 14 (.t 13))<|
 Zg 11 true (.bin 15 .sub false (.t 14) (.c (Zz 1)))<|
 Zg 11 true (.idx 16 1 (.t 12) (.t 15))<|
 Zg 11 true (.ld 17 1 false (.t 16))<|
 Zg 11 true (.bin 18 .eql false (.t 17) (.c (Zz 0)))<|
 Zg 7 false (.pick 19 (.t 11) (.t 18) (.c (.bool false)))<|
 ew 20 7 19)<| .cond (.t 20) (Zr (Yh 2) .ret) .skip)<| .seq (Zr (Yl 3 0)<| .block 0<| .loop<| .seq (Zr (YH 21 3 0)<| .cond (.t 24) .skip (.exit 0))<| .seq (.block 1<|Zr (Yn 27 0 3<|
 Zk 31 .lss 30 0<|
 qY 32 31 0 3<|
 Zg 32 false (.idx 35 1 (.t 33) (.t 34))<|
 Zg 32 false (.ld 36 1 false (.t 35))<|
 Zg 32 false (.bin 37 .gtr false (.t 36) (.c (Zz 1048576)))<|
 ew 38 32 37)<| .cond (.t 38) (Zr (Yh 2) .ret) .skip)<| .rg (gh 25 3 3))<|Zr (YZ 2) .ret⟩
theorem ai7:Qe Tryz.prog Tryz.f64=some c64:=by kernel_rfl
def amB:ay:=⟨18,[.t 2],Zr (Yl 2 0)<|Zr (Yl 3 0)<| .seq (Zr (Yl 4 0)<| .block 0<| .loop<| .seq (Zr (YH 5 4 0)<| .cond (.t 8) .skip (.exit 0))<| .seq (.block 1<| .rg (YX 11 3 0 4<|
 YM 14 12 13<|
 cX 16 11 15<|
 Yc 3 16))<| .rg (jj 9 4))<|Zr (YW 17 3 2) .ret⟩
theorem agI:Qe Tryz.prog Tryz.f131=some amB:=by kernel_rfl
def c66:ay:=⟨17,[.t 4],Zr (Yl 4 0)<| .seq (Zr (nX 5 1<|
 qY 7 6 1 0<|
 Zg 7 false (.len 10 (.t 9))<|
 Zg 7 false (.bin 11 .geq false (.t 8) (.t 10))<|
 ew 12 7 11)<| .cond (.t 12) (Zr (Yl 4 0) .ret) .skip)<|Zr (Yn 13 0 1<|
 Zm 4 16 .nil) .ret⟩
theorem ai8:Qe Tryz.prog Tryz.f66=some c66:=by kernel_rfl
def c98:ay:=⟨30,[.t 4],Zr (YE 4)<|Zr (YE 5)<| .seq (Zr (Yl 6 0)<| .block 0<| .loop<| .seq (Zr (BZ 7 6 6<|
 ew 16 11 15)<| .cond (.t 16) .skip (.exit 0))<| .seq (.block 1<| .rg (YX 19 5 0 6<|
 Ym 22 66 20 21<|
 YL 23 1 6 66<|
 cX 26 22 25<|
 Yv 27 1 3 26 8 19 5))<| .rg (jj 17 6))<|Zr (YW 29 5 4) .ret⟩
theorem ai9:Qe Tryz.prog Tryz.f98=some c98:=by kernel_rfl
def c65:ay:=⟨48,[.t 6],Zr (Yl 6 0)<| .seq (Zr (Zm 8 2<|
 Zk 9 .eql 8 1<|
 YS 10 9 0<|
 Zg 10 true (.call (some 12) false (.c (.fn 131 [] [])) [.t 11])<|
 Zg 10 true (.mv 13 (.t 1))<|
 Zg 10 true (.call (some 14) false (.c (.fn 131 [] [])) [.t 13])<|
 Zg 10 true (.bin 15 .neq false (.t 12) (.t 14))<|
 Yp 16 10 15 .nil)<| .cond (.t 16) (Zr (lT 17 131<|
 Zb 21 .sub 18 20<|
 Yk 22 132 21<|
 Yc 6 22) .ret) .skip)<| .seq (Zr (kZ 23<|
 Zo (.mx 27 (.t 24) (.t 26))<|
 Zk 28 .sub 27 1<|
 Yc 7 28)<| .block 0<| .loop<| .seq (Zr (Zm 29 7<|
 Zk 30 .geq 29 0 .nil)<| .cond (.t 30) .skip (.exit 0))<| .seq (.block 1<|Zr (YL 33 0 7 66<|
 YL 36 1 7 66<|
 Zb 39 .neq 35 38 .nil)<| .cond (.t 39) (Zr (YL 40 0 7 66<|
 YL 43 1 7 66<|
 Zb 46 .sub 42 45<|
 Yk 47 132 46<|
 Yc 6 47) .ret) .skip)<| .rg (qX 31 7))<|Zr (Yl 6 0) .ret⟩
theorem aja:Qe Tryz.prog Tryz.f65=some c65:=by kernel_rfl
def amC:ay:=⟨7,[.t 2],Zr (Yl 2 0)<| .seq (Zr (nX 3 0 .nil)<| .cond (.t 4) (Zr (jX 2) .ret) .skip)<| .seq (Zr (Zm 5 0<|
 Zk 6 .gtr 5 0 .nil)<| .cond (.t 6) (Zr (Yl 2 1) .ret) .skip)<|Zr (Yl 2 0) .ret⟩
theorem agJ:Qe Tryz.prog Tryz.f132=some amC:=by kernel_rfl
def amk:ay:=⟨92,[.t 4],Zr (YE 4)<|Zr (YE 5)<|Zr (Zc 6 0<|
 Yl 7 0)<| .seq (.block 0<| .loop<| .seq (Zr (BZ 10 6 7<|
 ew 19 14 18)<| .cond (.t 19) .skip (.exit 0))<| .block 1<|Zr (Yl 8 1)<| .seq (Zr (Ye 20 6 0<|
 Zn 22 21<|
 Zb 23 .eql 20 22 .nil)<| .cond (.t 23) (.rg (jX 8)) (Zr (YH 24 7 1)<| .cond (.t 27) (.rg (oY 28 0 6<|
 oY 33 1 7<|
 Zq 38 false 65 [.t 32,.t 37,.c (Zz 0)]<|
 Yc 8 38)) .skip))<| .block 2<|Zr (Zm 68 8<|
 Zk 69 .gtr 68 0<|
 Zm 67 69 .nil)<| .cond (.t 67) (Zr (YX 70 5 0 6<|
 YI 73 4 71 72<|
 Zo (.bs 75 4 95 [.t 74])<|
 Zo (.app 76 4 80 95 (.t 70) (.t 75))<|
 Yc 5 76)<| .rg (gh 77 6 6)) (Zr (nX 80 8<|
 Zm 79 81 .nil)<| .cond (.t 79) (Zr (YX 82 5 1 7<|
 YI 85 4 83 84<|
 Zo (.bs 87 4 95 [.t 86])<|
 Zo (.app 88 4 80 95 (.t 82) (.t 87))<|
 Yc 5 88)<| .rg (gh 89 7 7)) (.seq (Zr (Ye 39 0 6<|
 Zi 41 4 39 40<|
 YT 42 41 3<|
 Ye 44 1 7<|
 Zi 46 4 44 45<|
 YT 47 46 3<|
 .br (Yr 49 87 43 48<|
 lR 9 49) (Yb 9<|
 ji 49 87 43 48 3 9))<|Zr (dG 50 3 9 27<|
 hO 52 51)<| .cond (.t 52) (.rg (Zm 53 5<|
 Zh 54 3 9<|
 oY 55 0 6<|
 YG 60 54 59<|
 Yv 61 4 95 60 80 53 5)) .skip)<|Zr (gh 63 6 6)<| .rg (gh 65 7 7))))<|Zr (YW 91 5 4) .ret⟩
theorem agK:Qe Tryz.prog Tryz.f110=some amk:=by kernel_rfl
def amm:ay:=⟨58,[.t 4],Zr (Yl 4 0)<| .seq (Zr (Yl 5 0)<| .block 0<| .loop<| .seq (Zr (Ye 8 5 0<|
 Zn 10 9<|
 Zb 11 .lss 8 10<|
 YS 12 11 5<|
 Zg 12 true (.mv 14 (.t 1))<|
 Zg 12 true (.len 15 (.t 14))<|
 Zg 12 true (.bin 16 .lss false (.t 13) (.t 15))<|
 Yp 17 12 16 .nil)<| .cond (.t 17) .skip (.exit 0))<| .seq (.block 1<| .seq (Zr (oY 20 0 5<|
 oY 25 1 5<|
 Zq 30 false 65 [.t 24,.t 29,.c (Zz 0)]<|
 Yc 6 30)<|Zr (Zm 31 6<|
 hO 32 31)<| .cond (.t 32) (Zr (YW 33 6 4) .ret) .skip)<|Zr (Ye 34 0 5<|
 Zi 36 4 34 35<|
 YT 37 36 3<|
 Ye 39 1 5<|
 Zi 41 4 39 40<|
 YT 42 41 3<|
 Ym 44 118 38 43<|
 Yc 7 44)<|Zr (Zm 45 7<|
 hO 46 45)<| .cond (.t 46) (Zr (YW 47 7 4) .ret) .skip)<| .rg (gh 18 5 5))<| .seq (Zr (kZ 48<|
 Ys 52 49 51)<| .cond (.t 52) (Zr (jX 4) .ret) .skip)<| .seq (Zr (kZ 53<|
 Zb 57 .gtr 54 56 .nil)<| .cond (.t 57) (Zr (Yl 4 1) .ret) .skip)<|Zr (Yl 4 0) .ret⟩
theorem agL:Qe Tryz.prog Tryz.f113=some amm:=by kernel_rfl
def c70:ay:=⟨5,[.t 2],Zr (gZ 1 51<|
 YE 2)<|Zr (Zh 3 3 1<|
 Zq 4 false 133 [.c .al,.t 3,.c .al]<|
 Zm 2 4 .nil) .ret⟩
theorem ajG:Qe Tryz.prog Tryz.f70=some c70:=by kernel_rfl
def c40:ay:=⟨9,[.t 4],Zr (Yh 4)<|Zr (YL 5 0 1 113<|
 oX 8 7 0 4) .ret⟩
theorem ajH:Qe Tryz.prog Tryz.f40=some c40:=by kernel_rfl
def c69:ay:=⟨22,[.t 4],Zr (YE 4)<|Zr (YE 5)<| .seq (Zr (Yl 6 0)<| .block 0<| .loop<| .seq (Zr (YH 7 6 1)<| .cond (.t 10) .skip (.exit 0))<| .seq (.block 1<| .rg (Ye 13 5 0<|
 ky 15 1 6 4<|
 Ym 19 134 14 18<|
 Ym 20 110 13 19<|
 Yc 5 20))<| .rg (jj 11 6))<|Zr (YW 21 5 4) .ret⟩
theorem ajI:Qe Tryz.prog Tryz.f69=some c69:=by kernel_rfl
def c71:ay:=⟨6,[.t 2],Zr (YE 2)<|Zr (Zm 3 0<|
 Zq 4 false 50 [.c (Zz (-1))]<|
 Ym 5 111 3 4<|
 Zm 2 5 .nil) .ret⟩
theorem ajJ:Qe Tryz.prog Tryz.f71=some c71:=by kernel_rfl
def c19:ay:=⟨52,[.t 2],Zr (Yh 2)<| .seq (Zr (Yl 3 0)<| .block 0<| .loop<| .seq (Zr (YH 4 3 0)<| .cond (.t 7) .skip (.exit 0))<| .seq (.block 1<| .seq (Zr (Ye 10 0 3<|
 Zi 12 4 10 11<|
 YT 13 12 3<|
 Zq 15 false 25 [.t 14]<|
 Zu 16 15<|
 YK 17 16 3 0<|
 Zg 17 false (.ld 22 3 true (.t 21))<|
 Zg 17 false (.call (some 23) false (.c (.fn 27 [] [])) [.t 22])<|
 Zg 17 false (.bin 24 .eql false (.t 23) (.c (Zz 0)))<|
 Yj 25 17 24<|
 YK 26 25 3 3<|
 Zg 26 false (.ld 31 1 false (.t 30))<|
 BW 26 64)<| .cond (.t 34) (Zr (Yh 2) .ret) .skip)<|Zr (B2 35 3 0<|
 Zg 37 true (.mv 45 (.t 3))<|
 Zg 37 true (.idx 46 4 (.t 44) (.t 45))<|
 Zg 37 true (.fP 47 3 (.t 46))<|
 Zg 37 true (.ld 48 1 false (.t 47))<|
 Zg 37 true (.call (some 49) false (.c (.fn 65 [] [])) [.t 43,.t 48,.c (Zz 0)])<|
 Zg 37 true (.bin 50 .leq false (.t 49) (.c (Zz 0)))<|
 Yp 51 37 50 .nil)<| .cond (.t 51) (Zr (Yh 2) .ret) .skip)<| .rg (jj 8 3))<|Zr (YZ 2) .ret⟩
theorem ajK:Qe Tryz.prog Tryz.f19=some c19:=by kernel_rfl
def aml:ay:=⟨35,[.t 4],Zr (Zo (.box 3 3 51 (.t 1))<|
 YE 4)<|Zr (YE 5)<| .seq (Zr (Yl 6 0)<| .block 0<| .loop<| .seq (Zr (Ye 7 6 0<|
 Zn 9 8<|
 Zb 10 .lss 7 9<|
 Zm 11 10<|
 Zg 11 true (.ld 12 3 true (.t 3))<|
 Zg 11 true (.call (some 13) false (.c (.fn 27 [] [])) [.t 12])<|
 Zg 11 true (.bin 14 .neq false (.t 13) (.c (Zz 0)))<|
 Yp 15 11 14 .nil)<| .cond (.t 15) .skip (.exit 0))<| .seq (.block 1<| .rg (YX 18 5 0 6<|
 Zi 21 4 19 20<|
 YT 22 21 3<|
 Zh 24 3 3<|
 oY 26 0 6<|
 Yr 25 85 23 24<|
 YG 31 25 30<|
 Yv 32 4 95 31 80 18 5))<| .rg (jj 16 6))<|Zr (YW 34 5 4) .ret⟩
theorem agM:Qe Tryz.prog Tryz.f111=some aml:=by kernel_rfl
def c35:ay:=⟨72,[.t 8],Zr (Yh 8)<| .seq (Zr (Yo 11 0<|
 Zm 13 1<|
 Zb 14 .gtr 12 13 .nil)<| .cond (.t 14) (Zr (Yh 8) .ret) .skip)<| .seq (Zr (Yl 9 0)<| .block 0<| .loop<| .seq (Zr (YH 15 9 0)<| .cond (.t 18) .skip (.exit 0))<| .seq (.block 1<| .seq (Zr (oY 21 0 9<|
 Zn 26 25<|
 Zm 27 2<|
 Zb 28 .gtr 26 27<|
 YK 29 28 9 0<|
 Zg 29 false (.fP 34 0 (.t 33))<|
 Zg 29 false (.fP 35 1 (.t 34))<|
 Zg 29 false (.ld 36 1 false (.t 35))<|
 Zg 29 false (.len 37 (.t 36))<|
 Zg 29 false (.bin 38 .gtr false (.t 37) (.c (Zz 4)))<|
 Yj 39 29 38<|
 YK 40 39 9 0<|
 Zg 40 false (.fP 45 2 (.t 44))<|
 Zg 40 false (.ld 46 1 false (.t 45))<|
 Zg 40 false (.len 47 (.t 46))<|
 Zg 40 false (.bin 48 .gtr false (.t 47) (.c (Zz 4)))<|
 ew 49 40 48)<| .cond (.t 49) (Zr (Yh 8) .ret) .skip)<|Zr (Yl 10 0)<| .block 2<| .loop<| .seq (Zr (YX 50 10 0 9<|
 Zi 53 4 51 52<|
 Yf 54 3 53<|
 Zn 56 55<|
 Ys 57 50 56)<| .cond (.t 57) .skip (.exit 2))<| .seq (.block 3<|Zr (oY 60 0 9<|
 Zm 65 10<|
 YM 66 64 65<|
 Zm 68 3<|
 Zb 69 .gtr 67 68 .nil)<| .cond (.t 69) (Zr (Yh 8) .ret) .skip)<| .rg (gh 58 10 10))<| .rg (jj 19 9))<|Zr (Yz 70 0 19<|
 Yc 8 71) .ret⟩
theorem ajL:Qe Tryz.prog Tryz.f35=some c35:=by kernel_rfl
def c68:ay:=⟨9,[.t 4],Zr (YE 4)<|Zr (Ye 5 0 1<|
 Yk 7 71 6<|
 Ym 8 110 5 7<|
 Zm 4 8 .nil) .ret⟩
theorem ajM:Qe Tryz.prog Tryz.f68=some c68:=by kernel_rfl
def amD:ay:=⟨88,[.t 6],Zr (Zo (.box 4 3 51 (.t 1))<|
 YE 6)<|Zr (Yo 10 0<|
 Zm 7 11 .nil)<| .seq (.block 0<| .loop<| .seq (Zr (B2 12 7 2<|
 Zg 14 true (.call (some 22) false (.c (.fn 65 [] [])) [.t 20,.t 21,.c (Zz 0)])<|
 Zg 14 true (.bin 23 .lss false (.t 22) (.c (Zz 0)))<|
 Yp 24 14 23 .nil)<| .cond (.t 24) .skip (.exit 0))<| .block 1<| .rg (qX 25 7))<|Zr (YE 8)<| .seq (Zr (B2 27 7 2<|
 Zg 29 true (.call (some 37) false (.c (.fn 65 [] [])) [.t 35,.t 36,.c (Zz 0)])<|
 Zg 29 true (.bin 38 .eql false (.t 37) (.c (Zz 0)))<|
 Yp 39 29 38 .nil)<| .cond (.t 39) (Zr (YX 40 8 0 7<|
 Zk 43 .sub 42 1<|
 tV 44 4 41 43<|
 mZ 45 4 80 95 40 44<|
 Yc 8 45)<| .seq (Zr (Ye 46 0 7<|
 Zk 48 .sub 47 1<|
 Zi 49 4 46 48<|
 YT 50 49 3<|
 Zh 52 3 4<|
 .br (Yr 53 87 51 52<|
 lR 9 53) (Yb 9<|
 ji 53 87 51 52 3 9))<|Zr (dG 54 3 9 27<|
 hO 56 55)<| .cond (.t 56) (.rg (Zm 57 8<|
 Zh 58 3 9<|
 Zm 59 2<|
 YG 60 58 59<|
 Yv 61 4 95 60 80 57 8)) .skip)<|Zr (YX 63 8 0 7<|
 Zo (.sl 66 4 (.t 64) (some (.t 65)) none none)<|
 mZ 67 4 80 95 63 66<|
 Yc 6 67) .ret) .skip)<|Zr (YX 68 8 0 7<|
 tV 71 4 69 70<|
 Zo (.app 72 4 80 95 (.t 68) (.t 71))<|
 Yc 8 72)<| .seq (Zr (dG 73 3 4 27<|
 hO 75 74)<| .cond (.t 75) (.rg (Zm 76 8<|
 Zh 77 3 4<|
 Zq 78 false 89 [.t 77]<|
 Zm 79 2<|
 YG 80 78 79<|
 Yv 81 4 95 80 80 76 8)) .skip)<|Zr (YX 83 8 0 7<|
 Zo (.sl 86 4 (.t 84) (some (.t 85)) none none)<|
 Zo (.app 87 4 80 95 (.t 83) (.t 86))<|
 Yc 6 87) .ret⟩
theorem agN:Qe Tryz.prog Tryz.f133=some amD:=by kernel_rfl
def amE:ay:=⟨34,[.t 4],Zr (jE 3 95 1<|
 YE 4)<|Zr (YE 5)<| .seq (Zr (Yl 6 0)<| .block 0<| .loop<| .seq (Zr (YH 7 6 0)<| .cond (.t 10) .skip (.exit 0))<| .seq (.block 1<| .rg (YX 13 5 0 6<|
 Zi 16 4 14 15<|
 YT 17 16 3<|
 YT 19 3 3<|
 oY 22 0 6<|
 Yf 27 3 3<|
 Yr 21 85 18 20<|
 Yr 29 98 26 28<|
 YG 30 21 29<|
 Yv 31 4 95 30 80 13 5))<| .rg (jj 11 6))<|Zr (YW 33 5 4) .ret⟩
theorem agO:Qe Tryz.prog Tryz.f134=some amE:=by kernel_rfl
def c51:ay:=⟨19,[.cell 4 3 true],Zr (Yb 4 .nil)<|Zr (lT 8 120<|
 Ym 12 121 9 11<|
 Zm 7 12<|
 Yd 13 7<|
 Yb 5<|
 Zs 3 5 13<|
 Zm 6 14 .nil)<| .seq (Zr (Zm 15 6<|
 hO 16 15)<| .cond (.t 16) (Zr (jW 17 50 0<|
 jk 3 17) .ret) .skip)<|Zr (Zh 18 3 5<|
 jk 3 18) .ret⟩
theorem ajN:Qe Tryz.prog Tryz.f51=some c51:=by kernel_rfl
def c67:ay:=⟨19,[.t 2],Zr (YE 2)<| .seq (Zr (nX 4 0<|
 Yu 6 5 0<|
 Zg 6 false (.bin 8 .geq false (.t 7) (.c (Zz 64)))<|
 ew 9 6 8)<| .cond (.t 9) (Zr (YE 2) .ret) .skip)<|Zr (Zm 10 0<|
 Zk 11 .add 10 1<|
 Zo (.mk 12 1 8 3 (Zz 0) (.t 11) (.t 11))<|
 Zm 3 12 .nil)<|Zr (Ye 13 3 0<|
 Zi 15 1 13 14<|
 Zo (.st 1 (.t 15) (.c (Zz 1))) .nil)<|Zr (jW 16 50 1<|
 Zm 17 3<|
 Zq 18 false 133 [.c .al,.t 16,.t 17]<|
 Yc 2 18) .ret⟩
theorem ajO:Qe Tryz.prog Tryz.f67=some c67:=by kernel_rfl
def c52:ay:=⟨35,[.t 2],Zr (gZ 1 24<|
 Yh 2)<| .seq (Zr (Yf 3 0 1<|
 Zk 5 .lss 4 0<|
 YA 6 5 0 1<|
 sD 6 40<|
 Yj 10 6 9<|
 YA 11 10 1 1<|
 Zg 11 false (.bin 14 .lss false (.t 13) (.c (Zz 0)))<|
 Yj 15 11 14<|
 YA 16 15 1 1<|
 sD 16 40<|
 BX 20 16 19 1 0 1<|
 Zg 21 false (.fP 27 1 (.t 1))<|
 Zg 21 false (.ld 28 1 false (.t 27))<|
 Zg 21 false (.bin 29 .mul false (.t 26) (.t 28))<|
 Zg 21 false (.bin 30 .neq false (.t 24) (.t 29))<|
 ew 31 21 30)<| .cond (.t 31) (Zr (Yh 2) .ret) .skip)<|Zr (Yf 32 2 1<|
 Yk 34 53 33<|
 Yc 2 34) .ret⟩
theorem ajP:Qe Tryz.prog Tryz.f52=some c52:=by kernel_rfl
def c53:ay:=⟨15,[.t 2],Zr (Yh 2)<| .seq (Zr (YP 5 0)<| .block 0<| .loop<|Zr (Ys 8 7 6)<| .seq (.cond (.t 8) .skip (.exit 0))<| .seq (.block 1<|Zr (YI 9 3 5 7<|
 Yb 4<|
 Zs 3 4 10 .nil)<|Zr (dG 11 3 4 122<|
 Zu 13 12 .nil)<| .cond (.t 13) (Zr (Yh 2) .ret) .skip)<| .rg (YD 14 7 7))<|Zr (YZ 2) .ret⟩
theorem ajQ:Qe Tryz.prog Tryz.f53=some c53:=by kernel_rfl
def amU:ay:=⟨46,[.t 4],Zr (YU 2 24<|
 Yh 4)<| .seq (Zr (eS 6 0 2 0 3<|
 Zb 10 .neq 7 9<|
 YA 11 10 1 2<|
 Zg 11 false (.fP 14 1 (.t 3))<|
 Zg 11 false (.ld 15 1 false (.t 14))<|
 Zg 11 false (.bin 16 .neq false (.t 13) (.t 15))<|
 BX 17 11 16 2 2 3<|
 Zg 18 false (.len 24 (.t 23))<|
 Zg 18 false (.bin 25 .neq false (.t 21) (.t 24))<|
 ew 26 18 25)<| .cond (.t 26) (Zr (Yh 4) .ret) .skip)<| .seq (Zr (Yf 27 2 2<|
 Zn 29 28<|
 Yl 30 0)<| .block 0<| .loop<|Zr (Ys 31 30 29)<| .seq (.cond (.t 31) .skip (.exit 0))<| .seq (.block 1<|Zr (YW 32 30 5)<|Zr (Yf 33 2 2<|
 Zm 35 5<|
 YI 36 3 34 35<|
 Yf 38 2 3<|
 Zm 40 5<|
 YI 41 3 39 40<|
 Ym 43 179 37 42<|
 Zu 44 43 .nil)<| .cond (.t 44) (Zr (Yh 4) .ret) .skip)<| .rg (Yw 45 30 30))<|Zr (YZ 4) .ret⟩
theorem agP:Qe Tryz.prog Tryz.f154=some amU:=by kernel_rfl
def TG:ay:=⟨18,[.t 2],Zr (YE 2)<|Zr (Zm 5 0<|
 xv 6 5<|
 Zm 3 6 .nil)<| .seq (Zr (YP 7 3)<| .block 0<| .loop<|Zr (Ys 10 9 8)<| .seq (.cond (.t 10) .skip (.exit 0))<| .seq (.block 1<|Zr (jH 11 9 4)<| .rg (Ye 12 3 4<|
 jW 14 61 0<|
 Zi 15 3 12 13<|
 Zs 3 15 14 .nil))<| .rg (YD 16 9 9))<|Zr (YW 17 3 2) .ret⟩
theorem P4:Qe Tryz.prog Tryz.f56=some TG:=by kernel_rfl
def c57:ay:=⟨35,[.t 2],Zr (gZ 1 24<|
 Yh 2)<| .seq (Zr (Yf 3 0 1<|
 Zk 5 .lss 4 0<|
 YA 6 5 0 1<|
 sD 6 40<|
 Yj 10 6 9<|
 YA 11 10 1 1<|
 Zg 11 false (.bin 14 .lss false (.t 13) (.c (Zz 0)))<|
 Yj 15 11 14<|
 YA 16 15 1 1<|
 sD 16 40<|
 BX 20 16 19 1 0 1<|
 Zg 21 false (.fP 27 1 (.t 1))<|
 Zg 21 false (.ld 28 1 false (.t 27))<|
 Zg 21 false (.bin 29 .mul false (.t 26) (.t 28))<|
 Zg 21 false (.bin 30 .neq false (.t 24) (.t 29))<|
 ew 31 21 30)<| .cond (.t 31) (Zr (Yh 2) .ret) .skip)<|Zr (Yf 32 2 1<|
 Yk 34 58 33<|
 Yc 2 34) .ret⟩
theorem ajR:Qe Tryz.prog Tryz.f57=some c57:=by kernel_rfl
def c58:ay:=⟨16,[.t 2],Zr (Yh 2)<| .seq (Zr (Yl 3 0)<| .block 0<| .loop<| .seq (Zr (YH 4 3 0)<| .cond (.t 7) .skip (.exit 0))<| .seq (.block 1<|Zr (ky 10 0 3 3<|
 Zq 14 false 25 [.t 13]<|
 Zu 15 14 .nil)<| .cond (.t 15) (Zr (Yh 2) .ret) .skip)<| .rg (jj 8 3))<|Zr (YZ 2) .ret⟩
theorem ajS:Qe Tryz.prog Tryz.f58=some c58:=by kernel_rfl
def anE:ay:=⟨17,[.cell 6 3 true],Zr (Zo (.box 3 3 24 (.t 0))<|
 Yb 6 .nil)<|Zr (vI 7 3 1 1 3 2<|
 cX 14 12 13<|
 YI 15 3 8 14<|
 Zs 3 6 16 .nil) .ret⟩
theorem agQ:Qe Tryz.prog Tryz.f201=some anE:=by kernel_rfl
def amu:ay:=⟨17,[.t 4],Zr (jE 2 24 0<|
 YE 4)<|Zr (vI 5 2 1 1 2 1<|
 Zk 12 .add 11 1<|
 Yf 13 1 2<|
 Zb 15 .mul 12 14<|
 Zo (.sl 16 3 (.t 6) (some (.t 10)) (some (.t 15)) none)<|
 Zm 4 16 .nil) .ret⟩
theorem agh:Qe Tryz.prog Tryz.f124=some amu:=by kernel_rfl
def amw:ay:=⟨30,[.t 6],Zr (Zo (.box 5 3 51 (.t 2))<|
 YE 6)<|Zr (YE 7)<| .seq (Zr (Yl 8 0)<| .block 0<| .loop<| .seq (Zr (YH 9 8 0)<| .cond (.t 12) .skip (.exit 0))<| .seq (.block 1<| .rg (YX 15 7 0 8<|
 YI 18 3 16 17<|
 Zh 20 3 5<|
 ky 21 1 8 3<|
 Yr 25 85 20 24<|
 Yr 26 145 19 25<|
 Yv 27 3 51 26 56 15 7))<| .rg (jj 13 8))<|Zr (YW 29 7 6) .ret⟩
theorem agi:Qe Tryz.prog Tryz.f126=some amw:=by kernel_rfl
def amv:ay:=⟨29,[.t 4],Zr (Zo (.box 3 3 51 (.t 1))<|
 YE 4)<|Zr (YE 5)<| .seq (Zr (Yl 6 0)<| .block 0<| .loop<| .seq (Zr (YH 9 6 0)<| .cond (.t 12) .skip (.exit 0))<| .seq (.block 1<|Zr (ky 16 0 6 3<|
 Zh 20 3 3<|
 .br (Yr 21 143 19 20<|
 Zm 15 21<|
 mY 22 15 7 8) (Yb 7<|
 qe 21 143 19 20 15 7 8))<| .rg (Zm 24 5<|
 Zh 25 3 7<|
 Yv 26 3 51 25 56 24 5))<| .rg (jj 13 6))<|Zr (YW 28 5 4) .ret⟩
theorem agj:Qe Tryz.prog Tryz.f125=some amv:=by kernel_rfl
def amY:ay:=⟨26,[.t 2],Zr (gZ 1 24<|
 Yh 2)<| .seq (Zr (Yl 3 0)<| .block 0<| .loop<| .seq (Zr (Zm 5 3<|
 Yf 6 0 1<|
 Ys 8 5 7)<| .cond (.t 8) .skip (.exit 0))<| .seq (.block 1<|Zr (Yl 4 0)<| .block 2<| .loop<| .seq (Zr (Ye 11 4 3<|
 Ys 13 11 12)<| .cond (.t 13) .skip (.exit 2))<| .seq (.block 3<|Zr (Zh 16 3 1<|
 Ye 17 3 4<|
 Zh 20 3 1<|
 Ye 21 4 3<|
 Zq 19 true 201 [.t 16,.t 17,.t 18]<|
 Zq 23 true 201 [.t 20,.t 21,.t 22]<|
 Yr 24 49 19 23<|
 Zu 25 24 .nil)<| .cond (.t 25) (Zr (Yh 2) .ret) .skip)<| .rg (jj 14 4))<| .rg (jj 9 3))<|Zr (YZ 2) .ret⟩
theorem agk:Qe Tryz.prog Tryz.f160=some amY:=by kernel_rfl
def am0:ay:=⟨12,[.t 6],Zr (Zo (.box 5 3 51 (.t 2))<|
 YE 6)<|Zr (Ye 7 0 1<|
 dG 9 3 5 63<|
 Zq 11 false 126 [.t 7,.t 8,.t 10]<|
 Zm 6 11 .nil) .ret⟩
theorem agl:Qe Tryz.prog Tryz.f162=some am0:=by kernel_rfl
def vN:ay:=⟨54,[.t 0],Zr (Yh 0)<|Zr (Zo (.bs 9 1 3 [.c (Zz 0),.c (Zz 1),.c (Zz 1),.c (Zz 0)])<|
 Yk 10 46 9<|
 Zq 11 false 45 [.c (Zz 2),.c (Zz 2),.t 10]<|
 Zm 8 11<|
 Yd 12 8<|
 Zo (.alloc 1 3 24 (.agg [Zz 0,Zz 0,.al]))<|
 Zs 3 1 12<|
 Zm 2 13 .nil)<|Zr (dG 15 3 1 47<|
 Zm 14 16<|
 Yd 17 14<|
 Zo (.alloc 3 3 51 (.agg [.bool false,.al,.al]))<|
 Zs 3 3 17<|
 Yc 4 18)<|Zr (dG 20 3 1 48<|
 Zm 19 21<|
 lU 22 19<|
 qd 6<|
 Zm 5 22<|
 Zs 3 6 23<|
 Yc 7 24)<|Zr (Zm 25 2<|
 Zk 26 .eql 25 0<|
 YS 27 26 4<|
 Zg 27 true (.bin 29 .eql false (.t 28) (.c (Zz 0)))<|
 Yp 30 27 29<|
 YS 31 30 7<|
 Zg 31 true (.bin 33 .eql false (.t 32) (.c (Zz 0)))<|
 Yp 34 31 33<|
 Zm 35 34<|
 Zg 35 true (.ld 36 3 true (.t 3))<|
 Zg 35 true (.call (some 37) true (.c (.fn 50 [] [])) [.c (Zz (-1))])<|
 Zg 35 true (.call (some 38) true (.c (.fn 49 [] [])) [.t 36,.t 37])<|
 Yp 39 35 38<|
 YS 40 39 5<|
 Zg 40 true (.call (some 42) true (.c (.fn 51 [] [])) [.c (Zz 1),.c (Zz 2)])<|
 Zg 40 true (.call (some 43) true (.c (.fn 51 [] [])) [.c (Zz (-1)),.c (Zz 2)])<|
 Zg 40 true (.bs 44 3 51 [.t 42,.t 43])<|
 Zg 40 true (.call (some 45) true (.c (.fn 17 [] [])) [.t 41,.t 44])<|
 Yp 46 40 45<|
 Zm 47 46<|
 YO 47 2 6<|
 Zg 47 true (.bs 50 1 3 [.c (Zz 1),.c (Zz 1),.c (Zz (-1)),.c (Zz 1)])<|
 Zg 47 true (.call (some 51) true (.c (.fn 46 [] [])) [.t 50])<|
 Zg 47 true (.call (some 52) true (.c (.fn 17 [] [])) [.t 49,.t 51])<|
 Yp 53 47 52<|
 Yc 0 53) .ret⟩
def c3:ay:=⟨84,[.t 4],Zr (jE 2 24 0<|
 Yh 4)<| .seq (Zr (Zh 14 3 2<|
 Zo (.bs 15 3 24 [.t 14])<|
 Yk 16 10 15<|
 Zu 17 16<|
 Yu 18 17 1<|
 Zg 18 false (.call (some 20) false (.c (.fn 11 [] [])) [.t 19,.c (Zz 8)])<|
 vH 18)<| .cond (.t 22) (Zr (Zq 23 false 12 []<|
 Yc 4 23) .ret) .skip)<|Zr (Zh 25 3 2<|
 Zm 26 1<|
 Ym 27 13 25 26<|
 Zm 24 27<|
 jF 28 24 5)<|Zr (Zh 31 3 2<|
 Zm 32 1<|
 Ym 33 14 31 32<|
 Zm 30 33<|
 jF 34 30 7)<|Zr (dG 37 3 2 15<|
 Zm 36 38<|
 jF 39 36 9)<|Zr (dG 42 3 2 16<|
 Zm 41 43<|
 jF 44 41 11)<| .seq (Zr (YL 46 5 7 17<|
 Zu 49 48<|
 qY 50 49 6 8<|
 Zg 50 false (.bin 53 .neq false (.t 51) (.t 52))<|
 Yj 54 50 53<|
 qW 55 54 9<|
 Zg 55 false (.mv 58 (.t 11))<|
 Zg 55 false (.len 59 (.t 58))<|
 Zg 55 false (.bin 60 .neq false (.t 57) (.t 59))<|
 Yj 61 55 60<|
 qY 62 61 10 12<|
 Zg 62 false (.bin 65 .neq false (.t 63) (.t 64))<|
 ew 66 62 65)<| .cond (.t 66) (Zr (Yh 4) .ret) .skip)<| .seq (Zr (Yl 13 0)<| .block 0<| .loop<| .seq (Zr (YH 67 13 9)<| .cond (.t 70) .skip (.exit 0))<| .seq (.block 1<|Zr (Yn 73 9 13<|
 Yn 77 11 13<|
 Ym 81 17 76 80<|
 Zu 82 81 .nil)<| .cond (.t 82) (Zr (Yh 4) .ret) .skip)<| .rg (gh 71 13 13))<|Zr (Zq 83 false 12 []<|
 Yc 4 83) .ret⟩
def Kf:ay:=⟨38,[.t 2],Zr (gZ 1 24<|
 YE 2)<|Zr (Yf 5 0 1<|
 Zo (.mk 7 1 24 22 .al (.t 6) (.t 6))<|
 .wk<| .wk<|Zm 3 7 .nil)<| .seq (Zr (Yf 8 0 1<|
 Yl 10 0)<| .block 0<| .loop<|Zr (Ys 11 10 9)<| .seq (.cond (.t 11) .skip (.exit 0))<| .seq (.block 1<|Zr (jH 12 10 4)<|Zr (Ye 13 3 4<|
 Yf 15 1 1<|
 xv 17 16<|
 .wk<|Zi 18 1 13 14<|
 gK 1 18 17)<| .rg (Yn 19 3 4<|
 vI 23 1 4 1 1 4<|
 Zk 30 .add 29 1<|
 Yf 31 1 1<|
 Zb 33 .mul 30 32<|
 Zo (.sl 34 3 (.t 24) (some (.t 28)) (some (.t 33)) none)<|
 Zo (.tZ 35 3 (.t 22) (.t 34)) .nil))<| .rg (Yw 36 10 10))<|Zr (YW 37 3 2) .ret⟩
theorem P5:Qe Tryz.prog Tryz.f54=some Kf.strip:=by kernel_rfl
def Kc:ay:=⟨30,[],Zr (Zo (.box 5 3 51 (.t 2)) .nil)<| .seq (Zr (dG 7 3 5 38<|
 jG 9 8 0)<| .cond (.t 9) .ret .skip)<|Zr (YP 10 0)<| .block 0<| .loop<|Zr (Ys 13 12 11)<| .seq (.cond (.t 13) .skip (.exit 0))<| .seq (.block 1<|Zr (jH 14 12 6)<| .rg (Ye 15 0 6<|
 ky 17 0 6 3<|
 Zh 21 3 5<|
 ky 22 1 6 3<|
 Yr 26 105 21 25<|
 Yr 27 181 20 26<|
 Zi 28 3 15 16<|
 gK 3 28 27))<| .rg (Yw 29 12 12)⟩
theorem O9:Qe Tryz.prog Tryz.f117=some Kc.strip:=by kernel_rfl
def Kd:ay:=⟨33,[.t 6],Zr (Zo (.box 5 3 51 (.t 2))<|
 YE 6)<|Zr (Yo 9 0<|
 xv 11 10<|
 Zm 7 11 .nil)<| .seq (Zr (YP 12 0)<| .block 0<| .loop<|Zr (Ys 15 14 13)<| .seq (.cond (.t 15) .skip (.exit 0))<| .seq (.block 1<|Zr (jH 16 14 8)<| .rg (Ye 17 7 8<|
 ky 19 0 8 3<|
 Zh 23 3 5<|
 ky 24 1 8 3<|
 Yr 28 105 23 27<|
 Yr 29 107 22 28<|
 Zi 30 3 17 18<|
 gK 3 30 29))<| .rg (Yw 31 14 14))<|Zr (YW 32 7 6) .ret⟩
theorem O':Qe Tryz.prog Tryz.f180=some Kd.strip:=by kernel_rfl
def Kb:ay:=⟨32,[.t 2],Zr (Yh 2)<| .seq (Zr (YP 5 0)<| .block 0<| .loop<|Zr (Ys 8 7 6)<| .seq (.cond (.t 8) .skip (.exit 0))<| .seq (.block 1<|Zr (jH 9 7 3)<|Zr (Zm 10 3<|
 Yl 11 0)<| .block 2<| .loop<|Zr (Ys 12 11 10)<| .seq (.cond (.t 12) .skip (.exit 2))<| .seq (.block 3<|Zr (jH 13 11 4)<|Zr (Yn 14 0 3<|
 Zm 18 4<|
 YI 19 3 17 18<|
 Yn 21 0 4<|
 Zm 25 3<|
 YI 26 3 24 25<|
 Ym 28 179 20 27<|
 Zu 29 28 .nil)<| .cond (.t 29) (Zr (Yh 2) .ret) .skip)<| .rg (Yw 30 11 11))<| .rg (Yw 31 7 7))<|Zr (YZ 2) .ret⟩
theorem Pa:Qe Tryz.prog Tryz.f115=some Kb.strip:=by kernel_rfl
def Tv:ay:=⟨102,[.t 2],Zr (YE 2)<|Zr (jW 13 61 1<|
 Zo (.alloc 3 3 51 (.agg [.bool false,.al,.al]))<|
 Zs 3 3 13 .nil)<| .seq (Zr (YP 14 0)<| .block 0<| .loop<|Zr (Ys 17 16 15)<| .seq (.cond (.t 17) .skip (.exit 0))<| .seq (.block 1<|Zr (YW 18 16 4)<|Zr (Yn 19 0 4<|
 Zm 23 4<|
 YI 24 3 22 23<|
 lR 5 25)<|Zr (Zh 26 3 5<|
 Zq 27 false 38 [.t 26]<|
 hO 28 27)<| .cond (.t 28) (Zr (nV 30 3 3 5 123<|
 Zm 29 32<|
 mY 33 29 6 7)<|Zr (Zh 35 3 5<|
 Yo 36 0<|
 Yn 39 0 4<|
 Zh 43 3 6<|
 YY 38 56 37<|
 Zq 44 true 180 [.t 38,.t 42,.t 43]<|
 YG 45 35 44<|
 Zo (.bs 46 4 133 [.t 45])<|
 Yc 2 46) .ret) .skip)<| .rg (Yw 47 16 16))<| .seq (Zr (YP 48 0)<| .block 2<| .loop<|Zr (Ys 51 50 49)<| .seq (.cond (.t 51) .skip (.exit 2))<| .seq (.block 3<|Zr (YW 52 50 8)<|Zr (Yn 53 0 8<|
 Zn 57 56<|
 Yl 58 0)<| .block 4<| .loop<|Zr (Ys 59 58 57)<| .seq (.cond (.t 59) .skip (.exit 4))<| .seq (.block 5<|Zr (Zm 60 58<|
 YI 61 3 56 58<|
 Yb 10<|
 Zm 9 60<|
 Zs 3 10 62 .nil)<|Zr (dG 63 3 10 38<|
 hO 65 64)<| .cond (.t 65) (Zr (Zh 67 3 3<|
 Zh 68 3 10<|
 Zh 69 3 10<|
 .br (Yr 70 107 68 69<|
 .br (Yr 71 123 67 70<|
 Zm 66 71<|
 mY 72 66 11 12) (Yb 11<|
 qe 71 123 67 70 66 11 12)) (Yb 11<|
 Yr 70 107 68 69<|
 qe 71 123 67 70 66 11 12))<|Zr (Zh 74 3 11<|
 Yn 75 0 8<|
 Yn 79 0 9<|
 Zh 83 3 3<|
 Zh 86 3 11<|
 Yn 88 0 8<|
 Yn 92 0 9<|
 Zq 84 true 180 [.t 78,.t 82,.t 83]<|
 YG 85 74 84<|
 YY 87 62 86<|
 Zq 96 true 61 [.c (Zz (-1))]<|
 Zq 97 true 180 [.t 91,.t 95,.t 96]<|
 YG 98 87 97<|
 Zo (.bs 99 4 133 [.t 85,.t 98])<|
 Yc 2 99) .ret) .skip)<| .rg (Yw 100 58 58))<| .rg (Yw 101 50 50))<|Zr (YE 2) .ret⟩
theorem agm:Qe Tryz.prog Tryz.f116=some Tv.strip:=by kernel_rfl
def TF:ay:=⟨137,[.cell 4 5 true],Zr (Zo (.alloc 4 5 87 (.agg [.al,.al,.bool false,.al,.al])) .nil)<|Zr (Zm 12 0<|
 jW 13 61 1<|
 Zo (.eA 14 [.al,.al,.bool false,.al,.al] [(0,1,.t 12),(2,3,.t 13)])<|
 Zo (.alloc 5 5 87 (.agg [.al,.al,.bool false,.al,.al]))<|
 .wk<| .wk<|Zs 5 5 14 .nil)<| .seq (Zr (Zm 15 1<|
 .wk<|Yl 16 0)<| .block 0<| .loop<|Zr (Ys 17 16 15)<| .seq (.cond (.t 17) .skip (.exit 0))<| .seq (.block 1<|Zr (jH 18 16 6)<|Zr (Yf 19 1 5<|
 Zn 21 20<|
 Yc 7 21)<|Zr (YW 22 7 8)<| .seq (.block 2<| .loop<| .seq (Zr (Ye 23 8 0<|
 Zn 25 24<|
 Zb 26 .lss 23 25<|
 YS 27 26 0<|
 Zg 27 true (.mv 29 (.t 8))<|
 Zg 27 true (.idx 30 1 (.t 28) (.t 29))<|
 Zg 27 true (.ld 31 1 false (.t 30))<|
 Zg 27 true (.mv 32 (.t 6))<|
 Zg 27 true (.idx 33 3 (.t 31) (.t 32))<|
 Zg 27 true (.ld 34 3 true (.t 33))<|
 Zg 27 true (.call (some 35) false (.c (.fn 38 [] [])) [.t 34])<|
 Zg 27 true (.bin 36 .eql false (.t 35) (.c (Zz 0)))<|
 Yp 37 27 36 .nil)<| .cond (.t 37) .skip (.exit 2))<| .block 3<| .rg (gh 38 8 8))<| .seq (Zr (Ye 40 8 0<|
 Zn 42 41<|
 Zb 43 .eql 40 42 .nil)<| .cond (.t 43) (.exit 1) .skip)<| .seq (Zr (Ye 44 8 7<|
 Zb 46 .neq 44 45 .nil)<| .cond (.t 46) (Zr (Ye 47 0 8<|
 Ye 49 0 7<|
 Yn 51 0 7<|
 Yn 55 0 8<|
 Zi 59 1 47 48<|
 Zs 1 59 54<|
 Zi 60 1 49 50<|
 gK 1 60 58)<| .rg (Zf 61 2 5<|
 Zh 62 3 61<|
 Yk 63 62 62<|
 Zf 64 2 5<|
 gK 3 64 63)) .skip)<|Zr (Yn 65 0 7<|
 Zm 69 6<|
 YI 70 3 68 69<|
 lR 9 71)<|Zr (Zf 72 2 5<|
 nV 73 3 72 9 105<|
 Zf 76 2 5<|
 gK 3 76 75)<| .seq (Zr (Yn 77 0 7<|
 Zn 81 80<|
 Yl 82 0)<| .block 4<| .loop<|Zr (Ys 83 82 81)<| .seq (.cond (.t 83) .skip (.exit 4))<| .seq (.block 5<|Zr (YW 84 82 10)<| .rg (Yn 86 0 7<|
 YX 90 10 0 7<|
 YM 93 91 92<|
 Zm 95 10<|
 YI 96 3 94 95<|
 Zh 98 3 9<|
 Yr 99 123 97 98<|
 Zm 85 99<|
 Yd 100 85<|
 Zi 102 3 89 90<|
 gK 3 102 100))<| .rg (Yw 103 82 82))<| .seq (Zr (YP 104 0)<| .block 6<| .loop<|Zr (Ys 107 106 105)<| .seq (.cond (.t 107) .skip (.exit 6))<| .seq (.block 7<|Zr (YW 108 106 11)<|Zr (Ye 109 11 7<|
 Zb 111 .neq 109 110 .nil)<| .cond (.t 111) (.rg (Yn 112 0 11<|
 Yn 116 0 7<|
 Yn 120 0 11<|
 Zm 124 6<|
 YI 125 3 123 124<|
 Zq 127 false 117 [.t 115,.t 119,.t 126] .nil)) .skip)<| .rg (Yw 128 106 106))<| .rg (Yf 129 1 5<|
 Zm 131 6<|
 Zo (.bs 132 1 3 [.t 131])<|
 mZ 133 1 8 3 130 132<|
 Zf 134 1 5<|
 gK 1 134 133))<| .rg (Yw 135 16 16))<|Zr (Zh 136 5 5<|
 .wk<|gK 5 4 136) .ret⟩
theorem ajT:Qe Tryz.prog Tryz.f55=some TF.strip:=by kernel_rfl
def c34:ay:=⟨14,[.t 2],Zr (gZ 1 51<|
 Yh 2)<|Zr (Zf 3 0 1<|
 Yf 4 1 3<|
 Zn 6 5<|
 Zk 7 .leq 6 2<|
 Zm 8 7<|
 YO 8 2 1<|
 Zg 8 true (.len 11 (.t 10))<|
 Zg 8 true (.bin 12 .leq false (.t 11) (.c (Zz 2)))<|
 Yp 13 8 12<|
 Zm 2 13 .nil) .ret⟩
theorem ajU:Qe Tryz.prog Tryz.f34=some c34:=by kernel_rfl
def c18:ay:=⟨29,[.t 2],Zr (Yh 2)<| .seq (Zr (Yo 4 0<|
 Zk 6 .gtr 5 20 .nil)<| .cond (.t 6) (Zr (Yh 2) .ret) .skip)<| .seq (Zr (Yl 3 0)<| .block 0<| .loop<| .seq (Zr (YH 7 3 0)<| .cond (.t 10) .skip (.exit 0))<| .seq (.block 1<|Zr (oY 13 0 3<|
 Zn 18 17<|
 Zk 19 .gtr 18 70<|
 YK 20 19 3 0<|
 Zg 20 false (.ld 25 3 true (.t 24))<|
 BW 20 34)<| .cond (.t 28) (Zr (Yh 2) .ret) .skip)<| .rg (jj 11 3))<|Zr (YZ 2) .ret⟩
theorem ajV:Qe Tryz.prog Tryz.f18=some c18:=by kernel_rfl
def c33:ay:=⟨38,[.t 2],Zr (Yh 2)<| .seq (Zr (Yo 4 0<|
 Zk 6 .gtr 5 5 .nil)<| .cond (.t 6) (Zr (Yh 2) .ret) .skip)<| .seq (Zr (Yl 3 0)<| .block 0<| .loop<| .seq (Zr (YH 7 3 0)<| .cond (.t 10) .skip (.exit 0))<| .seq (.block 1<|Zr (Ye 13 0 3<|
 Zi 15 4 13 14<|
 YT 16 15 3<|
 Yk 18 34 17<|
 Zu 19 18<|
 YK 20 19 3 3<|
 Zg 20 false (.ld 25 1 false (.t 24))<|
 Zg 20 false (.len 26 (.t 25))<|
 Zg 20 false (.bin 27 .gtr false (.t 26) (.c (Zz 6)))<|
 Yj 28 20 27<|
 YK 29 28 3 3<|
 Zg 29 false (.ld 34 1 false (.t 33))<|
 BW 29 18)<| .cond (.t 37) (Zr (Yh 2) .ret) .skip)<| .rg (jj 11 3))<|Zr (YZ 2) .ret⟩
theorem ajW:Qe Tryz.prog Tryz.f33=some c33:=by kernel_rfl
def c99:ay:=⟨17,[.t 2],Zr (Zo (.box 1 4 65 (.t 0))<|
 Yl 2 0)<| .seq (Zr (Zf 3 0 1<|
 dG 4 3 3 122<|
 Zu 6 5<|
 YA 7 6 3 1<|
 Zg 7 false (.call (some 10) false (.c (.fn 72 [] [])) [.t 9])<|
 Zg 7 false (.un 11 .not (.t 10))<|
 ew 12 7 11)<| .cond (.t 12) (Zr (Yl 2 1) .ret) .skip)<| .seq (Zr (YT 13 1 3<|
 Yk 15 38 14<|
 Zk 16 .leq 15 0 .nil)<| .cond (.t 16) (Zr (Yl 2 2) .ret) .skip)<|Zr (Yl 2 0) .ret⟩
theorem ajX:Qe Tryz.prog Tryz.f99=some c99:=by kernel_rfl
def am7:ay:=⟨10,[.t 2],Zr (Yh 2)<|Zr (Yo 3 0<|
 Zk 5 .gtr 4 4000<|
 Yu 6 5 0<|
 Zg 6 false (.call (some 8) false (.c (.fn 208 [] [])) [.t 7,.c (.fn 209 [] [])])<|
 Yj 9 6 8<|
 Zm 2 9 .nil) .ret⟩
theorem agn:Qe Tryz.prog Tryz.f171=some am7:=by kernel_rfl
def anL:ay:=⟨6,[.t 2],Zr (Zo (.box 1 4 95 (.t 0))<|
 Yh 2)<|Zr (Zf 3 3 1<|
 Zl 4 1 3<|
 Zq 5 false 210 [.t 4,.c (.fn 211 [] [])]<|
 Zm 2 5 .nil) .ret⟩
theorem ago:Qe Tryz.prog Tryz.f209=some anL:=by kernel_rfl
def anO:ay:=⟨5,[.t 2],Zr (Yh 2)<|Zr (Zm 3 0<|
 Zk 4 .gtr 3 1048576<|
 Zm 2 4 .nil) .ret⟩
theorem agp:Qe Tryz.prog Tryz.f211=some anO:=by kernel_rfl
def amb:ay:=⟨12,[.t 2,.t 3],Zr (Zo (.box 1 4 65 (.t 0))<|
 ia 2 0)<|Zr (eS 4 3 1 3 1<|
 YT 9 1 3<|
 Yr 8 103 5 7<|
 Yr 11 102 8 10<|
 Zm 2 11<|
 Yl 3 0) .ret⟩
theorem agq:Qe Tryz.prog Tryz.f101=some amb:=by kernel_rfl
def ama:ay:=⟨33,[.t 4,.t 5],Zr (ia 4 0)<|Zr (YE 6)<| .seq (Zr (YP 11 0)<| .block 0<| .loop<|Zr (Ys 14 13 12)<| .seq (.cond (.t 14) .skip (.exit 0))<| .seq (.block 1<|Zr (Yy 15 11 13 8 65)<|Zr (Zm 18 1<|
 Zh 19 4 8<|
 Zo (.call (some 20) false (.t 18) [.t 19])<|
 Zm 17 20<|
 Yd 21 17<|
 Zm 9 21<|
 Zm 10 22 .nil)<| .seq (Zr (Zm 23 10<|
 hO 24 23)<| .cond (.t 24) (Zr (Zm 25 10<|
 Yi 4<|
 Yc 5 25) .ret) .skip)<|Zr (YL 26 6 9 170<|
 Yc 6 28)<|Zr (Yz 29 6 171 .nil)<| .cond (.t 30) (Zr (ia 4 4) .ret) .skip)<| .rg (Yw 31 13 13))<|Zr (Zm 32 6<|
 Zm 4 32<|
 Yl 5 0) .ret⟩
theorem ag1:Qe Tryz.prog Tryz.f100=some ama:=by kernel_rfl
def c36:ay:=⟨23,[.t 2,.t 3],Zr (ia 2 0)<| .seq (Zr (YP 7 0)<| .block 0<| .loop<|Zr (Ys 10 9 8)<| .seq (.cond (.t 10) .skip (.exit 0))<| .seq (.block 1<|Zr (Yy 11 7 9 5 65)<|Zr (dG 13 4 5 99<|
 Zm 6 14 .nil)<|Zr (Zm 15 6<|
 hO 16 15)<| .cond (.t 16) (Zr (Zm 17 6<|
 Yi 2<|
 Yc 3 17) .ret) .skip)<| .rg (YD 18 9 9))<|Zr (Zm 19 0<|
 Zq 20 false 100 [.t 19,.c (.fn 101 [] [])]<|
 jF 21 20 2) .ret⟩
theorem ajY:Qe Tryz.prog Tryz.f36=some c36:=by kernel_rfl
def c41:ay:=⟨24,[.t 4],Zr (Yl 4 0)<|Zr (Yz 8 1 36<|
 Zm 7 9<|
 Yd 10 7<|
 Zm 5 10<|
 Zm 6 11 .nil)<| .seq (Zr (Zm 12 6<|
 hO 13 12)<| .cond (.t 13) (Zr (jH 14 6 4) .ret) .skip)<| .seq (Zr (Yz 15 0 72<|
 Zu 17 16<|
 qY 18 17 0 5<|
 Zg 18 false (.call (some 21) false (.c (.fn 97 [] [])) [.t 19,.t 20])<|
 Zg 18 false (.un 22 .not (.t 21))<|
 ew 23 18 22)<| .cond (.t 23) (Zr (Yl 4 17) .ret) .skip)<|Zr (Yl 4 0) .ret⟩
theorem ajZ:Qe Tryz.prog Tryz.f41=some c41:=by kernel_rfl
def c90:ay:=⟨49,[.t 4],Zr (Zo (.box 3 3 24 (.t 1))<|
 Yl 4 0)<| .seq (Zr (dG 9 3 3 52<|
 Zu 11 10 .nil)<| .cond (.t 11) (Zr (Yl 4 1) .ret) .skip)<| .seq (Zr (YP 12 0)<| .block 0<| .loop<|Zr (Ys 15 14 13)<| .seq (.cond (.t 15) .skip (.exit 0))<| .seq (.block 1<|Zr (YM 16 12 14<|
 Zm 6 17 .nil)<|Zr (Yz 18 6 135<|
 Zu 20 19 .nil)<| .cond (.t 20) (Zr (Yl 4 1) .ret) .skip)<| .rg (YD 21 14 14))<|Zr (dG 23 3 3 153<|
 Zm 22 24<|
 Yd 25 22<|
 qd 7<|
 Zs 3 7 25<|
 Yc 8 26)<| .seq (Zr (Yf 27 0 3<|
 Yo 29 0<|
 Zb 31 .neq 28 30<|
 YA 32 31 1 3<|
 Zg 32 false (.mv 35 (.t 0))<|
 Zg 32 false (.len 36 (.t 35))<|
 Zg 32 false (.bin 37 .neq false (.t 34) (.t 36))<|
 Yj 38 32 37<|
 Yu 39 38 8<|
 Zg 39 false (.bin 41 .neq false (.t 40) (.c (Zz 0)))<|
 Yj 42 39 41<|
 Zm 43 42<|
 Zg 43 false (.ld 44 3 true (.t 3))<|
 Zg 43 false (.ld 45 3 true (.t 7))<|
 Zg 43 false (.call (some 46) false (.c (.fn 154 [] [])) [.t 44,.t 45])<|
 Zg 43 false (.un 47 .not (.t 46))<|
 ew 48 43 47)<| .cond (.t 48) (Zr (Yl 4 16) .ret) .skip)<|Zr (Yl 4 0) .ret⟩
theorem aj0:Qe Tryz.prog Tryz.f90=some c90:=by kernel_rfl
def c29:ay:=⟨73,[.t 4,.t 5],Zr (Zo (.box 3 3 24 (.t 1))<|
 ia 4 0)<| .seq (Zr (Zm 16 0<|
 Zh 17 3 3<|
 Ym 18 90 16 17<|
 Zm 6 18 .nil)<|Zr (Zm 19 6<|
 hO 20 19)<| .cond (.t 20) (Zr (Zm 21 6<|
 Yi 4<|
 Yc 5 21) .ret) .skip)<|Zr (dG 23 3 3 48<|
 Zm 22 24<|
 lU 25 22<|
 qd 8<|
 Zm 7 25<|
 Zs 3 8 26<|
 Yc 9 27)<| .seq (Zr (Zm 28 9<|
 hO 29 28)<| .cond (.t 29) (Zr (Zm 30 9<|
 Yi 4<|
 Yc 5 30) .ret) .skip)<|Zr (YE 10)<| .seq (Zr (YP 31 7)<| .block 0<| .loop<|Zr (Ys 34 33 32)<| .seq (.cond (.t 34) .skip (.exit 0))<| .seq (.block 1<|Zr (Zm 35 33<|
 YI 36 3 31 33<|
 Yb 12<|
 Zm 11 35<|
 Zs 3 12 37 .nil)<| .seq (Zr (Zh 38 3 12<|
 Yk 39 38 38<|
 Zk 40 .lss 39 0 .nil)<| .cond (.t 40) (Zr (ia 4 17) .ret) .skip)<|Zr (YE 13)<| .seq (Zr (YP 41 0)<| .block 2<| .loop<|Zr (Ys 44 43 42)<| .seq (.cond (.t 44) .skip (.exit 2))<| .seq (.block 3<|Zr (ra 45 43 41 14)<| .rg (Zm 48 13<|
 vI 49 8 11 1 8 14<|
 cX 56 54 55<|
 YI 57 3 50 56<|
 Zm 59 15<|
 YG 60 58 59<|
 Yv 61 4 95 60 80 48 13))<| .rg (Yw 63 43 43))<| .rg (Zm 64 10<|
 Zh 65 3 12<|
 Zm 66 13<|
 YY 67 91 66<|
 YG 68 65 67<|
 Zo (.bs 69 4 65 [.t 68])<|
 Zo (.app 70 4 80 65 (.t 64) (.t 69))<|
 Yc 10 70))<| .rg (Yw 71 33 33))<|Zr (Zm 72 10<|
 Zm 4 72<|
 Yl 5 0) .ret⟩
theorem aj1:Qe Tryz.prog Tryz.f29=some c29:=by kernel_rfl
theorem abX{n m:Bool}{a d b c:List Nat}{k:Nat}(hp:Raw k n a d)(hq:Raw k m b c)(hk:k<2^36):Qd Tryz.prog 105 [PV.rr n a d,PV.rr m b c] (· =PV.rat (rv n a d*rv m b c)):=by
 refine aE Qg Tryz.func105 afZ fun C hP=> ?_
 refine Sz0 ?_
 refine pL hP (rS hp.la hp.ld hp.k1 hp.sa hp.sd Oz) rfl rfl rfl ?_
 rintro _ ⟨n',a',d',rfl,g1,g2,g3,g4,g5,g6⟩
 refine Sz0 ?_
 refine pL hP (rS hq.la hq.ld hq.k1 hq.sa hq.sd Oz) rfl rfl rfl ?_
 rintro _ ⟨m',b',c',rfl,e1,e2,e3,e4,e5,e6⟩
 refine Sz0 ?_
 have Ls:nl (zv n' a').natAbs<=k:=by rw[jA];exact Kao (bZ g1) g3
 have Lt:nl (zv m' b').natAbs<=k:=by rw[jA];exact Kao (bZ e1) e3
 have Ln:nl (val d')<=k:=Kao (bZ g2) g4
 have yn:nl (val c')<=k:=Kao (bZ e2) e4
 have h3:=iy (zv n' a') (zv m' b')
 have h6:=pS (val d') (val c')
 refine Qb hP (tj (n:=n') (m:=m') g1 e1 Oz Oz) ?_
 refine Sz0 ?_
 refine Qb hP (EA g2 e2 Oz Oz) ?_
 refine Sz0 ?_
 refine Qb hP (DY (z:=zv n' a'*zv m' b') (Qk _) Oz (by show nl _<_;omega)) ?_
 refine Sz0 ?_
 refine cn ?_
 refine Sz0 ?_
 refine Qc ?_ rfl
 rw[Qw,<-g6,<-e6]
 unfold rv
 rw[Rat.mkRat_mul_mkRat]
theorem AD{n:Bool}{a d:List Nat}{k:Nat}(hp:Raw k n a d)(hk:k<2^36):Qd Tryz.prog 38 [PV.rr n a d] (· = .int .i64 (gd (rv n a d))):=by
 refine aE Qg Tryz.func38 ajk fun C hP=> ?_
 refine Sz0 ?_
 refine pL hP (rS hp.la hp.ld hp.k1 hp.sa hp.sd Oz) rfl rfl rfl ?_
 rintro _ ⟨n',a',d',rfl,g1,g2,g3,g4,g5,g6⟩
 refine Sz0 ?_
 refine Qb hP (DN g1 Oz) ?_
 refine Sz0 ?_
 exact Qc (by rw[<-g6];unfold rv;rw[aby g5]) rfl
theorem MK{n m:Bool}{a d b c:List Nat}{k:Nat}(hp:Raw k n a d)(hq:Raw k m b c)(hk:k<2^36):Qd Tryz.prog 204 [PV.rr n a d,PV.rr m b c] (· = .int .i64 (oT (rv n a d) (rv m b c))):=by
 refine aE Qg Tryz.func204 afU fun C hP=> ?_
 refine Sz0 ?_
 refine Qb hP (AD hp hk) ?_
 refine Sz0 ?_
 refine Qb hP (AD hq hk) ?_
 refine Sz0 ?_
 refine Qa (fun h1=> ?_) (fun h1=> ?_)
 ·refine Sz0 ?_
  refine Qa (fun h2=> ?_) (fun h2=> ?_)
  ·refine Sz0 ?_
   exact Qc (by rw[NC h2]) rfl
  ·refine Sz0 ?_
   exact Qc (by rw[adt Oz]) rfl
 refine Sz0 ?_
 refine pL hP (rS hp.la hp.ld hp.k1 hp.sa hp.sd Oz) rfl rfl rfl ?_
 rintro _ ⟨n',a',d',rfl,g1,g2,g3,g4,g5,g6⟩
 refine Sz0 ?_
 refine pL hP (rS hq.la hq.ld hq.k1 hq.sa hq.sd Oz) rfl rfl rfl ?_
 rintro _ ⟨m',b',c',rfl,e1,e2,e3,e4,e5,e6⟩
 have Ls:nl (zv n' a').natAbs<=k:=by rw[jA];exact Kao (bZ g1) g3
 have Lt:nl (zv m' b').natAbs<=k:=by rw[jA];exact Kao (bZ e1) e3
 have Ln:nl (val d')<=k:=Kao (bZ g2) g4
 have yn:nl (val c')<=k:=Kao (bZ e2) e4
 have h3:=iy (zv n' a') (val c')
 have h4:=iy (zv m' b') (val d')
 rw[Kbh]at h3 h4
 refine Sz0 ?_
 refine Qb hP (uP _) ?_
 refine Sz0 ?_
 refine Qb hP (tj (n:=n') (m:=false) g1 e2 Oz Oz) ?_
 refine Sz0 ?_
 refine Qb hP (uP _) ?_
 refine Sz0 ?_
 refine Qb hP (tj (n:=m') (m:=false) e1 g2 Oz Oz) ?_
 rw[uX,uX]
 refine Sz0 ?_
 refine Qb hP (ade (x:=zv n' a'*(val c':Int)) (y:=zv m' b'*(val d':Int)) Oz Oz) ?_
 refine Sz0 ?_
 exact Qc (by rw[<-g6,<-e6];unfold rv;rw[Oo g5 e5]) rfl
theorem Rz{n m:Bool}{a d b c:List Nat}{k:Nat}(hp:Raw k n a d)(hq:Raw k m b c)(hk:k<2^36):Qd Tryz.prog 179 [PV.rr n a d,PV.rr m b c] (· = .bool (decide (rv n a d=rv m b c))):=by
 refine aE Qg Tryz.func179 afV fun C hP=> ?_
 refine Sz0 ?_
 refine Qb hP (MK hp hq hk) ?_
 refine Sz0 ?_
 exact Qc (congrArg PV.bool (decide_eq_decide.2 El)) rfl
theorem I0{x:Int}(h1: -9223372036854775808<=x)(h2:x<=9223372036854775807):Qd Tryz.prog 127 [.int .i64 x] (· =PV.zz x):=by
 refine aE Qg Tryz.func127 ae8 fun C hP=> ?_
 refine Sz0 ?_
 refine Qa (fun hc=> ?_) (fun hc=> ?_)
 ·obtain⟨y,hy⟩:∃y:Nat,x= -((y:Int)+1):=⟨(-(x+1)).toNat,by omega⟩
  have e1:IntKind.i64.wrap (x+1)= -(y:Int):=by rw[w6 Oz Oz];omega
  have e2:IntKind.i64.wrap (0- -(y:Int))=(y:Int):=by rw[w6 Oz Oz];omega
  have e3:IntKind.u64.wrap (y:Int)=(y:Int):=tu Oz Oz
  have e4:IntKind.u64.wrap ((y+1:Nat):Int)=((y+1:Nat):Int):=tu Oz Oz
  refine Sz4 e1 e2 e3 e4 ?_
  refine Qb hP (Fm Oz) ?_
  refine Sz0 ?_
  refine Qb hP (yH true (y+1)) ?_
  refine Sz0 ?_
  refine cn ?_
  refine Sz0 ?_
  exact Qc (congrArg PV.zz (by simp;omega)) rfl
 ·obtain⟨y,rfl⟩:∃y:Nat,x=y:=⟨x.toNat,by omega⟩
  refine Sz0 ?_
  refine Qb hP (Fm Oz) ?_
  refine Sz0 ?_
  refine Qb hP (yH false y) ?_
  refine Sz0 ?_
  refine cn ?_
  refine Sz0 ?_
  exact Qc (congrArg PV.zz (by simp)) rfl
theorem Bb{x:Int}(h1: -9223372036854775808<=x)(h2:x<=9223372036854775807):Qd Tryz.prog 61 [.int .i64 x] (· =PV.rat (x:Rat)):=by
 refine aE Qg Tryz.func61 ajj fun C hP=> ?_
 refine Sz0 ?_
 refine Qb hP (I0 h1 h2) ?_
 refine Sz0 ?_
 refine Qb hP Ep ?_
 refine Sz0 ?_
 refine cn ?_
 refine Sz0 ?_
 exact Qc (by rw[PV.rat,Rat.num_intCast,Rat.den_intCast,PV.num,PV.num,tB];rfl) rfl
theorem W1{n:Bool}{a:List Nat}(ha:Qj a)(bG:a.length<2^42):Qd Tryz.prog 185 [PV.zi n a] (· = .bool (oN n a)):=by
 refine aE Qg Tryz.func185 ae6 fun C hP=> ?_
 refine Sz0 ?_
 refine fV (fun h0=> ?_) (fun h0=> ?_)
 ·have:a=[]:=KaE.1 Oz
  subst this
  refine Sz0 ?_
  cases n
  ·refine Sz0 ?_
   refine Qc (congrArg PV.bool ?_) rfl
   simp[oN]
  ·refine Sz0 ?_
   refine Qc (congrArg PV.bool ?_) rfl
   simp[oN]
 ·obtain⟨k,hk⟩:∃k,a.length=k+1:=⟨a.length-1,by omega⟩
  have aH:a≠[]:=fun h=>by rw[h]at hk;simp at hk
  have hl:=RN hk
  have e:((k+1:Nat):Int)-1=k:=by omega
  generalize hx:a[k]'Oz=x at *
  refine Sz3 hk e hx ?_
  refine fV (fun h=> ?_) (fun h=>absurd Oz h)
  refine Sz3 hk e hx ?_
  refine Qc (congrArg PV.bool ?_) rfl
  unfold oN
  rw[if_neg aH,hl]
  exact decide_eq_decide.2 ⟨fun h h'=>h (by injection h' with h';rw[h'];rfl),fun h h'=>h (by rw[show x=0 by omega])⟩
theorem H8{n:Bool}{a d:List Nat}{k:Nat}(hp:Raw k n a d)(hk:k<2^36):Qd Tryz.prog 122 [PV.rr n a d] (· = .bool (kj n a d)):=by
 obtain⟨ha,hd,sa,sd,k1⟩:=hp
 refine aE Qg Tryz.func122 afT fun C hP=> ?_
 refine Sz0 ?_
 refine Qb hP (W1 ha Oz) ?_
 unfold kj
 refine Sz0 ?_
 cases hio:oN n a
 ·refine Sz1 @Bool.not_false ?_
  exact Qc (by simp) rfl
 rw[Kco]
 refine Sz1 @Bool.not_true ?_
 refine Qx (fun h0=> ?_) (fun h0=> ?_)
 ·have:d=[]:=KaE.1 Oz
  subst this
  refine Sz0 ?_
  exact Qc (by simp) rfl
 obtain⟨k',cf⟩:∃k,d.length=k+1:=⟨d.length-1,by omega⟩
 have aH:d≠[]:=fun h=>by rw[h]at cf;simp at cf
 have hl:=RN cf
 have e:((k'+1:Nat):Int)-1=k':=by omega
 generalize hx:d[k']'Oz=x at *
 refine Sz3 cf e hx ?_
 refine Qa (fun h1=> ?_) (fun h1=> ?_)
 ·refine Sz0 ?_
  refine Qc (congrArg PV.bool ?_) rfl
  rw[hl,show x=0 by omega];simp
 have cF:x≠0:=by omega
 refine Sz0 ?_
 refine Qb hP (EB Oz) ?_
 refine Sz0 ?_
 refine Qx (fun h2=> ?_) (fun h2=> ?_)
 ·subst h2
  refine Sz0 ?_
  refine Qc (congrArg PV.bool ?_) rfl
  simp[val]
 ·refine Sz0 ?_
  refine Qb hP (Ni ha hd Oz Oz) ?_
  have hD:0<val d:=by
   apply Kba
   intro h0
   have uj:=Bx hd (by rw[hl];simpa using cF)
   rw[h0,fI]at uj
   exact aH uj.symm
  have xP:(ak (Nat.gcd (val a) (val d))).length<2^43:=by
   have h3:=gC (Kda (val a) hD)
   have h4:=bZ hd
   unfold nl at h3 h4;omega
  refine Sz0 ?_
  refine Qb hP (JV xP) ?_
  refine Sz0 ?_
  refine Qc (congrArg PV.bool ?_) rfl
  rw[hl];simp[aH,cF]
theorem Ic{a:List Int}(hl:a.length<2^42):Qd Tryz.prog 166 [PV.mono a] (· =PV.mono (dF a)):=by
 refine aE Qg Tryz.func166 afK fun C hP=> ?_
 refine Sz0 ?_
 refine Ql dq [(3,3),(6,17)] [] (fun n J hp=>n<=a.length/\mP a n=dF a/\J 3= .int .i64 n/\hp=aA) a.length ?_ ?_
 ·refine⟨Kaf _,rfl,?_⟩
  exact Tz0
 rintro n J _ ⟨hn,hc,h3,rfl⟩
 refine Sz1 h3 ?_
 refine fV (fun hg=> ?_) (fun hg=> ?_)
 ·obtain _|n:=n
  ·omega
  have e:((n+1:Nat):Int)-1=n:=by omega
  simp only[mP]at hc
  simp+decide (disch:=try exact D2 h3 e) only[go_sem,h3,e]
  refine Qa (fun hz=> ?_) (fun hz=> ?_)
  ·rw[if_pos (by simp[hz,show n<a.length by omega])]at hc
   refine Sz2 h3 e ?_
   refine Qf n Oz ⟨by omega,hc,?_⟩
   exact Tz0
  ·rw[if_neg (by simpa[show n<a.length by omega]using hz)]at hc
   refine Sz2 h3 e ?_
   refine Qa (fun h=>by omega) (fun h=> ?_)
   refine Sz2 h3 e ?_
   exact Qc (congrArg PV.mono hc) rfl
 ·obtain rfl:n=0:=by omega
  refine Sz1 h3 ?_
  exact oI (LR (by rw[<-hc];rfl)) rfl
theorem Ay{a:List Int}(hl:a.length<2^42):Qd Tryz.prog 135 [PV.mono a] (· = .bool (cD a)):=by
 refine aE Qg Tryz.func135 afL fun C hP=> ?_
 refine Sz0 ?_
 have bad:(64<a.length∨a.getLast? =some 0∨∃x∈a,x<0∨1048576<x)->cD a=false:=fun h=>by
  cases hb:cD a with
  |false=>rfl
  |true=>
   have:=MB.sY hb
   simp only[cD,Kar,decide_eq_true_eq]at hb
   rcases h with h|h|⟨x,hx,h⟩
   ·omega
   ·exact absurd h hb.2.1
   ·have h5:=this.lo x hx;have h6:=this.hi x hx;omega
 refine Qx (fun h1=> ?_) (fun h1=> ?_)
 ·refine Sz0 ?_
  exact Qc (by rw[bad (.inl Oz)]) rfl
 refine Sz0 ?_
 have fin:a.length<=64->a.getLast? ≠some 0->(∀x∈a,0<=x/\x<=1048576)->cD a=true:=fun h1 h2 h3=>by
  simp only[cD,Kar,decide_eq_true_eq,Kas];exact⟨h1,h2,h3⟩
 refine fV (fun h2=> ?_) (fun h2=> ?_)
 ·obtain⟨k,hk⟩:∃k,a.length=k+1:=⟨a.length-1,by omega⟩
  have iq:=I9 hk
  have e:((k+1:Nat):Int)-1=k:=by omega
  generalize hy:a[k]'Oz=y at *
  refine Sz3 hk e hy ?_
  refine Qa (fun h3=> ?_) (fun h3=> ?_)
  ·refine Sz0 ?_
   exact Qc (by rw[bad (.inr (.inl (by rw[iq,h3])))]) rfl
  have iq:a.getLast? ≠some 0:=by rw[iq];simpa using h3
  rw[<-hk]at *
  refine Sz0 ?_
  refine Ql dq [(2,2),(4,4),(24,34)] [] (fun k J hp=>∃i,k=a.length-i/\i<=a.length/\(∀x∈a.take i,0<=x/\x<=1048576)/\J 24= .int .i64 i/\hp=aA) a.length ?_ ?_
  ·refine⟨0,rfl,by omega,by simp,?_⟩
   refine Sz0 ?_
   rfl
  rintro _ J _ ⟨i,rfl,hi,cH,iD,rfl⟩
  refine Sz1 iD ?_
  refine Qa (fun hg=> ?_) (fun hg=> ?_)
  ·have ao:i<a.length:=by omega
   have dn:=Kai ao
   have aW:∀x∈a.take (i+1),x∈a.take i∨x=a[i]:=fun x hx=>by
    rw[Kak ao]at hx
    rcases KaK.1 hx with h|h
    ·exact .inl h
    ·exact .inr (KaB.1 h)
   generalize hx:a[i]=x at *
   refine Sz2 iD hx ?_
   refine Qx (fun h5=> ?_) (fun h5=> ?_)
   ·refine Sz0 ?_
    exact Qc (by rw[bad (.inr (.inr ⟨x,dn,.inl h5⟩))]) rfl
   ·refine Sz0 ?_
    refine Qa (fun h6=> ?_) (fun h6=> ?_)
    ·refine Sz0 ?_
     exact Qc (by rw[bad (.inr (.inr ⟨x,dn,.inr h6⟩))]) rfl
    ·refine Sz1 iD ?_
     refine Qf (a.length-(i+1)) Oz ⟨i+1,rfl,by omega,fun y hy=> ?_,?_⟩
     ·rcases aW y hy with h|rfl
      ·exact cH y h
      ·omega
     ·exact Tz0
  ·rw[Kac Oz]at cH
   refine Sz0 ?_
   exact Qc (by rw[fin Oz iq cH]) rfl
 ·have K6:a=[]:=KaE.1 Oz
  have iq:a.getLast? ≠some 0:=by rw[K6];simp
  refine Sz0 ?_
  refine Ql dq [(2,2),(4,4),(24,34)] [] (fun k J hp=>∃i,k=a.length-i/\i<=a.length/\(∀x∈a.take i,0<=x/\x<=1048576)/\J 24= .int .i64 i/\hp=aA) a.length ?_ ?_
  ·refine⟨0,rfl,by omega,by simp,?_⟩
   refine Sz0 ?_
   rfl
  rintro _ J _ ⟨i,rfl,hi,cH,iD,rfl⟩
  refine Sz1 iD ?_
  refine Qa (fun hg=> ?_) (fun hg=> ?_)
  ·have ao:i<a.length:=by omega
   have dn:=Kai ao
   have aW:∀x∈a.take (i+1),x∈a.take i∨x=a[i]:=fun x hx=>by
    rw[Kak ao]at hx
    rcases KaK.1 hx with h|h
    ·exact .inl h
    ·exact .inr (KaB.1 h)
   generalize hx:a[i]=x at *
   refine Sz2 iD hx ?_
   refine Qx (fun h5=> ?_) (fun h5=> ?_)
   ·refine Sz0 ?_
    exact Qc (by rw[bad (.inr (.inr ⟨x,dn,.inl h5⟩))]) rfl
   ·refine Sz0 ?_
    refine Qa (fun h6=> ?_) (fun h6=> ?_)
    ·refine Sz0 ?_
     exact Qc (by rw[bad (.inr (.inr ⟨x,dn,.inr h6⟩))]) rfl
    ·refine Sz1 iD ?_
     refine Qf (a.length-(i+1)) Oz ⟨i+1,rfl,by omega,fun y hy=> ?_,?_⟩
     ·rcases aW y hy with h|rfl
      ·exact cH y h
      ·omega
     ·exact Tz0
  ·rw[Kac Oz]at cH
   refine Sz0 ?_
   exact Qc (by rw[fin Oz iq cH]) rfl
theorem RA{a:List Int}(hl:a.length<2^42):Qd Tryz.prog 156 [PV.mono a] (· =PV.mono (if cD (dF a)then dF a else [])):=by
 have ht:=uN a
 refine aE Qg Tryz.func156 afM fun C hP=> ?_
 refine Sz0 ?_
 refine Qb hP (Ic hl) ?_
 refine Sz0 ?_
 refine Qb hP (Ay Oz) ?_
 refine Sz0 ?_
 cases cb:cD (dF a)
 ·refine Sz1 @Bool.not_false ?_
  exact oI (LR (by simp)) rfl
 ·have:(dF a).length<=64:=(MB.sY cb).len
  refine qc @Bool.not_true ?_
  exact Qc (by simp[Kac]) rfl
theorem HS{a:List Int}(hl:a.length<=1048576)(hb:∀x∈a,0<=x/\x<=1099511627776):Qd Tryz.prog 114 [PV.mono a] (· = .int .i64 (dj a)):=by
 refine aE Qg Tryz.func114 afN fun C hP=> ?_
 refine Sz0 ?_
 refine Ql dq [(3,3),(5,5),(8,15)] [] (fun k J hp=>∃(i:Nat)(s:Int),k=a.length-i/\i<=a.length/\0<=s/\s<=1099511627776*i/\s+(a.drop i).sum=dj a/\J 8= .int .i64 (i:Nat)/\J 3= .int .i64 s/\hp=aA) a.length ?_ ?_
 ·refine⟨0,0,rfl,by omega,by omega,by omega,by simp[dj],?_⟩
  refine Sz0 ?_
  simp
 rintro _ J _ ⟨i,s,rfl,hi,gz,eT,pw,h8,h3,rfl⟩
 refine Sz2 h8 h3 ?_
 refine Qa (fun hg=> ?_) (fun hg=> ?_)
 ·have ao:i<a.length:=by omega
  have hx:=hb _ (Kai ao)
  rw[Kaw ao,KcR]at pw
  generalize dJ:a[i]=x at *
  refine Sz3 h8 h3 dJ ?_
  refine Qf (a.length-(i+1)) Oz ⟨i+1,s+x,rfl,by omega,by omega,by push_cast;omega,by omega,?_⟩
  exact Tz0
 ·rw[Kan Oz,List.sum_nil,Int.add_zero]at pw
  refine Sz1 h3 ?_
  exact Qc (by rw[pw]) rfl
theorem aak{a:List Int}{v:Int}(hl:a.length<2^42):Qd Tryz.prog 223 [PV.mono a,.int .i64 v] (· = .int .i64 (if v<0 then 0 else eN a v.toNat)):=by
 refine aE Qg Tryz.func223 afO fun C hP=> ?_
 refine Sz0 ?_
 refine Qx (fun h1=> ?_) (fun h1=> ?_)
 ·refine Sz0 ?_
  exact Qc (by rw[if_pos h1]) rfl
 ·obtain⟨n,rfl⟩:∃n:Nat,v=n:=⟨v.toNat,by omega⟩
  rw[if_neg h1]
  refine Sz0 ?_
  refine Qa (fun h2=> ?_) (fun h2=> ?_)
  ·refine Sz0 ?_
   exact Qc (by rw[gW Oz]) rfl
  ·have hn:n<a.length:=by omega
   refine Sz0 ?_
   exact Qc (by rw[fw hn]) rfl
theorem Er{a:List Int}{i:Nat}(hl:a.length<2^42):Qd Tryz.prog 223 [PV.mono a,.int .i64 i] (· = .int .i64 (eN a i)):=by
 have:=aak (v:=i) hl
 rwa[if_neg Oz,Kcz]at this
theorem Qz4{a b:List Int}{f:Nat}{g:Int->Int->Int}(bG:a.length<2^40)(dx:b.length<2^40)(hf:∀i,Qd Tryz.prog f [.int .i64 (eN a i),.int .i64 (eN b i)] (· = .int .i64 (g (eN a i) (eN b i)))):
  Qd Tryz.prog 167 [PV.mono a,PV.mono b,.fn f [] []] (· =PV.mono (ks g a b)):=by
 refine aE Qg Tryz.func167 afJ fun C hP=> ?_
 refine Sz0 ?_
 refine Ql dq [(8,10),(19,45)] [] (fun k J hp=>∃i,k=max a.length b.length-i/\i<=max a.length b.length/\J 19= .int .i64 (i:Nat)/\hp=Qi aA 16 ⟨1,3,pY ((ks g a b).take i++List.replicate (max a.length b.length-i) 0),false⟩) (max a.length b.length) ?_ ?_
 ·refine⟨0,rfl,by omega,?_⟩
  refine Sz0 ?_
  simp
 rintro _ J _ ⟨i,rfl,hi,lX,rfl⟩
 refine Sz1 lX ?_
 refine Qa (fun hg=> ?_) (fun hg=> ?_)
 ·have ao:i<max a.length b.length:=by omega
  have lj:=hf i
  have uz:((ks g a b).take i).length=i:=by rw[KaI,pK];omega
  have kH:=fun v=>abz (v:=v) (z:=(0:Int)) uz (show 0<max a.length b.length-i by omega)
  have hlen:i<((ks g a b).take i++List.replicate (max a.length b.length-i) (0:Int)).length:=by rw[Kax,uz,List.length_replicate];omega
  have aW:=IL (g:=g) ao
  have fin:∀x y,x=eN a i->y=eN b i->Qd Tryz.prog f [.int .i64 x,.int .i64 y] (· = .int .i64 (g (eN a i) (eN b i))):=by rintro _ _ rfl rfl;exact lj
  refine Sz1 lX ?_
  refine Qa (fun h1=> ?_) (fun h1=> ?_)
  ·have lh:i<a.length:=by omega
   simp+decide (disch:=try exact D1 lX) only[go_sem,lX]
   refine Qa (fun h2=> ?_) (fun h2=> ?_)
   ·have lY:i<b.length:=by omega
    simp+decide (disch:=try exact D1 lX) only[go_sem,lX]
    refine Qb hP (fin _ _ (fw lh).symm (fw lY).symm) ?_
    simp+decide (disch:=first|omega|rfl|(simp+decide only[go_sem,lX,kH,<-aW]<;>rfl)|fail) only[go_sem,lX,kH,<-aW]
    refine Qf (max a.length b.length-(i+1)) Oz ⟨i+1,rfl,by omega,?_⟩
    exact Tz1 @Nat.sub_sub
   ·refine Sz1 lX ?_
    refine Qb hP (fin _ _ (fw lh).symm (gW Oz).symm) ?_
    simp+decide (disch:=first|omega|rfl|(simp+decide only[go_sem,lX,kH,<-aW]<;>rfl)|fail) only[go_sem,lX,kH,<-aW]
    refine Qf (max a.length b.length-(i+1)) Oz ⟨i+1,rfl,by omega,?_⟩
    exact Tz1 @Nat.sub_sub
  ·refine Sz1 lX ?_
   refine Qa (fun h2=> ?_) (fun h2=>by omega)
   have lY:i<b.length:=by omega
   simp+decide (disch:=try exact D1 lX) only[go_sem,lX]
   refine Qb hP (fin _ _ (gW Oz).symm (fw lY).symm) ?_
   simp+decide (disch:=first|omega|rfl|(simp+decide only[go_sem,lX,kH,<-aW]<;>rfl)|fail) only[go_sem,lX,kH,<-aW]
   refine Qf (max a.length b.length-(i+1)) Oz ⟨i+1,rfl,by omega,?_⟩
   exact Tz1 @Nat.sub_sub
 ·obtain rfl:i=max a.length b.length:=by omega
  refine gJ ?_
  exact Qc (by simp[Kac,pK]) rfl
theorem XM{x y:Int}(h1: -9223372036854775808<=x+y)(h2:x+y<=9223372036854775807):Qd Tryz.prog 168 [.int .i64 x,.int .i64 y] (· = .int .i64 (x+y)):=by
 refine aE Qg Tryz.func168 agr fun C hP=> ?_
 refine Sz0 ?_
 exact Qc rfl rfl
theorem Su{k:Nat}{a b:List Int}(ha:MB k a)(hb:MB k b)(hk:k<=1099511627776):Qd Tryz.prog 96 [PV.mono a,PV.mono b] (· =PV.mono (bp a b)):=by
 have h1:=ha.len
 have h2:=hb.len
 have hz:=pK (· + ·) a b
 refine aE Qg Tryz.func96 ajv fun C hP=> ?_
 refine Sz0 ?_
 refine Qb hP (Qz4 (f:=168) (g:=(· + ·)) Oz Oz (fun i=>XM (by have:=ha.eN i;have:=hb.eN i;omega) (by have:=ha.eN i;have:=hb.eN i;omega))) ?_
 refine Sz0 ?_
 refine Qb hP (Ic Oz) ?_
 refine Sz0 ?_
 exact Qc rfl rfl
theorem XN{a:List Int}(hl:a.length<2^42):Qd Tryz.prog 104 [PV.mono a] (· = .int .i64 ((dF a).length-1)):=by
 have:=uN a
 refine aE Qg Tryz.func104 afP fun C hP=> ?_
 refine Sz0 ?_
 refine Qb hP (Ic hl) ?_
 refine Sz0 ?_
 exact Qc rfl rfl
theorem IC{k:Nat}{a b:List Int}{o:Int}(ha:MB k a)(hb:MB k b)(hk:k<=1099511627776):Qd Tryz.prog 193 [PV.mono a,PV.mono b,.int .i64 o] (· = .int .i64 (kt o a b)):=by
 have h1:=ha.len
 have h2:=hb.len
 have gM:∀x∈a,0<=x/\x<=1099511627776:=fun x hx=>by have:=ha.lo x hx;have:=ha.hi x hx;omega
 have jq:∀x∈b,0<=x/\x<=1099511627776:=fun x hx=>by have:=hb.lo x hx;have:=hb.hi x hx;omega
 refine aE Qg Tryz.func193 ags fun C hP=> ?_
 refine Sz0 ?_
 refine Qa (fun ho=> ?_) (fun ho=> ?_)
 ·refine Sz0 ?_
  refine Qb hP (HS Oz gM) ?_
  refine Sz0 ?_
  refine Qb hP (HS Oz jq) ?_
  refine Sz0 ?_
  refine Qa (fun hd=> ?_) (fun hd=> ?_)
  ·have kG:kt o a b=dC (dj a) (dj b):=by unfold kt;rw[if_pos ⟨ho,hd⟩]
   refine Sz0 ?_
   refine Qa (fun h5=> ?_) (fun h5=> ?_)
   ·refine Sz0 ?_
    exact Qc (by rw[kG,dC,if_pos h5]) rfl
   ·refine Sz0 ?_
    exact Qc (by rw[kG,dC,if_neg h5,if_pos Oz]) rfl
  have kG:kt o a b=aX a b:=by unfold kt;rw[if_neg (fun h=>hd h.2)]
  refine Sz0 ?_
  refine Ql dq [(6,6),(9,11),(30,45)] [] (fun n J hp=>n<=max a.length b.length/\dP a b n=aX a b/\J 9= .int .i64 ((n:Int)-1)/\hp=aA) (max a.length b.length) ?_ ?_
  ·refine⟨by omega,rfl,?_⟩
   exact Tz0
  rintro n J _ ⟨hn,hc,h9,rfl⟩
  refine Sz1 h9 ?_
  refine Qa (fun hg=> ?_) (fun hg=> ?_)
  ·obtain _|n:=n
   ·omega
   have e:((n+1:Nat):Int)-1=n:=by omega
   rw[dP]at hc
   refine Sz2 h9 e ?_
   refine Qb hP (Er Oz) ?_
   refine Sz2 h9 e ?_
   refine Qb hP (Er Oz) ?_
   refine Sz2 h9 e ?_
   refine Qa (fun h4=> ?_) (fun h4=> ?_)
   ·rw[if_neg h4]at hc
    refine Sz2 h9 e ?_
    refine Qa (fun h5=> ?_) (fun h5=> ?_)
    ·refine Sz2 h9 e ?_
     exact Qc (by rw[kG,<-hc,dC,if_pos h5]) rfl
    ·refine Sz2 h9 e ?_
     exact Qc (by rw[kG,<-hc,dC,if_neg h5,if_pos Oz]) rfl
   ·rw[if_pos Oz]at hc
    refine Sz2 h9 e ?_
    refine Qf n Oz ⟨by omega,hc,?_⟩
    exact Tz0
  ·obtain rfl:n=0:=by omega
   refine Sz0 ?_
   exact Qc (by rw[kG,<-hc];rfl) rfl
 ·have kG:kt o a b=aX a b:=by unfold kt;rw[if_neg (fun h=>ho h.1)]
  refine Sz0 ?_
  refine Ql dq [(6,6),(9,11),(30,45)] [] (fun n J hp=>n<=max a.length b.length/\dP a b n=aX a b/\J 9= .int .i64 ((n:Int)-1)/\hp=aA) (max a.length b.length) ?_ ?_
  ·refine⟨by omega,rfl,?_⟩
   exact Tz0
  rintro n J _ ⟨hn,hc,h9,rfl⟩
  refine Sz1 h9 ?_
  refine Qa (fun hg=> ?_) (fun hg=> ?_)
  ·obtain _|n:=n
   ·omega
   have e:((n+1:Nat):Int)-1=n:=by omega
   rw[dP]at hc
   refine Sz2 h9 e ?_
   refine Qb hP (Er Oz) ?_
   refine Sz2 h9 e ?_
   refine Qb hP (Er Oz) ?_
   refine Sz2 h9 e ?_
   refine Qa (fun h4=> ?_) (fun h4=> ?_)
   ·rw[if_neg h4]at hc
    refine Sz2 h9 e ?_
    refine Qa (fun h5=> ?_) (fun h5=> ?_)
    ·refine Sz2 h9 e ?_
     exact Qc (by rw[kG,<-hc,dC,if_pos h5]) rfl
    ·refine Sz2 h9 e ?_
     exact Qc (by rw[kG,<-hc,dC,if_neg h5,if_pos Oz]) rfl
   ·rw[if_pos Oz]at hc
    refine Sz2 h9 e ?_
    refine Qf n Oz ⟨by omega,hc,?_⟩
    exact Tz0
  ·obtain rfl:n=0:=by omega
   refine Sz0 ?_
   exact Qc (by rw[kG,<-hc];rfl) rfl
theorem vo{a b:Rat}{k:Nat}(ha:rs a<=k)(hb:rs b<=k)(hk:k<2^36):Qd Tryz.prog 107 [PV.rat a,PV.rat b] (· =PV.rat (a+b)):=by
 have:=IP (eW ha) (eW hb) hk
 rwa[dE,dE]at this
theorem nL{a b:Rat}{k:Nat}(ha:rs a<=k)(hb:rs b<=k)(hk:k<2^36):Qd Tryz.prog 105 [PV.rat a,PV.rat b] (· =PV.rat (a*b)):=by
 have:=abX (eW ha) (eW hb) hk
 rwa[dE,dE]at this
theorem akH{a b:Rat}{k:Nat}(ha:rs a<=k)(hb:rs b<=k)(hk:k<2^36):Qd Tryz.prog 204 [PV.rat a,PV.rat b] (· = .int .i64 (oT a b)):=by
 have:=MK (eW ha) (eW hb) hk
 rwa[dE,dE]at this
theorem ag2{a b:Rat}{k:Nat}(ha:rs a<=k)(hb:rs b<=k)(hk:k<2^36):Qd Tryz.prog 179 [PV.rat a,PV.rat b] (· = .bool (decide (a=b))):=by
 have:=Rz (eW ha) (eW hb) hk
 rwa[dE,dE]at this
theorem mH{a:Rat}(ha:rs a<2^36):Qd Tryz.prog 38 [PV.rat a] (· = .int .i64 (gd a)):=by
 have:=AD (eW (Kaf (rs a))) ha
 rwa[dE]at this
theorem Sv{s t:Tm}{E:Nat}(hs:MB E s.2)(ht:MB E t.2)(hE:E<=2^38):Qd Tryz.prog 136 [PV.term s,PV.term t] (· = .int .i64 (aX s.2 t.2)):=by
 refine aE Qg Tryz.func136 O7 fun C hP=> ?_
 refine Sz0 ?_
 refine Qb hP (IC (o:=0) hs ht Oz) ?_
 refine Sz0 ?_
 exact Qc (by rw[BH]) rfl
theorem W2{s t:Tm}{k:Nat}(hs:rs s.1<=k)(ht:rs t.1<=k)(hk:k<2^34):Qd Tryz.prog 207 [PV.term s,PV.term t] (· = .aI [PV.term (s.1+t.1,s.2),.bool (decide (¬s.1+t.1=0))]):=by
 have hr:=ki s.1 t.1
 refine aE Qg Tryz.func207 agu fun C hP=> ?_
 refine Sz0 ?_
 refine Qb hP (vo (a:=s.1) (b:=t.1) hs ht Oz) ?_
 refine Sz0 ?_
 refine Qb hP (mH (a:=s.1+t.1) Oz) ?_
 refine Sz0 ?_
 refine nH ?_
 refine Sz0 ?_
 exact gI rfl rfl rfl (Qn _) (uW (congrArg PV.bool (decide_eq_decide.2 (not_congr dz))))
theorem Rf{c:Rat}{m:List Int}(hc:rs c<2^36):Qd Tryz.prog 155 [PV.rat c,PV.mono m] (· =PV.aM (if c=0 then []else [(c,m)])):=by
 refine aE Qg Tryz.func155 agv fun C hP=> ?_
 refine Sz0 ?_
 refine Qb hP (mH (a:=c) hc) ?_
 refine Sz0 ?_
 refine Qa (fun h0=> ?_) (fun h0=> ?_)
 ·rw[if_pos (dz.1 h0)]
  refine Sz0 ?_
  exact oI I' rfl
 ·rw[if_neg (fun h=>h0 (dz.2 h))]
  refine gJ ?_
  exact Qc rfl rfl
theorem W3{p q:List Tm}{K E:Nat}(hp:PB K E p)(hq:PB K E q)(hK:K<=2^33)(hE:E<=2^38)(dm:p.length<=2^36)(nf:q.length<=2^36):
  Qd Tryz.prog 206 [PV.aM p,PV.aM q,.fn 136 [] [],.fn 207 [] []] (· =PV.aM (aN p q)):=by
 refine aE Qg Tryz.func206 agt fun C hP=> ?_
 refine Sz0 ?_
 refine Ql dq [(9,14),(21,86)] [13,20,57,58,71,72,83,84] (fun n J hp=>∃i k out,n=(p.length-i)+(q.length-k)/\i<=p.length/\k<=q.length/\out.length<=i+k/\out++aN (p.drop i) (q.drop k)=aN p q/\
  J 9= .ms 20 out.length/\J 10= .int .i64 (i:Nat)/\J 11= .int .i64 (k:Nat)/\hp 20=some ⟨4,95,out.map PV.term,false⟩) (p.length+q.length) ?_ ?_
 ·refine⟨0,0,[],by omega,by omega,by omega,by simp,rfl,?_⟩
  refine Sz0 ?_
  simp
 rintro _ J h ⟨i,k,out,rfl,hi,hk,fQ,dU,h9,bl,ct,hh⟩
 refine Sz3 h9 bl ct ?_
 refine fV (fun hg=> ?_) (fun hg=> ?_)
 ·have ao:i<p.length:=by omega
  refine Sz3 h9 bl ct ?_
  refine Qa (fun eZ=> ?_) (fun eZ=> ?_)
  ·have cf:k<q.length:=by omega
   have cJ:=hp.get ao
   have pz:=hq.get cf
   rw[LS ao cf]at dU
   have c1:=cJ.c
   have c2:=pz.c
   generalize hx:p[i]=x at *
   generalize hy:q[k]=y at *
   refine Sz5 h9 bl ct hx hy ?_
   refine Qb hP (Sv (s:=x) (t:=y) cJ.m pz.m hE) ?_
   refine Sz5 h9 bl ct hx hy ?_
   refine Qa (fun hc=> ?_) (fun hc=> ?_)
   ·rw[if_pos hc]at dU
    refine Sz5 h9 bl ct hx hy ?_
    rw[Qq (f:=PV.term) (y:=x) (xs:=out) (ty':=95) (fz:=false) (Tz1 hh) cP Oz rfl Oz Oz]
    refine Sz5 h9 bl ct hx hy ?_
    refine Qf ((p.length-(i+1))+(q.length-k)) Oz ⟨i+1,k,out++[x],rfl,by omega,hk,by simp;omega,by simpa using dU,?_⟩
    refine Sz3 h9 bl ct ?_
    simp
   rw[if_neg hc]at dU
   refine Sz5 h9 bl ct hx hy ?_
   refine Qa (fun ie=> ?_) (fun ie=> ?_)
   ·rw[if_pos ie]at dU
    refine Sz5 h9 bl ct hx hy ?_
    rw[Qq (f:=PV.term) (y:=y) (xs:=out) (ty':=95) (fz:=false) (Tz1 hh) cP Oz rfl Oz Oz]
    refine Sz5 h9 bl ct hx hy ?_
    refine Qf ((p.length-i)+(q.length-(k+1))) Oz ⟨i,k+1,out++[y],rfl,hi,by omega,by simp;omega,by simpa using dU,?_⟩
    refine Sz3 h9 bl ct ?_
    simp
   rw[if_neg ie]at dU
   refine Sz5 h9 bl ct hx hy ?_
   refine jO ?_ ?_
   all_goals
    refine Sz5 h9 bl ct hx hy ?_
    refine Qb hP (W2 (s:=x) (t:=y) (k:=2^33) Oz Oz Oz) ?_
    refine Sz5 h9 bl ct hx hy ?_
    refine Qa (fun hz=> ?_) (fun hz=> ?_)
    ·rw[if_neg hz]at dU
     refine Sz5 h9 bl ct hx hy ?_
     rw[Qq (f:=PV.term) (y:=(x.1+y.1,x.2)) (xs:=out) (ty':=95) (fz:=false) (Tz1 hh) cP Oz rfl Oz Oz]
     refine Sz5 h9 bl ct hx hy ?_
     refine Qf ((p.length-(i+1))+(q.length-(k+1))) Oz ⟨i+1,k+1,out++[(x.1+y.1,x.2)],rfl,by omega,by omega,by simp;omega,by simpa using dU,?_⟩
     refine Sz3 h9 bl ct ?_
     simp
    ·rw[if_pos (Decidable.not_not.1 hz)]at dU
     refine Sz5 h9 bl ct hx hy ?_
     refine Qf ((p.length-(i+1))+(q.length-(k+1))) Oz ⟨i+1,k+1,out,rfl,by omega,by omega,by omega,dU,?_⟩
     exact Tz4 h9 bl ct hh
  ·have fm:(out++p.drop i++q.drop k).take (out.length+(p.drop i).length+(q.drop k).length)=aN p q:=by
    rw[Kac (by simp;omega),<-dU,Kan (by omega:q.length<=k),nD,Kam]
   refine Sz3 h9 bl ct ?_
   rw[mE (f:=PV.term) (xs:=out) (ys:=p.drop i) (Tz1 hh) rfl Oz (by simp;omega) (by simp;omega)]
   refine Sz3 h9 bl ct ?_
   rw[mE (f:=PV.term) (xs:=out++p.drop i) (ys:=q.drop k) Tz0 (by simp) Oz (by simp;omega) (by simp;omega)]
   refine xu h9 bl ct ?_
   exact Qc (by rw[<-List.map_take,fm]) rfl
 ·have fm:(out++p.drop i++q.drop k).take (out.length+(p.drop i).length+(q.drop k).length)=aN p q:=by
   rw[Kac (by simp;omega),<-dU,Kan (by omega:p.length<=i),wU,Kam]
  refine Sz3 h9 bl ct ?_
  rw[mE (f:=PV.term) (xs:=out) (ys:=p.drop i) (Tz1 hh) rfl Oz (by simp;omega) (by simp;omega)]
  refine Sz3 h9 bl ct ?_
  rw[mE (f:=PV.term) (xs:=out++p.drop i) (ys:=q.drop k) Tz0 (by simp) Oz (by simp;omega) (by simp;omega)]
  refine xu h9 bl ct ?_
  exact Qc (by rw[<-List.map_take,fm]) rfl
theorem Sw{p q:List Tm}{K E:Nat}(hp:PB K E p)(hq:PB K E q)(hK:K<=2^33)(hE:E<=2^38)(dm:p.length<=2^36)(nf:q.length<=2^36):
  Qd Tryz.prog 170 [PV.aM p,PV.aM q] (· =PV.aM (aN p q)):=by
 refine aE Qg Tryz.func170 agy fun C hP=> ?_
 refine Sz0 ?_
 refine Qb hP (W3 hp hq hK hE dm nf) ?_
 refine Sz0 ?_
 exact Qc rfl rfl
theorem ID{K E:Nat}(hE:E<=2^38):∀(n:Nat)(l:List (List Tm)),l.length<=n->(∀p∈l,PB K E p)->l.length*K<=2^33->l.length<=2^36->pZ l<=2^36->Qd Tryz.prog 157 [PV.arA l] (· =PV.aM (eJ l)):=by
 intro n
 induction n with
 |zero=>
  intro l hl _ _ _ _
  have:l=[]:=KaE.1 Oz
  subst this
  refine aE Qg Tryz.func157 O8 fun C hP=> ?_
  simp+decide (disch:=first|omega|rfl|(simp+decide only[go_sem,Kbw,Kbn]<;>rfl)|fail) only[go_sem,Kbw,Kbn]
  exact oI (IM (by rw[eJ])) rfl
 | succ n ih=>
  intro l hl hb hK gP bx
  refine aE Qg Tryz.func157 O8 fun C hP=> ?_
  refine Sz0 ?_
  refine Qa (fun h0=> ?_) (fun h0=> ?_)
  ·have:l=[]:=KaE.1 Oz
   subst this
   refine Sz0 ?_
   exact oI (IM (by rw[eJ])) rfl
  refine Sz0 ?_
  refine Qa (fun h1=> ?_) (fun h1=> ?_)
  ·obtain⟨p,rfl⟩:∃p,l=[p]:=KcE.1 Oz
   simp+decide (disch:=first|omega|rfl|(simp+decide only[go_sem,Kbd,Kbw]<;>rfl)|fail) only[go_sem,Kbd,Kbw]
   exact Qc (by rw[eJ];rfl) rfl
  have h2:2<=l.length:=by omega
  have hs:=SG l (l.length/2)
  have e:(2:Int)=((2:Nat):Int):=rfl
  have hq:∀d fr hp K,ca .quo false (.int .i64 (l.length:Int)) (.int .i64 2) d fr hp K=K (ae fr d (.int .i64 ((l.length/2:Nat):Int))) hp:=fun d fr hp K=>by
   rw[e,Fg Oz Oz]
  have b1:=DW (K:=K) (E:=E) _ (l.take (l.length/2)) (Kaf _) (fun p hp=>hb p (Kbf hp))
  have b2:=DW (K:=K) (E:=E) _ (l.drop (l.length/2)) (Kaf _) (fun p hp=>hb p (KbM hp))
  have l1:(l.take (l.length/2)).length*K<=l.length*K:=Kah _ (by rw[KaI];omega)
  have l2:(l.drop (l.length/2)).length*K<=l.length*K:=Kah _ (by rw[Ka7];omega)
  refine Sz1 hq ?_
  refine Qb hP (ih (l.take (l.length/2)) (by rw[KaI];omega) (fun p hp=>hb p (Kbf hp)) Oz (by rw[KaI];omega) Oz) ?_
  refine Sz1 hq ?_
  refine Qb hP (ih (l.drop (l.length/2)) (by rw[Ka7];omega) (fun p hp=>hb p (KbM hp)) Oz (by rw[Ka7];omega) Oz) ?_
  refine Sz1 hq ?_
  refine Qb hP (Sw (b1.1.mono (K':=l.length*K) l1 (Kaf _)) (b2.1.mono l2 (Kaf _)) hK hE Oz Oz) ?_
  refine Sz0 ?_
  exact Qc (by rw[AX h2]) rfl
theorem Ie{p:List Tm}{t:Tm}{i:Nat}(h:i<p.length):bQ (p.take (i+1)) t=bQ (p.take i) t++(if p[i].1*t.1=0 then []else [(p[i].1*t.1,bp p[i].2 t.2)]):=by
 rw[Kak h,bQ,List.filterMap_append,bQ]
 congr 1
 simp only[Kb9,Kcp]
 split<;>split<;>simp_all
theorem HY{p:List Tm}{t:Tm}{K E:Nat}(hp:PB K E p)(ht:TB K E t)(hK:K<=2^33)(hE:E<=2^38)(dm:p.length<=2^36):
  Qd Tryz.prog 172 [PV.aM p,PV.term t] (· =PV.aM (bQ p t)):=by
 refine aE Qg Tryz.func172 agz fun C hP=> ?_
 refine Sz0 ?_
 refine Ql dq [(5,5),(7,8),(14,36)] [7,8,11,34,35] (fun n J hp=>∃i,n=p.length-i/\i<=p.length/\J 5= .ms 11 (bQ (p.take i) t).length/\J 14= .int .i64 (i:Nat)/\hp 3=some ⟨4,95,[PV.term t],false⟩/\hp 11=some ⟨4,95,(bQ (p.take i) t).map PV.term,false⟩) p.length ?_ ?_
 ·refine⟨0,rfl,by omega,?_⟩
  refine Sz0 ?_
  simp[bQ]
 rintro _ J h ⟨i,rfl,hi,h5,fh,bR,Gl⟩
 refine Sz2 h5 fh ?_
 refine Qa (fun hg=> ?_) (fun hg=> ?_)
 ·have ao:i<p.length:=by omega
  have cJ:=hp.get ao
  have aW:=Ie (t:=t) ao
  have hlen:=wK (p.take i) t
  rw[KaI]at hlen
  have c1:=cJ.c
  have c2:=ht.c
  have Ad:=eX p[i].1 t.1
  generalize hx:p[i]=x at *
  refine Sz4 h5 fh bR hx ?_
  refine Qb hP (nL (a:=x.1) (b:=t.1) (k:=2^33) Oz Oz Oz) ?_
  refine Sz4 h5 fh bR hx ?_
  refine Qb hP (mH (a:=x.1*t.1) Oz) ?_
  refine Sz4 h5 fh bR hx ?_
  refine Qa (fun hz=> ?_) (fun hz=> ?_)
  ·rw[if_neg (fun h=>hz (dz.2 h))]at aW
   refine Sz4 h5 fh bR hx ?_
   refine Qb hP (Su cJ.m ht.m Oz) ?_
   refine Sz4 h5 fh bR hx ?_
   rw[Qq (f:=PV.term) (y:=(x.1*t.1,bp x.2 t.2)) (xs:=bQ (p.take i) t) (ty':=95) (fz:=false) (Tz1 Gl) cP Oz rfl Oz Oz]
   rw[<-aW]
   refine Sz4 h5 fh bR hx ?_
   refine Qf (p.length-(i+1)) Oz ⟨i+1,rfl,by omega,?_⟩
   rw[aW]
   simp+decide (disch:=first|omega|rfl|(simp+decide only[go_sem,h5,fh,bR,Kax]<;>rfl)|fail) only[go_sem,h5,fh,bR,Kax]
  ·rw[if_pos (dz.1 (Decidable.not_not.1 hz)),Kam]at aW
   refine Sz4 h5 fh bR hx ?_
   refine Qf (p.length-(i+1)) Oz ⟨i+1,rfl,by omega,?_⟩
   rw[aW]
   exact Tz4 h5 fh bR Gl
 ·obtain rfl:i=p.length:=by omega
  rw[KaH]at h5 Gl
  refine nU h5 Gl ?_
  exact Qc (by simp[Kac]) rfl
theorem aal{p q:List Tm}{K E:Nat}(hp:PB K E p)(hq:PB K E q)(hE:E<=2^37)(dm:p.length<=2^30)(nf:q.length<=2^30)(CH:p.length*q.length<=2^36)(hK:min p.length q.length*(K+K)<=2^33)(xF:K<=2^33):
  Qd Tryz.prog 103 [PV.aM p,PV.aM q] (· =PV.aM (fy p q)):=by
 have main:∀(p q:List Tm),PB K E p->PB K E q->p.length<=2^30->q.length<=2^30->p.length*q.length<=2^36->p.length*(K+K)<=2^33->p.length<=q.length->True:=fun _ _ _ _ _ _ _ _ _=>trivial
 refine aE Qg Tryz.func103 agA fun C hP=> ?_
 refine Sz0 ?_
 refine Qa (fun hg=> ?_) (fun hg=> ?_)
 ·have fm:sh q p=fy p q:=by rw[fy,if_pos Oz]
  have hK3:q.length*(K+K)<=2^33:=by rw[Kc9 Oz]at hK;exact hK
  have asA:q.length*p.length<=2^36:=by rw[KaR];exact CH
  refine Sz0 ?_
  refine Ql dq [(5,5),(7,7),(20,30)] [7,17,28,29] (fun n J hp=>∃i,n=q.length-i/\i<=q.length/\J 5= .ms 17 i/\J 20= .int .i64 (i:Nat)/\hp 17=some ⟨1,37,((q.take i).map (bQ p)).map PV.aM,false⟩) q.length ?_ ?_
  ·refine⟨0,rfl,by omega,?_⟩
   refine Sz0 ?_
   simp
  rintro _ J h ⟨i,rfl,hi,h5,jY,hh⟩
  refine Sz2 h5 jY ?_
  refine Qa (fun eZ=> ?_) (fun eZ=> ?_)
  ·have ao:i<q.length:=by omega
   have cJ:=hq.get ao
   have aW:(q.take (i+1)).map (bQ p)=(q.take i).map (bQ p)++[bQ p q[i]]:=by
    rw[Kak ao,Kbo];rfl
   generalize hx:q[i]=x at *
   refine Sz3 h5 jY hx ?_
   refine Qb hP (HY (t:=x) hp cJ xF Oz Oz) ?_
   refine Sz3 h5 jY hx ?_
   rw[Qq (f:=PV.aM) (y:=bQ p x) (xs:=(q.take i).map (bQ p)) (ty':=37) (fz:=false) (Tz1 hh) cP Oz (by simp;omega) Oz Oz]
   rw[<-aW]
   refine Sz3 h5 jY hx ?_
   refine Qf (q.length-(i+1)) Oz ⟨i+1,rfl,by omega,?_⟩
   exact Tz2 h5 jY
  ·obtain rfl:i=q.length:=by omega
   rw[KaH]at hh
   have bx:=HO q p
   refine Sz2 h5 hh ?_
   refine kS hP (ID (K:=K+K) (E:=E+E) Oz _ (q.map (bQ p)) (Kaf _) (fun x hx=>by
    obtain⟨t,ht,rfl⟩:=Kau.1 hx
    exact yP hp (hq t ht)) (by rw[Kap];omega) (by rw[Kap];omega) Oz) (by simp+decide (disch:=try exact E1 hh) only[go_sem,hh,ep,Kay,KaD,Kaz,KaF,Kam];simp[Kac]) rfl ?_
   refine Sz0 ?_
   exact Qc (congrArg PV.aM fm) rfl
 ·have fm:sh p q=fy p q:=by rw[fy,if_neg Oz]
  have hK3:p.length*(K+K)<=2^33:=by rw[Kb3 Oz]at hK;exact hK
  refine Sz0 ?_
  refine Ql dq [(5,5),(7,7),(20,30)] [7,17,28,29] (fun n J hp=>∃i,n=p.length-i/\i<=p.length/\J 5= .ms 17 i/\J 20= .int .i64 (i:Nat)/\hp 17=some ⟨1,37,((p.take i).map (bQ q)).map PV.aM,false⟩) p.length ?_ ?_
  ·refine⟨0,rfl,by omega,?_⟩
   refine Sz0 ?_
   simp
  rintro _ J h ⟨i,rfl,hi,h5,jY,hh⟩
  refine Sz2 h5 jY ?_
  refine Qa (fun eZ=> ?_) (fun eZ=> ?_)
  ·have ao:i<p.length:=by omega
   have cJ:=hp.get ao
   have aW:(p.take (i+1)).map (bQ q)=(p.take i).map (bQ q)++[bQ q p[i]]:=by
    rw[Kak ao,Kbo];rfl
   generalize hx:p[i]=x at *
   refine Sz3 h5 jY hx ?_
   refine Qb hP (HY (t:=x) hq cJ xF Oz Oz) ?_
   refine Sz3 h5 jY hx ?_
   rw[Qq (f:=PV.aM) (y:=bQ q x) (xs:=(p.take i).map (bQ q)) (ty':=37) (fz:=false) (Tz1 hh) cP Oz (by simp;omega) Oz Oz]
   rw[<-aW]
   refine Sz3 h5 jY hx ?_
   refine Qf (p.length-(i+1)) Oz ⟨i+1,rfl,by omega,?_⟩
   exact Tz2 h5 jY
  ·obtain rfl:i=p.length:=by omega
   rw[KaH]at hh
   have bx:=HO p q
   refine Sz2 h5 hh ?_
   refine kS hP (ID (K:=K+K) (E:=E+E) Oz _ (p.map (bQ q)) (Kaf _) (fun x hx=>by
    obtain⟨t,ht,rfl⟩:=Kau.1 hx
    exact yP hq (hp t ht)) (by rw[Kap];omega) (by rw[Kap];omega) Oz) (by simp+decide (disch:=try exact E1 hh) only[go_sem,hh,ep,Kay,KaD,Kaz,KaF,Kam];simp[Kac]) rfl ?_
   refine Sz0 ?_
   exact Qc (congrArg PV.aM fm) rfl
theorem W4{p:List Tm}{a:Rat}{K E:Nat}(hp:PB K E p)(ha:rs a+1<=K)(hK:K<=2^33)(hE:E<=2^38)(dm:p.length<=2^36):Qd Tryz.prog 102 [PV.aM p,PV.rat a] (· =PV.aM (jP p a)):=by
 refine aE Qg Tryz.func102 agB fun C hP=> ?_
 refine Sz0 ?_
 refine Qb hP (mH (a:=a) Oz) ?_
 refine Sz0 ?_
 refine Qa (fun h0=> ?_) (fun h0=> ?_)
 ·refine Sz0 ?_
  exact oI (IM (by rw[jP,if_pos (dz.1 h0)])) rfl
 ·refine Sz0 ?_
  refine Qb hP ((HY (t:=(a,[])) hp (TB.num ha) hK hE dm).le (args':=[PV.aM p,.agg [.bool (decide (a.num<0)),PV.num a.num.natAbs,PV.num a.den,.al]]) ⟨Qn _,⟨rfl,yW _,yW _,trivial,trivial⟩,trivial⟩) ?_
  refine Sz0 ?_
  exact Qc (by rw[jP,if_neg (fun h=>h0 (dz.2 h))]) rfl
theorem Sx{n:Bool}{a d:List Nat}{k:Nat}(hp:Raw k n a d)(hk:k<2^36):Qd Tryz.prog 107 [PV.rr n a d,PV.rat ((0:Int):Rat)] (· =PV.rat (rv n a d)):=by
 have h0:rs ((0:Int):Rat)<=k:=by have:=sj;have:=hp.k1;have e:((0:Int):Rat)=0:=rfl;rw[e];omega
 have:=IP hp (eW h0) hk
 rw[dE]at this
 have e:rv n a d+((0:Int):Rat)=rv n a d:=Rat.add_zero _
 rwa[e]at this
theorem XO{s t:Tm}{K E:Nat}(hs:TB K E s)(ht:TB K E t)(hK:K<=2^33)(hE:E<=2^38):Qd Tryz.prog 203 [PV.term s,PV.term t] (· = .int .i64 (nS s t)):=by
 have c1:=hs.c
 have c2:=ht.c
 refine aE Qg Tryz.func203 agx fun C hP=> ?_
 refine Sz0 ?_
 refine Qb hP (Sv (s:=s) (t:=t) hs.m ht.m hE) ?_
 refine Sz0 ?_
 refine Qa (fun h=> ?_) (fun h=> ?_)
 ·refine Sz0 ?_
  exact Qc (by rw[nS,if_pos h]) rfl
 ·refine Sz0 ?_
  refine Qb hP (akH (a:=s.1) (b:=t.1) (k:=2^33) Oz Oz Oz) ?_
  refine Sz0 ?_
  exact Qc (by rw[nS,if_neg h]) rfl
theorem Qtd{p q:List Tm}{K E:Nat}(hp:PB K E p)(hq:PB K E q)(hK:K<=2^33)(hE:E<=2^38)(dm:p.length<=2^36)(nf:q.length<=2^36):
  Qd Tryz.prog 205 [PV.aM p,PV.aM q,.fn 203 [] []] (· = .int .i64 (je p q)):=by
 refine aE Qg Tryz.func205 agD fun C hP=> ?_
 refine Sz0 ?_
 refine Ql dq [(6,10),(13,33)] [8,9] (fun n J hp=>∃i,n=p.length-i/\i<=p.length/\(i<=q.length)/\je (p.drop i) (q.drop i)=je p q/\J 13= .int .i64 (i:Nat)) p.length ?_ ?_
 ·refine⟨0,rfl,by omega,by omega,rfl,?_⟩
  refine Sz0 ?_
  rfl
 rintro _ J h ⟨i,rfl,hi,gj,fR,eB⟩
 refine Sz1 eB ?_
 refine Qa (fun hg=> ?_) (fun hg=> ?_)
 ·have ao:i<p.length:=by omega
  have cJ:=hp.get ao
  have hdp:p.drop i=p[i]::p.drop (i+1):=Kaw ao
  have K9:=fun hk=>LV (q:=q) ao hk
  generalize hx:p[i]=x at *
  refine Sz2 eB hx ?_
  refine Qa (fun hk=> ?_) (fun hk=> ?_)
  ·rw[hdp,Kan (show q.length<=i by omega),je]at fR
   refine Sz0 ?_
   exact Qc (by rw[fR]) rfl
  ·have cf:i<q.length:=by omega
   have pz:=hq.get cf
   have K9:=K9 cf
   generalize hy:q[i]=y at *
   rw[K9]at fR
   refine Sz3 eB hx hy ?_
   refine Qb hP (XO (s:=x) (t:=y) cJ pz hK hE) ?_
   refine Sz3 eB hx hy ?_
   refine Qa (fun hc=> ?_) (fun hc=> ?_)
   ·rw[if_pos hc]at fR
    refine Sz0 ?_
    exact Qc (by rw[fR]) rfl
   ·rw[if_neg hc]at fR
    refine Sz1 eB ?_
    refine Qf (p.length-(i+1)) Oz ⟨i+1,rfl,by omega,by omega,fR,?_⟩
    exact Tz0
 ·obtain rfl:i=p.length:=by omega
  rw[Kan (Kaf _),Bl]at fR
  refine Sz0 ?_
  refine Qa (fun hk=> ?_) (fun hk=> ?_)
  ·rw[if_neg (by rw[Ka7];omega)]at fR
   refine Sz0 ?_
   exact Qc (by rw[fR]) rfl
  ·rw[if_pos (by rw[Ka7];omega)]at fR
   refine Sz0 ?_
   exact Qc (by rw[fR]) rfl
theorem ZI{p q:List Tm}{K E:Nat}(hp:PB K E p)(hq:PB K E q)(hK:K<=2^33)(hE:E<=2^38)(dm:p.length<=2^36)(nf:q.length<=2^36):Qd Tryz.prog 169 [PV.aM p,PV.aM q] (· = .int .i64 (je p q)):=by
 refine aE Qg Tryz.func169 agw fun C hP=> ?_
 refine Sz0 ?_
 refine Qb hP (Qtd hp hq hK hE dm nf) ?_
 refine Sz0 ?_
 exact Qc rfl rfl
theorem W5{p q:List Tm}{K E:Nat}(hp:PB K E p)(hq:PB K E q)(hK:K<=2^33)(hE:E<=2^38)(dm:p.length<=2^36)(nf:q.length<=2^36):Qd Tryz.prog 97 [PV.aM p,PV.aM q] (· = .bool (decide (p=q))):=by
 refine aE Qg Tryz.func97 ai3 fun C hP=> ?_
 refine Sz0 ?_
 refine Qb hP (ZI hp hq hK hE dm nf) ?_
 refine Sz0 ?_
 exact Qc (congrArg PV.bool (decide_eq_decide.2 (JS hp.last hq.last))) rfl
theorem RB.raw{k:Nat}{t:a9}(h:RB k t)(hk:1<=k):Raw k t.n t.a t.d:=⟨h.r.1,h.r.2.1,h.r.2.2.1,h.r.2.2.2,hk⟩
theorem ag3{s t:a9}{E:Nat}(hs:MB E s.m)(ht:MB E t.m)(hE:E<=2^38):Qd Tryz.prog 136 [PV.qw s,PV.qw t] (· = .int .i64 (aX s.m t.m)):=by
 refine aE Qg Tryz.func136 O7 fun C hP=> ?_
 refine Sz0 ?_
 refine Qb hP (IC (o:=0) hs ht Oz) ?_
 refine Sz0 ?_
 exact Qc (by rw[BH]) rfl
theorem DQ{l:List a9}{k:Nat}(hb:∀t∈l,RB k t)(dT:1<=k)(hk:k<2^36)(gP:l.length<2^40):Qd Tryz.prog 72 [PV.lG l] (· = .bool (dk l)):=by
 have ma:=Ja l
 have bad:∀ {b:Bool},(b=true->False)->b=false:=fun {b} h=>by cases b<;>simp_all
 refine aE Qg Tryz.func72 ai1 fun C hP=> ?_
 refine Sz0 ?_
 refine Ql dq [(2,4),(7,42)] [4] (fun n J hp=>∃i,n=l.length-i/\i<=l.length/\(∀j (h:j<l.length),j<i->fq l[j]=true)/\(∀j (h:j+1<l.length),j+1<i->0<aX l[j].m l[j+1].m)/\J 7= .int .i64 (i:Nat)) l.length ?_ ?_
 ·refine⟨0,rfl,by omega,by omega,by omega,?_⟩
  refine Sz0 ?_
  rfl
 rintro _ J h ⟨i,rfl,hi,h1,h2,h7⟩
 refine Sz1 h7 ?_
 refine Qa (fun hg=> ?_) (fun hg=> ?_)
 ·have ao:i<l.length:=by omega
  have dv:=hb _ (Kai ao)
  have hr:=(RB.raw dv dT).rs
  have pk:=dv.l
  have xI:dk l=true->fq l[i]=true:=fun h=>(ma.1 h).1 i ao
  have KA:∀(j:Nat)(hj:j+1=i),dk l=true->0<aX (l[j]'Oz).m l[i].m:=fun j hj h=>by subst hj;exact(ma.1 h).2 j ao
  have Cq:fq l[i]=true->∀j (h:j<l.length),j<i+1->fq l[j]=true:=fun h j hj im=>by
   by_cases e:j=i
   ·subst e;exact h
   ·exact h1 j hj Oz
  have Ld:∀(j:Nat)(hj:j+1=i),MB 1048576 (l[j]'Oz).m:=fun j hj=>by
   have:=h1 j Oz Oz
   simp only[fq,Kar]at this
   exact MB.sY this.2.2
  have Cr:(∀(j:Nat)(hj:j+1=i),0<aX (l[j]'Oz).m l[i].m)->∀j (h:j+1<l.length),j+1<i+1->0<aX l[j].m l[j+1].m:=fun h j hj im=>by
   by_cases e:j+1=i
   ·subst e;exact h j rfl
   ·exact h2 j hj Oz
  generalize hx:l[i]=x at *
  have cQ:rs (rv x.n x.a x.d)<2^36:=by omega
  refine Sz2 h7 hx ?_
  refine Qb hP (H8 (RB.raw dv dT) hk) ?_
  refine Sz1 h7 ?_
  cases cb:kj x.n x.a x.d
  ·have hf:dk l=false:=bad fun h=>by have:=xI h;simp[fq,cb]at this
   refine Sz2 h7 @Bool.not_false ?_
   exact Qc (by rw[hf]) rfl
  refine Sz2 h7 @Bool.not_true ?_
  refine Qb hP (AD (RB.raw dv dT) hk) ?_
  refine Sz1 h7 ?_
  refine Qx (fun hz=> ?_) (fun hz=> ?_)
  ·have hf:dk l=false:=bad fun h=>by have:=xI h;simp[fq,a9.q,dz.1 hz]at this
   refine Sz1 h7 ?_
   exact Qc (by rw[hf]) rfl
  refine Sz1 h7 ?_
  refine Qb hP (Ay Oz) ?_
  refine Sz1 h7 ?_
  cases ni:cD x.m
  ·have hf:dk l=false:=bad fun h=>by have:=xI h;simp[fq,ni]at this
   refine Sz2 h7 @Bool.not_false ?_
   exact Qc (by rw[hf]) rfl
  have CP:fq x=true:=by
   simp only[fq,cb,ni,Kco,Bool.and_true,decide_eq_true_eq]
   exact fun h=>hz (dz.2 h)
  refine Sz2 h7 @Bool.not_true ?_
  refine fV (fun sL=> ?_) (fun sL=> ?_)
  ·obtain⟨j,rfl⟩:∃j,i=j+1:=⟨i-1,by omega⟩
   have e:((j+1:Nat):Int)-1=j:=by omega
   have ru:j<l.length:=by omega
   have yb:=Ld j rfl
   have KB:=KA j rfl
   have Kw:0<aX (l[j]'Oz).m x.m->∀j2 (h:j2+1<l.length),j2+1<j+1+1->0<aX l[j2].m l[j2+1].m:=fun h=>Cr (fun j' dw=>by
    obtain rfl:j'=j:=by omega
    exact h)
   generalize hy:l[j]'Oz=y at *
   refine Sz3 h7 e hy ?_
   refine Qb hP (ag3 (s:=y) (t:=x) yb (MB.sY ni) Oz) ?_
   refine Sz2 h7 e ?_
   refine Qa (fun hc=> ?_) (fun hc=> ?_)
   ·have hf:dk l=false:=bad fun h=>by have:=KB h;omega
    refine Sz1 h7 ?_
    exact Qc (by rw[hf]) rfl
   ·refine Sz1 h7 ?_
    refine Qf (l.length-(j+1+1)) Oz ⟨j+1+1,rfl,by omega,Cq CP,Kw Oz,?_⟩
    exact Tz0
  ·obtain rfl:i=0:=by omega
   refine Sz1 h7 ?_
   refine Qf (l.length-1) Oz ⟨1,rfl,by omega,Cq CP,Cr (fun j hj=>by omega),?_⟩
   exact Tz0
 ·obtain rfl:i=l.length:=by omega
  have hf:dk l=true:=ma.2 ⟨fun j hj=>h1 j hj hj,fun j hj=>h2 j hj hj⟩
  refine Sz0 ?_
  exact Qc (by rw[hf]) rfl
theorem Qya{p:List Tm}{f:Nat}{g:Tm->Bool}(hf:∀t∈p,Qd Tryz.prog f [PV.term t] (· = .bool (g t)))(dm:p.length<=2^36):
  Qd Tryz.prog 225 [PV.aM p,.fn f [] []] (· = .int .i64 (vl g p)):=by
 refine aE Qg Tryz.func225 agG fun C hP=> ?_
 refine Sz0 ?_
 refine Ql dq [(4,5),(8,18)] [] (fun n J hp=>∃i,n=p.length-i/\i<=p.length/\(∀j (h:j<p.length),j<i->g p[j]=false)/\J 8= .int .i64 (i:Nat)) p.length ?_ ?_
 ·refine⟨0,rfl,by omega,by omega,?_⟩
  refine Sz0 ?_
  rfl
 rintro _ J h ⟨i,rfl,hi,h1,h8⟩
 refine Sz1 h8 ?_
 refine Qa (fun hg=> ?_) (fun hg=> ?_)
 ·have ao:i<p.length:=by omega
  have lj:=hf _ (Kai ao)
  have vV:=fun h=>NT (g:=g) ao h h1
  have fj:g p[i]=false->∀j (h:j<p.length),j<i+1->g p[j]=false:=fun h j hj im=>by
   by_cases e:j=i
   ·subst e;exact h
   ·exact h1 j hj Oz
  generalize hx:p[i]=x at *
  refine Sz2 h8 hx ?_
  refine Qb hP lj ?_
  refine Sz2 h8 hx ?_
  cases CA:g x
  ·refine Sz1 h8 ?_
   refine Qf (p.length-(i+1)) Oz ⟨i+1,rfl,by omega,fj CA,?_⟩
   exact Tz0
  ·refine Sz1 h8 ?_
   exact Qc (by rw[vV CA]) rfl
 ·obtain rfl:i=p.length:=by omega
  refine Sz0 ?_
  exact Qc (by rw[SS (fun j hj=>h1 j hj hj)]) rfl
theorem Qyb{p:List Int}{f:Nat}{g:Int->Bool}(hf:∀t∈p,Qd Tryz.prog f [.int .i64 t] (· = .bool (g t)))(dm:p.length<=2^36):
  Qd Tryz.prog 226 [PV.mono p,.fn f [] []] (· = .int .i64 (vl g p)):=by
 refine aE Qg Tryz.func226 agH fun C hP=> ?_
 refine Sz0 ?_
 refine Ql dq [(4,5),(8,18)] [] (fun n J hp=>∃i,n=p.length-i/\i<=p.length/\(∀j (h:j<p.length),j<i->g p[j]=false)/\J 8= .int .i64 (i:Nat)) p.length ?_ ?_
 ·refine⟨0,rfl,by omega,by omega,?_⟩
  refine Sz0 ?_
  rfl
 rintro _ J h ⟨i,rfl,hi,h1,h8⟩
 refine Sz1 h8 ?_
 refine Qa (fun hg=> ?_) (fun hg=> ?_)
 ·have ao:i<p.length:=by omega
  have lj:=hf _ (Kai ao)
  have vV:=fun h=>NT (g:=g) ao h h1
  have fj:g p[i]=false->∀j (h:j<p.length),j<i+1->g p[j]=false:=fun h j hj im=>by
   by_cases e:j=i
   ·subst e;exact h
   ·exact h1 j hj Oz
  generalize hx:p[i]=x at *
  refine Sz2 h8 hx ?_
  refine Qb hP lj ?_
  refine Sz2 h8 hx ?_
  cases CA:g x
  ·refine Sz1 h8 ?_
   refine Qf (p.length-(i+1)) Oz ⟨i+1,rfl,by omega,fj CA,?_⟩
   exact Tz0
  ·refine Sz1 h8 ?_
   exact Qc (by rw[vV CA]) rfl
 ·obtain rfl:i=p.length:=by omega
  refine Sz0 ?_
  exact Qc (by rw[SS (fun j hj=>h1 j hj hj)]) rfl
theorem Qte{p:List Tm}{f:Nat}{g:Tm->Bool}(hf:∀t∈p,Qd Tryz.prog f [PV.term t] (· = .bool (g t)))(dm:p.length<=2^36):
  Qd Tryz.prog 208 [PV.aM p,.fn f [] []] (· = .bool (p.any g)):=by
 refine aE Qg Tryz.func208 agE fun C hP=> ?_
 refine Sz0 ?_
 refine Qb hP (Qya hf dm) ?_
 refine Sz0 ?_
 exact Qc (congrArg PV.bool (Mz g p)) rfl
theorem Qtf{p:List Int}{f:Nat}{g:Int->Bool}(hf:∀t∈p,Qd Tryz.prog f [.int .i64 t] (· = .bool (g t)))(dm:p.length<=2^36):
  Qd Tryz.prog 210 [PV.mono p,.fn f [] []] (· = .bool (p.any g)):=by
 refine aE Qg Tryz.func210 agF fun C hP=> ?_
 refine Sz0 ?_
 refine Qb hP (Qyb hf dm) ?_
 refine Sz0 ?_
 exact Qc (congrArg PV.bool (Mz g p)) rfl
def amN:ay:=⟨24,[.t 2],Zr (YE 2)<|Zr (Yo 5 0<|
 Zm 3 6 .nil)<| .seq (.block 0<| .loop<| .seq (Zr (YB 7 3 1<|
 Zg 9 true (.ld 14 1 false (.t 13))<|
 Zg 9 true (.bin 15 .eql false (.t 14) (.c (.int .u16 0)))<|
 Yp 16 9 15 .nil)<| .cond (.t 16) .skip (.exit 0))<| .block 1<| .rg (qX 17 3))<|Zr (YE 4)<|Zr (YX 19 4 0 3<|
 tV 22 1 20 21<|
 mZ 23 1 2 155 19 22<|
 Yc 2 23) .ret⟩
theorem ag4:Qe Tryz.prog Tryz.f146=some amN:=by kernel_rfl
def c84:ay:=⟨15,[.t 2],Zr (YE 2)<|Zr (YE 3)<| .seq (.block 0<| .loop<| .seq (Zr (Zm 4 0<|
 Zo (.bin 5 .gtr false (.t 4) (.c (.int .u64 0))) .nil)<| .cond (.t 5) .skip (.exit 0))<| .block 1<|Zr (Ye 6 3 0<|
 Zo (.bin 8 .rem false (.t 7) (.c (.int .u64 65536)))<|
 Zo (.conv 9 .u16 (.t 8))<|
 Zo (.bs 10 1 155 [.t 9])<|
 mZ 11 1 2 155 6 10<|
 Zm 3 11 .nil)<| .rg (Zm 12 0<|
 Zo (.bin 13 .quo false (.t 12) (.c (.int .u64 65536)))<|
 Yc 0 13))<|Zr (jH 14 3 2) .ret⟩
theorem aj2:Qe Tryz.prog Tryz.f84=some c84:=by kernel_rfl
def anA:ay:=⟨21,[.t 2],Zr (re 2 0 .nil)<|Zr (re 3 0 .nil)<| .seq (Zr (Yo 5 0<|
 Zk 7 .sub 6 1<|
 Zm 4 7 .nil)<| .block 0<| .loop<| .seq (Zr (Zm 8 4<|
 Zk 9 .geq 8 0 .nil)<| .cond (.t 9) .skip (.exit 0))<| .seq (.block 1<| .rg (Zm 12 3<|
 Zo (.bin 13 .mul false (.t 12) (.c (.int .u64 65536)))<|
 Yn 14 0 4<|
 lS 18 17<|
 cX 19 13 18<|
 Yc 3 19))<| .rg (Zm 10 4<|
 Zk 11 .sub 10 1<|
 Zm 4 11 .nil))<|Zr (YW 20 3 2) .ret⟩
theorem ag5:Qe Tryz.prog Tryz.f197=some anA:=by kernel_rfl
def anD:ay:=⟨14,[.t 4],Zr (Yl 4 0)<| .seq (Zr (YH 5 1 0)<| .cond (.t 8) (Zr (Yn 9 0 1<|
 Zo (.conv 13 .i64 (.t 12))<|
 Zm 4 13 .nil) .ret) .skip)<|Zr (Yl 4 0) .ret⟩
theorem ag6:Qe Tryz.prog Tryz.f200=some anD:=by kernel_rfl
def anQ:ay:=⟨30,[.t 4],Zr (Yl 4 0)<| .seq (Zr (kZ 6<|
 Zo (.mx 10 (.t 7) (.t 9))<|
 Zk 11 .sub 10 1<|
 Zm 5 11 .nil)<| .block 0<| .loop<| .seq (Zr (Zm 12 5<|
 Zk 13 .geq 12 0 .nil)<| .cond (.t 13) .skip (.exit 0))<| .seq (.block 1<| .seq (Zr (YL 16 0 5 200<|
 YL 19 1 5 200<|
 Ys 22 18 21)<| .cond (.t 22) (Zr (jX 4) .ret) .skip)<|Zr (YL 23 0 5 200<|
 YL 26 1 5 200<|
 Zb 29 .gtr 25 28 .nil)<| .cond (.t 29) (Zr (Yl 4 1) .ret) .skip)<| .rg (Zm 14 5<|
 Zk 15 .sub 14 1<|
 Zm 5 15 .nil))<|Zr (Yl 4 0) .ret⟩
theorem ag7:Qe Tryz.prog Tryz.f215=some anQ:=by kernel_rfl
def anl:ay:=⟨44,[.t 4],Zr (YE 4)<|Zr (YE 5)<|Zr (Yl 6 0)<| .seq (Zr (Yl 7 0)<| .block 0<| .loop<| .seq (Zr (BZ 9 7 7<|
 Yj 18 13 17<|
 xx 19 18 6 0<|
 ew 22 19 21)<| .cond (.t 22) .skip (.exit 0))<| .seq (.block 1<|Zr (YL 25 0 7 200<|
 YL 28 1 7 200<|
 cX 31 27 30<|
 Zm 32 6<|
 cX 33 31 32<|
 Yc 8 33)<|Zr (Ye 34 5 8<|
 Zk 36 .rem 35 65536<|
 Zo (.conv 37 .u16 (.t 36))<|
 Yv 38 1 155 37 2 34 5)<| .rg (Zm 40 8<|
 Zk 41 .quo 40 65536<|
 Yc 6 41))<| .rg (gh 23 7 7))<|Zr (Yz 42 5 146<|
 Yc 4 43) .ret⟩
theorem ag8:Qe Tryz.prog Tryz.f184=some anl:=by kernel_rfl
def anC:ay:=⟨40,[.t 4,.t 5],Zr (ia 4 0)<| .seq (Zr (YL 10 0 1 215<|
 Zk 13 .lss 12 0 .nil)<| .cond (.t 13) (Zr (ia 4 2) .ret) .skip)<|Zr (YE 6)<|Zr (Yl 7 0)<| .seq (Zr (Yl 8 0)<| .block 0<| .loop<| .seq (Zr (YH 14 8 0)<| .cond (.t 17) .skip (.exit 0))<| .seq (.block 1<|Zr (YL 20 0 8 200<|
 YL 23 1 8 200<|
 Zb 26 .sub 22 25<|
 Zm 27 7<|
 Zb 28 .sub 26 27<|
 Yc 9 28)<|Zr (Yl 7 0)<| .seq (Zr (nX 29 9 .nil)<| .cond (.t 30) (Zr (Zm 31 9<|
 Zk 32 .add 31 65536<|
 Yc 9 32)<| .rg (Yl 7 1)) .skip)<| .rg (Ye 33 6 9<|
 Zo (.conv 35 .u16 (.t 34))<|
 Yv 36 1 155 35 2 33 6))<| .rg (jj 18 8))<|Zr (Yz 38 6 146<|
 Zm 4 39<|
 Yl 5 0) .ret⟩
theorem ag9:Qe Tryz.prog Tryz.f199=some anC:=by kernel_rfl
def amQ:ay:=⟨65,[.t 4],Zr (YE 4)<|Zr (kZ 10<|
 cX 14 11 13<|
 Zk 15 .add 14 1<|
 qZ 16 15 15<|
 Zm 5 16 .nil)<| .seq (Zr (Yl 6 0)<| .block 0<| .loop<| .seq (Zr (YH 17 6 0)<| .cond (.t 20) .skip (.exit 0))<| .seq (.block 1<|Zr (re 7 0 .nil)<|Zr (Yl 8 0)<| .block 2<| .loop<| .seq (Zr (Ye 23 8 1<|
 Zn 25 24<|
 Zb 26 .lss 23 25<|
 Yu 27 26 7<|
 Zg 27 false (.bin 29 .gtr false (.t 28) (.c (.int .u64 0)))<|
 ew 30 27 29)<| .cond (.t 30) .skip (.exit 2))<| .seq (.block 3<|Zr (YX 33 5 6 8<|
 cX 36 34 35<|
 YM 37 33 36<|
 lS 39 38<|
 Yn 40 0 6<|
 lS 44 43<|
 Ye 45 1 8<|
 Zm 51 7<|
 Yr 47 200 45 46<|
 lS 48 47<|
 Zb 49 .mul 44 48<|
 cX 50 39 49<|
 cX 52 50 51<|
 Yc 9 52)<|Zr (YX 53 5 6 8<|
 cX 56 54 55<|
 Zm 57 9<|
 Zo (.bin 58 .rem false (.t 57) (.c (.int .u64 65536)))<|
 YV 59 58 53 56)<| .rg (Zm 61 9<|
 Zo (.bin 62 .quo false (.t 61) (.c (.int .u64 65536)))<|
 Yc 7 62))<| .rg (gh 31 8 8))<| .rg (gh 21 6 6))<|Zr (Yz 63 5 146<|
 Yc 4 64) .ret⟩
theorem aha:Qe Tryz.prog Tryz.f149=some amQ:=by kernel_rfl
def anB:ay:=⟨27,[.t 4],Zr (re 4 0 .nil)<|Zr (re 5 0<|
 re 6 65535 .nil)<| .seq (.block 0<| .loop<| .seq (Zr (Ye 8 5 6<|
 Ys 10 8 9)<| .cond (.t 10) .skip (.exit 0))<| .block 1<|Zr (Ye 11 5 6<|
 cX 13 11 12<|
 Zo (.bin 14 .add false (.t 13) (.c (.int .u64 1)))<|
 Zo (.bin 15 .quo false (.t 14) (.c (.int .u64 2)))<|
 Zm 7 15 .nil)<|Zr (Ye 16 1 7<|
 Yk 18 84 17<|
 Ym 19 149 16 18<|
 Zm 20 0<|
 Ym 21 215 19 20<|
 Zk 22 .leq 21 0 .nil)<| .cond (.t 22) (.rg (YW 23 7 5)) (.rg (Zm 24 7<|
 Zo (.bin 25 .sub false (.t 24) (.c (.int .u64 1)))<|
 Yc 6 25)))<|Zr (YW 26 5 4) .ret⟩
theorem ahb:Qe Tryz.prog Tryz.f198=some anB:=by kernel_rfl
def amO:ay:=⟨73,[.t 4,.t 5,.t 6],Zr (Yi 4<|
 ia 5 0)<|Zr (lT 11 146<|
 Zm 0 12<|
 Yc 1 14)<| .seq (Zr (Yo 15 1<|
 jG 17 16 0)<| .cond (.t 17) (Zr (Yi 4<|
 ia 5 3) .ret) .skip)<| .seq (Zr (Yo 18 0<|
 Zk 20 .leq 19 4<|
 YS 21 20 1<|
 Zg 21 true (.len 23 (.t 22))<|
 Zg 21 true (.bin 24 .leq false (.t 23) (.c (Zz 4)))<|
 Yp 25 21 24 .nil)<| .cond (.t 25) (Zr (lT 26 197<|
 Zb 30 .quo 27 29<|
 Yk 31 84 30<|
 lT 32 197<|
 Zb 36 .rem 33 35<|
 Yk 37 84 36<|
 Ye 4 31 37<|
 Yl 6 0) .ret) .skip)<|Zr (Yi 7<|
 YE 8)<| .seq (Zr (Yo 38 0<|
 Zk 40 .sub 39 1<|
 Yc 9 40)<| .block 0<| .loop<| .seq (Zr (Zm 41 9<|
 Zk 42 .geq 41 0 .nil)<| .cond (.t 42) .skip (.exit 0))<| .seq (.block 1<|Zr (Yn 45 0 9<|
 Zo (.bs 49 1 155 [.t 48])<|
 Zm 50 8<|
 mZ 51 1 2 155 49 50<|
 Yk 52 146 51<|
 Yc 8 52)<|Zr (YL 53 8 1 198<|
 Yc 10 55)<|Zr (Zm 56 10<|
 Zo (.conv 57 .u16 (.t 56))<|
 Zo (.bs 58 1 155 [.t 57])<|
 Zm 59 7<|
 mZ 60 1 2 155 58 59<|
 Yc 7 60)<| .rg (Ye 62 8 1<|
 Yz 64 10 84<|
 Ym 66 149 63 65<|
 Ym 67 199 62 66<|
 Zm 61 67<|
 Yd 68 61<|
 Yc 8 68))<| .rg (qX 43 9))<|Zr (Yz 70 7 146<|
 Zm 72 8<|
 Ye 4 71 72<|
 Yl 6 0) .ret⟩
theorem ahc:Qe Tryz.prog Tryz.f147=some amO:=by kernel_rfl
def c83:ay:=⟨25,[.t 4],Zr (YE 4)<|Zr (lT 8 146<|
 Zm 0 9<|
 Zm 1 11 .nil)<| .seq (.block 0<| .loop<| .seq (Zr (Yo 12 1<|
 Zk 14 .gtr 13 0 .nil)<| .cond (.t 14) .skip (.exit 0))<| .block 1<|Zr (YL 16 0 1 147<|
 Zm 15 18<|
 lU 19 15<|
 Ye 5 19 20<|
 Yc 7 21)<| .rg (Ye 22 1 6<|
 mX 0 22 23))<|Zr (YW 24 0 4) .ret⟩
theorem aj3:Qe Tryz.prog Tryz.f83=some c83:=by kernel_rfl
def c81:ay:=⟨15,[.t 2],Zr (Yh 2)<|Zr (Yo 3 0<|
 Zk 5 .eql 4 0<|
 qY 6 5 0 0<|
 Zg 6 false (.len 9 (.t 8))<|
 Zg 6 false (.bin 10 .sub false (.t 9) (.c (Zz 1)))<|
 Zg 6 false (.idx 11 1 (.t 7) (.t 10))<|
 Zg 6 false (.ld 12 1 false (.t 11))<|
 Zg 6 false (.bin 13 .neq false (.t 12) (.c (.int .u16 0)))<|
 Yj 14 6 13<|
 Zm 2 14 .nil) .ret⟩
theorem aj4:Qe Tryz.prog Tryz.f81=some c81:=by kernel_rfl
def c82:ay:=⟨26,[.t 4],Zr (Yh 4)<| .seq (Zr (kZ 6<|
 Zb 10 .neq 7 9 .nil)<| .cond (.t 10) (Zr (Yh 4) .ret) .skip)<| .seq (Zr (Yl 5 0)<| .block 0<| .loop<| .seq (Zr (YH 11 5 0)<| .cond (.t 14) .skip (.exit 0))<| .seq (.block 1<|Zr (Yn 17 0 5<|
 Yn 21 1 5<|
 Zb 25 .neq 20 24 .nil)<| .cond (.t 25) (Zr (Yh 4) .ret) .skip)<| .rg (jj 15 5))<|Zr (YZ 4) .ret⟩
theorem ajw:Qe Tryz.prog Tryz.f82=some c82:=by kernel_rfl
def c80:ay:=⟨17,[.t 2],Zr (jE 1 49 0<|
 Yh 2)<|Zr (Yf 3 1 1<|
 Yk 5 81 4<|
 Zm 6 5<|
 YO 6 0 1<|
 Zg 6 true (.mv 9 (.t 8))<|
 YO 9 1 1<|
 Zg 9 true (.len 12 (.t 11))<|
 Zg 9 true (.bin 13 .eql false (.t 12) (.c (Zz 0)))<|
 Zg 6 true (.pick 14 (.t 9) (.t 13) (.c (.bool false)))<|
 Zg 6 true (.un 15 .not (.t 14))<|
 Yp 16 6 15<|
 Yc 2 16) .ret⟩
theorem ajx:Qe Tryz.prog Tryz.f80=some c80:=by kernel_rfl
def ank:ay:=⟨15,[.cell 4 2 true],Zr (sA 4)<|Zr (Yz 5 1 146<|
 Zm 1 6 .nil)<|Zr (BY 7<|
 Zs 2 4 14 .nil) .ret⟩
theorem ahd:Qe Tryz.prog Tryz.f183=some ank:=by kernel_rfl
def amT:ay:=⟨8,[.cell 2 2 true],Zr (jE 1 49 0<|
 sB 2)<|Zr (eS 3 0 1 1 1<|
 Ym 7 183 4 6<|
 Zs 2 2 7 .nil) .ret⟩
theorem ahe:Qe Tryz.prog Tryz.f152=some amT:=by kernel_rfl
def amq:ay:=⟨17,[.cell 2 2 true],Zr (sB 2)<| .seq (Zr (nX 3 0 .nil)<| .cond (.t 4) (Zr (Zm 5 0<|
 Zk 6 .add 5 1<|
 Zo (.un 7 .neg (.t 6))<|
 lS 8 7<|
 Yk 9 84 8<|
 Zq 10 false 84 [.c (.int .u64 1)]<|
 Ym 11 184 9 10<|
 Zq 12 false 183 [.c (.bool true),.t 11]<|
 Zs 2 2 12 .nil) .ret) .skip)<|Zr (Zm 13 0<|
 lS 14 13<|
 Yk 15 84 14<|
 Zq 16 false 183 [.c (.bool false),.t 15]<|
 Zs 2 2 16 .nil) .ret⟩
theorem ahf:Qe Tryz.prog Tryz.f120=some amq:=by kernel_rfl
def c88:ay:=⟨11,[.t 2],Zr (jE 1 49 0<|
 Yl 2 0)<|Zr (dG 3 2 1 152<|
 Zs 2 1 4 .nil)<| .seq (Zr (Yf 5 1 1<|
 Zn 7 6<|
 jG 8 7 0)<| .cond (.t 8) (Zr (Yl 2 0) .ret) .skip)<| .seq (Zr (Yf 9 0 1 .nil)<| .cond (.t 10) (Zr (jX 2) .ret) .skip)<|Zr (Yl 2 1) .ret⟩
theorem ajy:Qe Tryz.prog Tryz.f88=some c88:=by kernel_rfl
def anj:ay:=⟨38,[.t 4],Zr (sC 2<|
 Yl 4 0)<|Zr (zP 5 2 152)<| .seq (.block 0<|Zr (Yf 10 0 2<|
 Zm 12 11<|
 YO 12 0 3<|
 Zg 12 true (.un 15 .not (.t 14))<|
 Yp 16 12 15<|
 Zm 9 16 .nil)<| .cond (.t 9) (Zr (jX 4) .ret) (Zr (Yf 18 0 3<|
 Zm 20 19<|
 YO 20 0 2<|
 Zg 20 true (.un 23 .not (.t 22))<|
 Yp 24 20 23<|
 Zm 17 24 .nil)<| .cond (.t 17) (Zr (Yl 4 1) .ret) (Zr (Yf 26 0 2<|
 Zm 25 27 .nil)<| .cond (.t 25) (Zr (eS 28 1 3 1 2<|
 Ym 32 215 29 31<|
 Yc 4 32) .ret) .skip)))<|Zr (eS 33 1 2 1 3<|
 Ym 37 215 34 36<|
 Yc 4 37) .ret⟩
theorem ahg:Qe Tryz.prog Tryz.f182=some anj:=by kernel_rfl
def amA:ay:=⟨9,[.cell 2 2 true],Zr (jE 1 49 0<|
 sB 2)<|Zr (Yf 3 0 1<|
 Zu 5 4<|
 Yf 6 1 1<|
 Ym 8 183 5 7<|
 Zs 2 2 8 .nil) .ret⟩
theorem ahh:Qe Tryz.prog Tryz.f130=some amA:=by kernel_rfl
def amR:ay:=⟨48,[.cell 4 2 true],Zr (sC 2<|
 sA 4)<| .seq (Zr (eS 9 0 2 0 3<|
 Zo (.bin 13 .eql true (.t 10) (.t 12)) .nil)<| .cond (.t 13) (Zr (eS 14 0 2 1 2<|
 Yf 18 1 3<|
 Yr 20 184 17 19<|
 ji 21 183 15 20 2 4) .ret) .skip)<| .seq (Zr (eS 23 1 2 1 3<|
 Ym 27 199 24 26<|
 Zm 22 27<|
 jF 28 22 5)<|Zr (Zm 30 6<|
 jG 31 30 0)<| .cond (.t 31) (Zr (Yf 32 0 2<|
 Zm 34 5<|
 Ym 35 183 33 34<|
 Zs 2 4 35 .nil) .ret) .skip)<|Zr (eS 37 1 3 1 2<|
 Ym 41 199 38 40<|
 Zm 36 41<|
 jF 42 36 7)<|Zr (Yf 44 0 3<|
 Zm 46 7<|
 Ym 47 183 45 46<|
 Zs 2 4 47 .nil) .ret⟩
theorem ahi:Qe Tryz.prog Tryz.f150=some amR:=by kernel_rfl
def amP:ay:=⟨16,[.cell 4 2 true],Zr (sC 2<|
 sA 4)<|Zr (eS 5 0 2 0 3<|
 Zo (.bin 9 .neq true (.t 6) (.t 8))<|
 eS 10 1 2 1 3<|
 Yr 14 149 11 13<|
 ji 15 183 9 14 2 4) .ret⟩
theorem ahj:Qe Tryz.prog Tryz.f148=some amP:=by kernel_rfl
def c25:ay:=⟨27,[.t 2],Zr (gZ 1 51<|
 Yh 2)<|Zr (YT 3 1 2<|
 Yk 5 80 4<|
 Zm 6 5<|
 YO 6 2 1<|
 Zg 6 true (.call (some 9) false (.c (.fn 81 [] [])) [.t 8])<|
 Yp 10 6 9<|
 Zm 11 10<|
 Zg 11 true (.fP 12 0 (.t 1))<|
 Zg 11 true (.fP 13 1 (.t 12))<|
 Zg 11 true (.ld 14 1 false (.t 13))<|
 Zg 11 true (.fP 15 2 (.t 1))<|
 Zg 11 true (.ld 16 1 false (.t 15))<|
 Zg 11 true (.call (some 17) false (.c (.fn 83 [] [])) [.t 14,.t 16])<|
 Zg 11 true (.call (some 18) false (.c (.fn 84 [] [])) [.c (.int .u64 1)])<|
 Zg 11 true (.call (some 19) false (.c (.fn 82 [] [])) [.t 17,.t 18])<|
 Yp 20 11 19<|
 Zm 21 20<|
 YO 21 2 1<|
 Zg 21 true (.len 24 (.t 23))<|
 Zg 21 true (.bin 25 .gtr false (.t 24) (.c (Zz 0)))<|
 Yp 26 21 25<|
 Yc 2 26) .ret⟩
theorem ajz:Qe Tryz.prog Tryz.f25=some c25:=by kernel_rfl
def amp:ay:=⟨44,[.cell 4 3 true],Zr (Zo (.box 2 2 49 (.t 0))<|
 Yb 4 .nil)<| .seq (Zr (Yz 12 1 146<|
 Zn 14 13<|
 jG 15 14 0)<| .cond (.t 15) (Zr (Zq 16 false 84 [.c (.int .u64 1)]<|
 Zo (.eA 17 [.bool false,.al,.al] [(2,1,.t 16)])<|
 jk 3 17) .ret) .skip)<|Zr (Yf 18 1 2<|
 Zm 20 1<|
 Ym 21 83 19 20<|
 Yc 5 21)<|Zr (Yf 23 1 2<|
 Zm 25 5<|
 Ym 26 147 24 25<|
 Zm 22 26<|
 lU 27 22<|
 Ye 6 27 28<|
 Yc 8 29)<|Zr (YL 31 1 5 147<|
 Zm 30 33<|
 lU 34 30<|
 Ye 9 34 35<|
 Yc 11 36)<|Zr (Yf 37 0 2<|
 Zm 39 6<|
 Zo (.eA 40 [.bool false,.al] [(0,1,.t 38),(1,1,.t 39)])<|
 Yk 41 152 40<|
 Zm 42 9<|
 xw 43 41 42<|
 jk 3 43) .ret⟩
theorem ahk:Qe Tryz.prog Tryz.f119=some amp:=by kernel_rfl
def c89:ay:=⟨8,[.cell 2 3 true],Zr (gZ 1 51<|
 vJ 2)<|Zr (YT 3 1 2<|
 Yf 5 2 1<|
 Ym 7 119 4 6<|
 Zs 3 2 7 .nil) .ret⟩
theorem ajA:Qe Tryz.prog Tryz.f89=some c89:=by kernel_rfl
def amr:ay:=⟨18,[.cell 4 3 true,.t 5],Zr (sC 2<|
 Yb 4<|
 Yl 5 0)<| .seq (Zr (dG 6 2 3 88<|
 jG 8 7 0)<| .cond (.t 8) (Zr (Zo (.eA 9 [.bool false,.al,.al] [])<|
 Zs 3 4 9<|
 Yl 5 3) .ret) .skip)<| .seq (Zr (Yf 10 0 3 .nil)<| .cond (.t 11) (.rg (dG 12 2 2 130<|
 Zs 2 2 13 .nil)) .skip)<|Zr (Zh 14 2 2<|
 Yf 15 1 3<|
 Ym 17 119 14 16<|
 Zs 3 4 17<|
 Yl 5 0) .ret⟩
theorem ahl:Qe Tryz.prog Tryz.f121=some amr:=by kernel_rfl
def c50:ay:=⟨7,[.cell 2 3 true],Zr (vJ 2)<|Zr (Yz 3 0 120<|
 Zq 5 false 84 [.c (.int .u64 1)]<|
 Ym 6 119 4 5<|
 Zs 3 2 6 .nil) .ret⟩
theorem ajB:Qe Tryz.prog Tryz.f50=some c50:=by kernel_rfl
def amS:ay:=⟨5,[.cell 2 2 true],Zr (sB 2)<|Zr (Zm 3 0<|
 Zo (.eA 4 [.bool false,.al] [(1,1,.t 3)])<|
 Zs 2 2 4 .nil) .ret⟩
theorem ahm:Qe Tryz.prog Tryz.f151=some amS:=by kernel_rfl
def c27:ay:=⟨7,[.t 2],Zr (gZ 1 51<|
 Yl 2 0)<|Zr (Zh 3 3 1<|
 Yk 4 89 3<|
 Zo (.zT 5 0 2 true (.t 4))<|
 Yk 6 88 5<|
 Zm 2 6 .nil) .ret⟩
theorem ajC:Qe Tryz.prog Tryz.f27=some c27:=by kernel_rfl
def amo:ay:=⟨22,[.t 4],Zr (YU 2 51<|
 Yl 4 0)<|Zr (zP 5 3 89)<|Zr (YT 9 2 2<|
 Yf 11 2 3<|
 YT 15 3 2<|
 Yf 17 2 2<|
 YY 13 151 12<|
 Yr 14 148 10 13<|
 YY 19 151 18<|
 Yr 20 148 16 19<|
 Yr 21 182 14 20<|
 Yc 4 21) .ret⟩
theorem ahn:Qe Tryz.prog Tryz.f118=some amo:=by kernel_rfl
def c49:ay:=⟨9,[.t 4],Zr (YU 2 51<|
 Yh 4)<|Zr (nV 5 3 2 3 118<|
 oX 8 7 0 4) .ret⟩
theorem ajD:Qe Tryz.prog Tryz.f49=some c49:=by kernel_rfl
def c63:ay:=⟨9,[.cell 2 3 true],Zr (gZ 1 51<|
 vJ 2)<|Zr (YT 3 1 2<|
 Yf 6 2 1<|
 YY 5 130 4<|
 ji 8 119 5 7 3 2) .ret⟩
theorem ajE:Qe Tryz.prog Tryz.f63=some c63:=by kernel_rfl
def c87:ay:=⟨28,[.cell 4 3 true],Zr (YU 2 51<|
 Yb 4 .nil)<|Zr (zP 5 3 89)<|Zr (YT 9 2 2<|
 Yf 11 2 3<|
 YT 15 3 2<|
 Yf 17 2 2<|
 eS 22 2 2 2 3<|
 YY 13 151 12<|
 Yr 14 148 10 13<|
 YY 19 151 18<|
 Yr 20 148 16 19<|
 Yr 21 150 14 20<|
 Yr 26 149 23 25<|
 ji 27 119 21 26 3 4) .ret⟩
theorem ajF:Qe Tryz.prog Tryz.f87=some c87:=by kernel_rfl
def amM:ay:=⟨9,[.cell 4 3 true],Zr (YU 2 51<|
 Yb 4 .nil)<|Zr (Zh 5 3 2<|
 Zh 6 3 3<|
 YY 7 63 6<|
 ji 8 87 5 7 3 4) .ret⟩
theorem aho:Qe Tryz.prog Tryz.f145=some amM:=by kernel_rfl
def c85:ay:=⟨16,[.cell 4 3 true],Zr (YU 2 51<|
 Yb 4 .nil)<|Zr (YT 5 2 2<|
 YT 7 3 2<|
 eS 10 2 2 2 3<|
 Yr 9 148 6 8<|
 Yr 14 149 11 13<|
 ji 15 119 9 14 3 4) .ret⟩
theorem ake:Qe Tryz.prog Tryz.f85=some c85:=by kernel_rfl
def amL:ay:=⟨25,[.cell 4 3 true,.t 5],Zr (YU 2 51<|
 Yb 4<|
 Yl 5 0)<|Zr (zP 6 3 89)<|Zr (YT 10 2 2<|
 Yf 12 2 3<|
 YT 16 3 2<|
 Yf 18 2 2<|
 YY 14 151 13<|
 Yr 15 148 11 14<|
 YY 20 151 19<|
 Yr 21 148 17 20<|
 Yr 22 121 15 21<|
 Yd 23 22<|
 Zs 3 4 23<|
 Yc 5 24) .ret⟩
theorem ahp:Qe Tryz.prog Tryz.f143=some amL:=by kernel_rfl
theorem oA{l:List Nat}(hv:Qj l)(hl:l.length<2^42):Qd Tryz.prog 146 [PV.nat l] (· =PV.num (val l)):=by
 have apJ:=By hv
 refine aE Qg Tryz.func146 ag4 fun C hP=> ?_
 refine Sz0 ?_
 refine Ql okB [(3,3),(7,18)] [] (fun m J hp=>m<=l.length/\cut l m=ak (val l)/\J 3= .int .i64 m/\hp=aA) l.length ?_ ?_
 ·refine⟨Kaf _,apJ,?_⟩
  exact Tz0
 rintro n J _ ⟨hn,hc,h3,rfl⟩
 refine Sz1 h3 ?_
 refine fV (fun hg=> ?_) (fun hg=> ?_)
 ·obtain _|n:=n
  ·omega
  have e:((n+1:Nat):Int)-1=n:=by omega
  simp only[cut]at hc
  simp+decide (disch:=try exact D2 h3 e) only[go_sem,h3,e]
  refine Qa (fun hz=> ?_) (fun hz=> ?_)
  ·rw[if_pos (by grind)]at hc
   refine Sz2 h3 e ?_
   refine Qf n Oz ⟨by omega,hc,?_⟩
   exact Tz0
  ·rw[if_neg (by grind)]at hc
   have au:(l.take (n+1)).length<2^42:=by rw[KaI];omega
   refine nU h3 e ?_
   exact Qc (by rw[Kac (by simp),hc]) rfl
 ·obtain rfl:n=0:=by omega
  simp+decide (disch:=first|omega|rfl|(simp+decide only[go_sem,h3,Kcr,Kbw,Kbn]<;>rfl)|fail) only[go_sem,h3,Kcr,Kbw,Kbn]
  rw[Ir (ys:=[]) rfl Oz (by simp) (by simp)]
  refine gJ ?_
  exact Qc (by show _=PV.nat (ak (val l));rw[<-hc];rfl) rfl
theorem qy{n:Nat}(hn:n<18446744073709551616):Qd Tryz.prog 84 [.int .u64 n] (· =PV.num n):=by
 have hlen:=oH hn
 unfold nl at hlen
 refine aE Qg Tryz.func84 aj2 fun C hP=> ?_
 refine Sz0 ?_
 refine iL 3 900 1 155 Oz Tz0 ?_
 refine Ql okB [(0,0),(3,13)] [10,11,900] (fun m J hp=>∃done:List Nat,ak n=done++ak m/\m<=n/\J 0= .int .u64 m/\J 3= .ms 900 done.length/\hp 900=some ⟨1,155,cj done,false⟩) n ?_ ?_
 ·refine⟨[],rfl,Kaf _,?_⟩
  exact Tz0
 rintro m J hp ⟨done,hd,hm,h0,h3,hh⟩
 rw[hd,Kax]at hlen
 refine Sz2 h0 h3 ?_
 refine Qa (fun hz=> ?_) (fun hz=> ?_)
 ·have aH:m≠0:=by omega
  have m9:ak n=(done++[m%65536])++ak (m/65536):=by rw[hd,u7 aH];simp
  refine Sz3 h0 h3 @Nat.mod_mod ?_
  rw[Qq (f:=fun(x:Nat)=> .int .u16 x) (y:=m%65536) (xs:=done) (ty':=155) (fz:=false) (Tz1 hh) cP Oz rfl Oz Oz]
  refine Sz2 h0 h3 ?_
  refine Qf (m/65536) Oz ⟨done++[m%65536],m9,by omega,?_⟩
  refine Sz2 h0 h3 ?_
  simp
 ·obtain rfl:m=0:=by omega
  rw[fI,Kam]at hd
  refine nU h3 hh ?_
  exact Qc (by show _=PV.nat (ak n);rw[hd,Kac (by simp)]) rfl
theorem ny{a:List Nat}{i:Nat}(ha:Qj a)(hl:a.length<2^43):Qd Tryz.prog 200 [PV.nat a,.int .i64 i] (· = .int .i64 (dg a i:Nat)):=by
 refine aE Qg Tryz.func200 ag6 fun C hP=> ?_
 refine Sz0 ?_
 refine Qa (fun hi=> ?_) (fun hi=> ?_)
 ·have ao:i<a.length:=by omega
  have Ge:=ek ha ao
  have hg:dg a i=a[i]:=gD ao
  refine Sz0 ?_
  exact Qc (by rw[hg]) rfl
 ·refine Sz0 ?_
  exact Qc (by rw[dg,gE Oz];rfl) rfl
theorem DB{a:List Nat}(ha:Qj a)(hl:a.length<=4):Qd Tryz.prog 197 [PV.nat a] (· = .int .u64 (val a:Nat)):=by
 have au:∀k,val (a.drop k)<18446744073709551616:=fun k=>by
  have h1:=pR (AH ha k)
  have:65536^(a.drop k).length<=65536^4:=KaN Oz (by rw[Ka7];omega)
  omega
 refine aE Qg Tryz.func197 ag5 fun C hP=> ?_
 refine Sz0 ?_
 refine Ql okB [(3,4),(8,19)] [] (fun k J hp=>k<=a.length/\J 3= .int .u64 (val (a.drop k):Nat)/\J 4= .int .i64 ((k:Int)-1)) a.length ?_ ?_
 ·refine⟨Kaf _,?_⟩
  refine Sz0 ?_
  simp[val]
 rintro k J h ⟨hk,h3,h4⟩
 refine Sz2 h3 h4 ?_
 refine Qa (fun hg=> ?_) (fun hg=> ?_)
 ·obtain _|n:=k
  ·omega
  have hn:n<a.length:=by omega
  have Kx:=ek ha hn
  have e:((n+1:Nat):Int)-1=n:=by omega
  have hv:=mD hn
  have h1:=au n
  generalize dJ:a[n]=x at *
  have e2:val (a.drop (n+1))*65536+x=val (a.drop n):=by omega
  refine Sz5 h3 h4 e dJ e2 ?_
  refine Qf n Oz ⟨by omega,?_⟩
  exact Tz0
 ·obtain rfl:k=0:=by omega
  simp+decide (disch:=first|omega|rfl|(simp+decide only[go_sem,h3,Ka6]<;>rfl)|fail) only[go_sem,h3,Ka6]
  exact Qc rfl rfl
theorem DR{a b:List Nat}(ha:Qj a)(hb:Qj b)(bG:a.length<2^42)(dx:b.length<2^42):Qd Tryz.prog 215 [PV.nat a,PV.nat b] (· = .int .i64 (gY (val a) (val b))):=by
 refine aE Qg Tryz.func215 ag7 fun C hP=> ?_
 refine Sz1 @Ou ?_
 refine Ql okB [(4,5),(12,29)] [] (fun k J hp=>k<=max a.length b.length/\val (a.drop k)=val (b.drop k)/\J 5= .int .i64 ((k:Int)-1)) (max a.length b.length) ?_ ?_
 ·refine⟨Kaf _,?_,?_⟩
  ·rw[Kan Oz,Kan Oz]
  ·exact Tz0
 rintro k J h ⟨hk,hv,h5⟩
 refine Sz1 h5 ?_
 refine Qa (fun hg=> ?_) (fun hg=> ?_)
 ·obtain _|n:=k
  ·omega
  have e:((n+1:Nat):Int)-1=n:=by omega
  have e1:=yQ a n
  have e2:=yQ b n
  have d1:=xk ha n
  have d2:=xk hb n
  refine Sz2 h5 e ?_
  refine Qb hP (ny ha Oz) ?_
  refine Sz2 h5 e ?_
  refine Qb hP (ny hb Oz) ?_
  refine Sz2 h5 e ?_
  refine Qa (fun hc=> ?_) (fun hc=> ?_)
  ·have au:=Rt (a:=a) (b:=b) ha (i:=n) Oz
   refine Sz0 ?_
   exact Qc (by rw[JK au]) rfl
  refine Sz2 h5 e ?_
  refine Qb hP (ny ha Oz) ?_
  refine Sz2 h5 e ?_
  refine Qb hP (ny hb Oz) ?_
  refine Sz2 h5 e ?_
  refine Qa (fun ie=> ?_) (fun ie=> ?_)
  ·have au:=Rt (a:=b) (b:=a) hb (i:=n) Oz
   refine Sz0 ?_
   exact Qc (by rw[JL au]) rfl
  ·refine Sz2 h5 e ?_
   refine Qf n Oz ⟨by omega,by omega,?_⟩
   exact Tz0
 ·obtain rfl:k=0:=by omega
  refine Sz0 ?_
  exact Qc (by rw[OI (by simpa using hv)]) rfl
theorem Rg{a:List Nat}(ha:Qj a)(hl:a.length<2^43):Qd Tryz.prog 81 [PV.nat a] (· = .bool (decide (a.getLast? ≠some 0))):=by
 refine aE Qg Tryz.func81 aj4 fun C hP=> ?_
 refine Sz0 ?_
 refine Qx (fun h0=> ?_) (fun h0=> ?_)
 ·have:a=[]:=KaE.1 Oz
  subst this
  refine Sz0 ?_
  exact Qc (by simp) rfl
 ·obtain⟨k,hk⟩:∃k,a.length=k+1:=⟨a.length-1,by omega⟩
  have iq:=I9 hk
  have e:((k+1:Nat):Int)-1=k:=by omega
  generalize hy:a[k]'Oz=y at *
  refine Sz3 hk e hy ?_
  refine Qc (congrArg PV.bool ?_) rfl
  rw[iq]
  exact decide_eq_decide.2 ⟨fun h h'=>h (by injection h' with h';rw[h'];rfl),fun h h'=>h (by rw[show y=0 by omega])⟩
theorem W6{a b:List Nat}(bG:a.length<2^43)(dx:b.length<2^43):Qd Tryz.prog 82 [PV.nat a,PV.nat b] (· = .bool (decide (a=b))):=by
 refine aE Qg Tryz.func82 ajw fun C hP=> ?_
 refine Sz0 ?_
 refine Qa (fun h0=> ?_) (fun h0=> ?_)
 ·refine Sz0 ?_
  exact Qc (congrArg PV.bool (by rw[decide_eq_false];rintro rfl;exact h0 rfl)) rfl
 have hlen:a.length=b.length:=by omega
 refine Sz0 ?_
 refine Ql okB [(4,5),(11,25)] [] (fun n J hp=>∃i,n=a.length-i/\i<=a.length/\a.take i=b.take i/\J 5= .int .i64 (i:Nat)) a.length ?_ ?_
 ·refine⟨0,rfl,by omega,by simp,?_⟩
  refine Sz0 ?_
  rfl
 rintro _ J h ⟨i,rfl,hi,he,h5⟩
 refine Sz1 h5 ?_
 refine Qa (fun hg=> ?_) (fun hg=> ?_)
 ·have ao:i<a.length:=by omega
  have CC:i<b.length:=by omega
  have ta:=Kak ao
  have tb:=Kak CC
  have aH:a=b->a[i]=b[i]:=fun h=>by subst h;rfl
  generalize hx:a[i]=x at *
  generalize hy:b[i]=y at *
  refine Sz3 h5 hx hy ?_
  refine Qa (fun hc=> ?_) (fun hc=> ?_)
  ·refine Sz0 ?_
   exact Qc (congrArg PV.bool (by rw[decide_eq_false];intro h;exact hc (by rw[aH h]))) rfl
  ·refine Sz1 h5 ?_
   refine Qf (a.length-(i+1)) Oz ⟨i+1,rfl,by omega,by rw[ta,tb,he,show x=y by omega],?_⟩
   exact Tz0
 ·obtain rfl:i=a.length:=by omega
  rw[KaH,hlen,KaH]at he
  refine Sz0 ?_
  exact Qc (congrArg PV.bool (by rw[he];simp)) rfl
theorem RC{a b:List Nat}(ha:Qj a)(hb:Qj b)(bG:a.length<2^40)(dx:b.length<2^40):Qd Tryz.prog 184 [PV.nat a,PV.nat b] (· =PV.num (val a+val b)):=by
 refine aE Qg Tryz.func184 ag8 fun C hP=> ?_
 refine Sz0 ?_
 refine iL 5 900 1 155 Oz Tz0 ?_
 refine Ql okB [(5,41)] [38,39,900] (fun m J hp=>∃(i c:Nat)(out:List Nat),m=2*(max a.length b.length-i)+c/\c<=1/\i<=max a.length b.length+1/\(i<=max a.length b.length∨c=0)/\out.length=i/\Qj out/\val out+65536^i*(c+val (a.drop i)+val (b.drop i))=val a+val b/\J 5= .ms 900 out.length/\J 6= .int .i64 c/\J 7= .int .i64 i/\hp 900=some ⟨1,155,cj out,false⟩) (2*max a.length b.length) ?_ ?_
 ·refine⟨0,0,[],rfl,by omega,by omega,by omega,rfl,oG,by simp[val],?_⟩
  refine Sz0 ?_
  simp
 rintro _ J h ⟨i,c,out,rfl,hc,hi,gj,fQ,nj,hv,h5,h6,h7,hh⟩
 have e1:=yQ a i
 have e2:=yQ b i
 have d1:=xk ha i
 have d2:=xk hb i
 refine Sz3 h5 h6 h7 ?_
 refine Qx (fun hg=> ?_) (fun hg=> ?_)
 ·have au:i<max a.length b.length:=by omega
  have eT:(dg a i+dg b i+c)/65536<=1:=by omega
  have rF:val (out++[(dg a i+dg b i+c)%65536])+65536^(i+1)*((dg a i+dg b i+c)/65536+val (a.drop (i+1))+val (b.drop (i+1)))=val a+val b:=by
   rw[Ew,fQ,Kbr,<-hv,e1,e2]
   have:=Kbl (dg a i+dg b i+c) 65536
   generalize 65536^i=P at *
   generalize(dg a i+dg b i+c)/65536=q at *
   generalize(dg a i+dg b i+c)%65536=r at *
   have e:c+(dg a i+65536*val (a.drop (i+1)))+(dg b i+65536*val (b.drop (i+1)))=r+65536*(q+val (a.drop (i+1))+val (b.drop (i+1))):=by omega
   rw[e,Ka0 P,Kbj];omega
  refine Sz3 h5 h6 h7 ?_
  refine Qb hP (ny ha Oz) ?_
  refine Sz3 h5 h6 h7 ?_
  refine Qb hP (ny hb Oz) ?_
  refine Sz4 h5 h6 h7 @Nat.mod_mod ?_
  rw[Qq (f:=fun(x:Nat)=> .int .u16 x) (y:=(dg a i+dg b i+c)%65536) (xs:=out) (ty':=155) (fz:=false) (Tz1 hh) cP Oz rfl Oz Oz]
  refine Sz3 h5 h6 h7 ?_
  refine Qf (2*(max a.length b.length-(i+1))+(dg a i+dg b i+c)/65536) ?_ ⟨i+1,(dg a i+dg b i+c)/65536,out++[(dg a i+dg b i+c)%65536],rfl,eT,by omega,?_,by simp[fQ],?_,rF,?_⟩
  ·by_cases au:i<max a.length b.length
   ·omega
   ·have z1:dg a i=0:=by rw[dg,gE Oz]
    have z2:dg b i=0:=by rw[dg,gE Oz]
    rw[z1,z2];omega
  ·by_cases au:i<max a.length b.length
   ·omega
   ·have z1:dg a i=0:=by rw[dg,gE Oz]
    have z2:dg b i=0:=by rw[dg,gE Oz]
    rw[z1,z2];omega
  ·rw[oz];exact⟨nj,by intro z hz;simp at hz;omega⟩
  ·refine Sz0 ?_
   simp
 refine Sz3 h5 h6 h7 ?_
 refine Qx (fun eZ=> ?_) (fun eZ=> ?_)
 ·have au:i<max a.length b.length:=by omega
  have eT:(dg a i+dg b i+c)/65536<=1:=by omega
  have rF:val (out++[(dg a i+dg b i+c)%65536])+65536^(i+1)*((dg a i+dg b i+c)/65536+val (a.drop (i+1))+val (b.drop (i+1)))=val a+val b:=by
   rw[Ew,fQ,Kbr,<-hv,e1,e2]
   have:=Kbl (dg a i+dg b i+c) 65536
   generalize 65536^i=P at *
   generalize(dg a i+dg b i+c)/65536=q at *
   generalize(dg a i+dg b i+c)%65536=r at *
   have e:c+(dg a i+65536*val (a.drop (i+1)))+(dg b i+65536*val (b.drop (i+1)))=r+65536*(q+val (a.drop (i+1))+val (b.drop (i+1))):=by omega
   rw[e,Ka0 P,Kbj];omega
  refine Sz3 h5 h6 h7 ?_
  refine Qb hP (ny ha Oz) ?_
  refine Sz3 h5 h6 h7 ?_
  refine Qb hP (ny hb Oz) ?_
  refine Sz4 h5 h6 h7 @Nat.mod_mod ?_
  rw[Qq (f:=fun(x:Nat)=> .int .u16 x) (y:=(dg a i+dg b i+c)%65536) (xs:=out) (ty':=155) (fz:=false) (Tz1 hh) cP Oz rfl Oz Oz]
  refine Sz3 h5 h6 h7 ?_
  refine Qf (2*(max a.length b.length-(i+1))+(dg a i+dg b i+c)/65536) ?_ ⟨i+1,(dg a i+dg b i+c)/65536,out++[(dg a i+dg b i+c)%65536],rfl,eT,by omega,?_,by simp[fQ],?_,rF,?_⟩
  ·by_cases au:i<max a.length b.length
   ·omega
   ·have z1:dg a i=0:=by rw[dg,gE Oz]
    have z2:dg b i=0:=by rw[dg,gE Oz]
    rw[z1,z2];omega
  ·by_cases au:i<max a.length b.length
   ·omega
   ·have z1:dg a i=0:=by rw[dg,gE Oz]
    have z2:dg b i=0:=by rw[dg,gE Oz]
    rw[z1,z2];omega
  ·rw[oz];exact⟨nj,by intro z hz;simp at hz;omega⟩
  ·refine Sz0 ?_
   simp
 refine Sz3 h5 h6 h7 ?_
 refine Qa (fun KS=> ?_) (fun KS=> ?_)
 ·have CC:i<=max a.length b.length:=by omega
  have eT:(dg a i+dg b i+c)/65536<=1:=by omega
  have rF:val (out++[(dg a i+dg b i+c)%65536])+65536^(i+1)*((dg a i+dg b i+c)/65536+val (a.drop (i+1))+val (b.drop (i+1)))=val a+val b:=by
   rw[Ew,fQ,Kbr,<-hv,e1,e2]
   have:=Kbl (dg a i+dg b i+c) 65536
   generalize 65536^i=P at *
   generalize(dg a i+dg b i+c)/65536=q at *
   generalize(dg a i+dg b i+c)%65536=r at *
   have e:c+(dg a i+65536*val (a.drop (i+1)))+(dg b i+65536*val (b.drop (i+1)))=r+65536*(q+val (a.drop (i+1))+val (b.drop (i+1))):=by omega
   rw[e,Ka0 P,Kbj];omega
  refine Sz3 h5 h6 h7 ?_
  refine Qb hP (ny ha Oz) ?_
  refine Sz3 h5 h6 h7 ?_
  refine Qb hP (ny hb Oz) ?_
  refine Sz4 h5 h6 h7 @Nat.mod_mod ?_
  rw[Qq (f:=fun(x:Nat)=> .int .u16 x) (y:=(dg a i+dg b i+c)%65536) (xs:=out) (ty':=155) (fz:=false) (Tz1 hh) cP Oz rfl Oz Oz]
  refine Sz3 h5 h6 h7 ?_
  refine Qf (2*(max a.length b.length-(i+1))+(dg a i+dg b i+c)/65536) ?_ ⟨i+1,(dg a i+dg b i+c)/65536,out++[(dg a i+dg b i+c)%65536],rfl,eT,by omega,?_,by simp[fQ],?_,rF,?_⟩
  ·by_cases au:i<max a.length b.length
   ·omega
   ·have z1:dg a i=0:=by rw[dg,gE Oz]
    have z2:dg b i=0:=by rw[dg,gE Oz]
    rw[z1,z2];omega
  ·by_cases au:i<max a.length b.length
   ·omega
   ·have z1:dg a i=0:=by rw[dg,gE Oz]
    have z2:dg b i=0:=by rw[dg,gE Oz]
    rw[z1,z2];omega
  ·rw[oz];exact⟨nj,by intro z hz;simp at hz;omega⟩
  ·refine Sz0 ?_
   simp
 ·obtain rfl:c=0:=by omega
  rw[Kan Oz,Kan Oz]at hv
  simp only[val,KaX,Kb5]at hv
  refine Sz2 h5 hh ?_
  refine wR hP (oA nj Oz) (by simp+decide (disch:=try exact E1 hh) only[go_sem,hh,ep,Kay,KaD,Kaz,KaF,Kam];simp[Kac]) rfl fun hp'=> ?_
  refine Sz0 ?_
  exact Qc (by rw[hv]) rfl
theorem Ig{a b:List Nat}(ha:Qj a)(hb:Qj b)(bG:a.length<2^40)(dx:b.length<2^40):Qd Tryz.prog 199 [PV.nat a,PV.nat b] (· =if val a<val b then .aI [PV.num 0,.int .i64 2]else .aI [PV.num (val a-val b),.int .i64 0]):=by
 refine aE Qg Tryz.func199 ag9 fun C hP=> ?_
 refine Sz0 ?_
 refine Qb hP (DR ha hb Oz Oz) ?_
 refine Sz0 ?_
 refine Qa (fun hc=> ?_) (fun hc=> ?_)
 ·rw[if_pos (EK.1 hc)]
  refine Sz0 ?_
  exact gI rfl rfl rfl yY (Qn _)
 have il:¬val a<val b:=fun h=>hc (EK.2 h)
 rw[if_neg il]
 refine Sz0 ?_
 refine iL 6 900 1 155 Oz Tz0 ?_
 refine Ql okB [(6,9),(14,37)] [36,37,900] (fun m J hp=>∃(i c:Nat)(out:List Nat),m=a.length-i/\c<=1/\i<=a.length/\out.length=i/\Qj out/\val (a.take i)+65536^i*c=val out+val (b.take i)/\J 6= .ms 900 out.length/\J 7= .int .i64 c/\J 8= .int .i64 i/\hp 900=some ⟨1,155,cj out,false⟩) a.length ?_ ?_
 ·refine⟨0,0,[],rfl,by omega,by omega,rfl,oG,by simp[val],?_⟩
  refine Sz0 ?_
  simp
 rintro _ J h ⟨i,c,out,rfl,xL,hi,fQ,nj,hv,h6,h7,h8,hh⟩
 refine Sz3 h6 h7 h8 ?_
 refine Qa (fun hg=> ?_) (fun hg=> ?_)
 ·have ao:i<a.length:=by omega
  have e1:=QY a i
  have e2:=QY b i
  have d1:=xk ha i
  have d2:=xk hb i
  refine Sz3 h6 h7 h8 ?_
  refine Qb hP (ny ha Oz) ?_
  refine Sz3 h6 h7 h8 ?_
  refine Qb hP (ny hb Oz) ?_
  refine Sz3 h6 h7 h8 ?_
  have step:∀(d c':Nat),d<65536->c'<=1->dg a i+65536*c'=d+dg b i+c->val (a.take (i+1))+65536^(i+1)*c'=val (out++[d])+val (b.take (i+1)):=fun d c' _ _ h3=>by
   rw[Ew,fQ,e1,e2,Kbr]
   generalize 65536^i=P at *
   have:P*(dg a i+65536*c')=P*(d+dg b i+c):=by rw[h3]
   rw[Ka0,<-Nat.mul_assoc,Ka0,Ka0]at this
   omega
  refine Qa (fun hd=> ?_) (fun hd=> ?_)
  ·obtain⟨d,sI⟩:∃d:Nat,(dg a i:Int)-(dg b i:Int)-(c:Int)+65536=d:=⟨((dg a i:Int)-(dg b i:Int)-(c:Int)+65536).toNat,by omega⟩
   have bA:=step d 1 Oz Oz Oz
   refine Sz4 h6 h7 h8 sI ?_
   rw[Qq (f:=fun(x:Nat)=> .int .u16 x) (y:=d) (xs:=out) (ty':=155) (fz:=false) (Tz1 hh) (by simp+decide (disch:=first|omega|rfl|(simp+decide only[go_sem,KaO (by omega:d<65536)]<;>rfl)|fail) only[go_sem,KaO (by omega:d<65536)]) Oz rfl Oz Oz]
   refine Sz3 h6 h7 h8 ?_
   refine Qf (a.length-(i+1)) Oz ⟨i+1,1,out++[d],rfl,by omega,by omega,by simp[fQ],?_,bA,?_⟩
   ·rw[oz];exact⟨nj,by intro z hz;simp at hz;omega⟩
   ·refine Sz0 ?_
    simp
  ·obtain⟨d,sI⟩:∃d:Nat,(dg a i:Int)-(dg b i:Int)-(c:Int)=d:=⟨((dg a i:Int)-(dg b i:Int)-(c:Int)).toNat,by omega⟩
   have bA:=step d 0 Oz Oz Oz
   refine Sz4 h6 h7 h8 sI ?_
   rw[Qq (f:=fun(x:Nat)=> .int .u16 x) (y:=d) (xs:=out) (ty':=155) (fz:=false) (Tz1 hh) (by simp+decide (disch:=first|omega|rfl|(simp+decide only[go_sem,KaO (by omega:d<65536)]<;>rfl)|fail) only[go_sem,KaO (by omega:d<65536)]) Oz rfl Oz Oz]
   refine Sz3 h6 h7 h8 ?_
   refine Qf (a.length-(i+1)) Oz ⟨i+1,0,out++[d],rfl,by omega,by omega,by simp[fQ],?_,bA,?_⟩
   ·rw[oz];exact⟨nj,by intro z hz;simp at hz;omega⟩
   ·refine Sz0 ?_
    simp
 ·obtain rfl:i=a.length:=by omega
  have hbz:val (b.drop a.length)=0:=DL (by have:=pR ha;omega)
  have KF:=Iw b a.length
  rw[hbz,Kb5,KaX]at KF
  rw[KaH,<-KF]at hv
  have hvo:=pR nj
  rw[fQ]at hvo
  have vX:c=0:=by
   match c,xL with
   |0,_=>rfl
   |1,_=>exfalso;have:=pR ha;omega
  subst vX
  refine Sz2 h6 hh ?_
  refine wR hP (oA nj Oz) (by simp+decide (disch:=try exact E1 hh) only[go_sem,hh,ep,Kay,KaD,Kaz,KaF,Kam];simp[Kac]) rfl fun hp'=> ?_
  refine Sz0 ?_
  exact gI rfl rfl rfl (uW (congrArg PV.num Oz)) (Qn _)
theorem Ih{a b:List Nat}(ha:Qj a)(hb:Qj b)(bG:a.length<2^40)(dx:b.length<2^40):Qd Tryz.prog 149 [PV.nat a,PV.nat b] (· =PV.num (val a*val b)):=by
 refine aE Qg Tryz.func149 aha fun C hP=> ?_
 refine Sz0 ?_
 refine Ql okB [(6,9),(17,62)] [] (fun m J hp=>∃(i:Nat)(L:List Nat),m=a.length-i/\i<=a.length/\L.length=a.length+b.length+1/\Qj L/\val L=val (a.take i)*val b/\J 6= .int .i64 i/\hp=Qi aA 16 ⟨1,155,cj L,false⟩) a.length ?_ ?_
 ·refine⟨0,List.replicate (a.length+b.length+1) 0,rfl,by omega,by simp,?_,by simp[val,L9],?_⟩
  ·intro z hz;rw[Kcy hz];omega
  ·refine Sz0 ?_
   simp
 rintro _ J _ ⟨i,L,rfl,hi,F8,hL,hv,h6,rfl⟩
 refine Sz1 h6 ?_
 refine Qa (fun hg=> ?_) (fun hg=> ?_)
 ·have ao:i<a.length:=by omega
  have Ge:=ek ha ao
  have mf:=Ax ao
  have VJ:dg L (i+b.length)=0:=by
   apply ZU
   apply DL
   rw[hv,Nat.pow_add]
   have h1:=uM ha i Oz
   have h2:=pR hb
   exact Nat.mul_lt_mul'' h1 h2
  generalize dJ:a[i]=ai at *
  refine Sz2 h6 dJ ?_
  refine Ql okB [(7,9),(23,62)] [] (fun m J hp=>∃(k c:Nat)(M:List Nat),m=b.length+1-k/\k<=b.length+1/\(k<=b.length∨c=0)/\c<65536/\M.length=L.length/\Qj M/\val M+65536^(i+k)*(c+ai*val (b.drop k))=val L+65536^i*(ai*val b)/\(∀j,i+k<=j->dg M j=dg L j)/\J 7= .int .u64 c/\J 8= .int .i64 k/\hp=Qi aA 16 ⟨1,155,cj M,false⟩) (b.length+1) ?_ ?_
  ·refine⟨0,0,L,rfl,by omega,by omega,by omega,rfl,hL,by simp,fun _ _=>rfl,?_⟩
   refine Sz1 h6 ?_
   simp
  rintro _ J2 _ ⟨k,c,M,rfl,hk,ry,hc,Ci,hM,hw,ye,h7,h8,rfl⟩
  have e2:=yQ b k
  have d2:=xk hb k
  refine Sz3 h6 h7 h8 ?_
  refine Qx (fun CD=> ?_) (fun CD=> ?_)
  ·have aqg:k<=b.length:=by omega
   have hj:i+k<M.length:=by omega
   have hx:=ek hM hj
   have kH:=fun v=>Ow (v:=v) hj
   have xZ:=uT Ge d2
   have xO:dg M (i+k)=M[i+k]:=gD hj
   generalize og:M[i+k]=x at *
   have v3:=Kbl (x+ai*dg b k+c) 65536
   have od:=LW (T:=val L+65536^i*(ai*val b)) (kH ((x+ai*dg b k+c)%65536)) (by rw[<-e2];exact hw) v3
   have hr:=Kbt (x+ai*dg b k+c) (show 0<65536 by omega)
   have hq:(x+ai*dg b k+c)/65536<65536:=by omega
   have gu:¬k<b.length->(x+ai*dg b k+c)/65536=0:=fun h=>by
    have z1:dg b k=0:=by rw[dg,gE Oz]
    have z2:x=0:=by rw[<-xO,ye _ (Kaf _),show i+k=i+b.length by omega,VJ]
    rw[z1,z2];omega
   have CG:Qj (M.set (i+k) ((x+ai*dg b k+c)%65536)):=fun z hz=>by
    rcases List.mem_or_eq_of_mem_set hz with h|h
    ·exact hM z h
    ·omega
   have e5:IntKind.u64.wrap ((ai*dg b k:Nat):Int)=((ai*dg b k:Nat):Int):=tu Oz Oz
   refine Sz5 h6 h7 h8 dJ og ?_
   refine Qb hP (ny hb Oz) ?_
   refine Sz7 h6 h7 h8 dJ og e5 @Nat.mod_mod ?_
   refine Qf (b.length+1-(k+1)) Oz ⟨k+1,(x+ai*dg b k+c)/65536,M.set (i+k) ((x+ai*dg b k+c)%65536),rfl,by omega,?_,hq,by rw[List.length_set];exact Ci,CG,?_,?_,?_⟩
   ·by_cases h:k<b.length
    ·omega
    ·exact .inr (gu h)
   ·rw[<-Nat.add_assoc,Kbr];exact od
   ·intro j z6
    rw[LX Oz];exact ye j Oz
   ·exact Tz3 h6 h7 h8
  refine Sz3 h6 h7 h8 ?_
  refine Qa (fun vX=> ?_) (fun vX=> ?_)
  ·have aqg:k<=b.length:=by omega
   have hj:i+k<M.length:=by omega
   have hx:=ek hM hj
   have kH:=fun v=>Ow (v:=v) hj
   have xZ:=uT Ge d2
   have xO:dg M (i+k)=M[i+k]:=gD hj
   generalize og:M[i+k]=x at *
   have v3:=Kbl (x+ai*dg b k+c) 65536
   have od:=LW (T:=val L+65536^i*(ai*val b)) (kH ((x+ai*dg b k+c)%65536)) (by rw[<-e2];exact hw) v3
   have hr:=Kbt (x+ai*dg b k+c) (show 0<65536 by omega)
   have hq:(x+ai*dg b k+c)/65536<65536:=by omega
   have gu:¬k<b.length->(x+ai*dg b k+c)/65536=0:=fun h=>by
    have z1:dg b k=0:=by rw[dg,gE Oz]
    have z2:x=0:=by rw[<-xO,ye _ (Kaf _),show i+k=i+b.length by omega,VJ]
    rw[z1,z2];omega
   have CG:Qj (M.set (i+k) ((x+ai*dg b k+c)%65536)):=fun z hz=>by
    rcases List.mem_or_eq_of_mem_set hz with h|h
    ·exact hM z h
    ·omega
   have e5:IntKind.u64.wrap ((ai*dg b k:Nat):Int)=((ai*dg b k:Nat):Int):=tu Oz Oz
   refine Sz5 h6 h7 h8 dJ og ?_
   refine Qb hP (ny hb Oz) ?_
   refine Sz7 h6 h7 h8 dJ og e5 @Nat.mod_mod ?_
   refine Qf (b.length+1-(k+1)) Oz ⟨k+1,(x+ai*dg b k+c)/65536,M.set (i+k) ((x+ai*dg b k+c)%65536),rfl,by omega,?_,hq,by rw[List.length_set];exact Ci,CG,?_,?_,?_⟩
   ·by_cases h:k<b.length
    ·omega
    ·exact .inr (gu h)
   ·rw[<-Nat.add_assoc,Kbr];exact od
   ·intro j z6
    rw[LX Oz];exact ye j Oz
   ·exact Tz3 h6 h7 h8
  ·obtain rfl:c=0:=by omega
   rw[Kan Oz]at hw
   simp only[val,Kb5,KaX]at hw
   refine Sz3 h6 h7 h8 ?_
   simp (disch:=decide) only[fX,eP]
   refine Qf (a.length-(i+1)) Oz ⟨i+1,M,rfl,by omega,by omega,hM,?_,?_⟩
   ·rw[hw,hv,mf,KaJ,Kbj]
   ·exact Tz0
 ·obtain rfl:i=a.length:=by omega
  rw[KaH]at hv
  refine Sz0 ?_
  refine wR hP (oA hL Oz) (by simp+decide (disch:=try exact E0) only[go_sem,ep,Kay,KaD,Kaz,KaF,Kam];simp[Kac,F8]) rfl fun hp'=> ?_
  refine Sz0 ?_
  exact Qc (by rw[hv]) rfl
theorem Eb{x y:Nat}(hx:nl x<2^40)(hy:nl y<2^40):Qd Tryz.prog 149 [PV.num x,PV.num y] (· =PV.num (x*y)):=by
 have:=Ih (Qk x) (Qk y) hx hy
 rwa[Qw,Qw]at this
theorem ZJ{x y:Nat}(hx:nl x<2^42)(hy:nl y<2^42):Qd Tryz.prog 215 [PV.num x,PV.num y] (· = .int .i64 (gY x y)):=by
 have:=DR (Qk x) (Qk y) hx hy
 rwa[Qw,Qw]at this
theorem Ta{x y:Nat}(hx:nl x<2^40)(hy:nl y<2^40)(h:y<=x):Qd Tryz.prog 199 [PV.num x,PV.num y] (· = .aI [PV.num (x-y),.int .i64 0]):=by
 have:=Ig (Qk x) (Qk y) hx hy
 rwa[Qw,Qw,if_neg Oz]at this
theorem Pb{x y:Nat}:gY x y<=0↔x<=y:=by unfold gY;split<;>(try split)<;>omega
theorem Rh{x y:Nat}(hx:nl x<2^38)(hy:nl y<2^38)(cY:0<y):Qd Tryz.prog 198 [PV.num x,PV.num y] (· = .int .u64 (min 65535 (x/y):Nat)):=by
 have wj:∀(n d:Nat) fr hp K,n<18446744073709551616->ca .quo false (.int .u64 (n:Int)) (.int .u64 2) d fr hp K=K (ae fr d (.int .u64 ((n/2:Nat):Int))) hp:=fun n d fr hp K h=>by
  rw[show(2:Int)=((2:Nat):Int)from rfl,BC Oz h]
 refine aE Qg Tryz.func198 ahb fun C hP=> ?_
 refine Sz0 ?_
 refine Ql okB [(5,25)] [] (fun m J hp=>∃lo hi:Nat,m=hi-lo/\lo<=hi/\hi<=65535/\y*lo<=x/\(hi=65535∨x<y*(hi+1))/\J 5= .int .u64 lo/\J 6= .int .u64 hi) 65535 ?_ ?_
 ·refine⟨0,65535,rfl,by omega,by omega,by omega,.inl rfl,?_⟩
  refine Sz0 ?_
  simp
 rintro _ J h ⟨lo,hi,rfl,h1,h2,h3,h4,h5,h6⟩
 refine Sz2 h5 h6 ?_
 refine Qa (fun hg=> ?_) (fun hg=> ?_)
 ·have dV:nl ((lo+hi+1)/2)<=4:=oH Oz
  have hm:=pS y ((lo+hi+1)/2)
  generalize aqs:(lo+hi+1)/2=yv at *
  refine Sz4 h5 h6 wj aqs ?_
  refine Qb hP (qy (n:=yv) Oz) ?_
  refine Sz2 h5 h6 ?_
  refine Qb hP (Eb (x:=y) (y:=yv) Oz Oz) ?_
  refine Sz2 h5 h6 ?_
  refine Qb hP (ZJ (x:=y*yv) (y:=x) Oz Oz) ?_
  refine Sz2 h5 h6 ?_
  refine Qa (fun hc=> ?_) (fun hc=> ?_)
  ·rw[Pb]at hc
   refine Sz2 h5 h6 ?_
   refine Qf (hi-yv) Oz ⟨yv,hi,rfl,by omega,h2,hc,h4,?_⟩
   exact Tz1 h6
  ·rw[Pb]at hc
   obtain⟨n,rfl⟩:∃n,yv=n+1:=⟨yv-1,by omega⟩
   have e:((n+1:Nat):Int)-1=n:=by omega
   refine Sz3 h5 h6 e ?_
   refine Qf (n-lo) Oz ⟨lo,n,rfl,by omega,by omega,h3,.inr Oz,?_⟩
   exact Tz1 h5
 ·obtain rfl:lo=hi:=by omega
  refine Sz1 h5 ?_
  refine Qc ?_ rfl
  have hle:lo<=x/y:=(Nat.le_div_iff_mul_le cY).2 (by rw[KaR];exact h3)
  rcases h4 with rfl|h4
  ·rw[Kb3 hle]
  ·have:x/y<lo+1:=(Kbc cY).2 (by rw[KaR];exact h4)
   congr 2;omega
theorem QV{a b:List Nat}(ha:Qj a)(hb:Qj b)(bG:a.length<2^36)(dx:b.length<2^36):Qd Tryz.prog 147 [PV.nat a,PV.nat b]
  (· =if val b=0 then .aI [PV.num 0,PV.num 0,.int .i64 3]else .aI [PV.num (val a/val b),PV.num (val a%val b),.int .i64 0]):=by
 have gM:=bZ ha
 have jq:=bZ hb
 refine aE Qg Tryz.func147 ahc fun C hP=> ?_
 refine Sz0 ?_
 refine Qb hP (oA ha Oz) ?_
 refine Sz0 ?_
 refine Qb hP (oA hb Oz) ?_
 refine Sz0 ?_
 generalize val a=x at *
 generalize val b=y at *
 unfold nl at gM jq
 refine Qa (fun hz=> ?_) (fun hz=> ?_)
 ·have cY:y=0:=kP.1 (qz Oz)
  refine Sz0 ?_
  rw[if_pos cY]
  exact kU rfl rfl rfl rfl yY yY (Qn _)
 have cY:y≠0:=fun h=>by rw[h,fI]at hz;simp at hz
 rw[if_neg cY]
 have hyp:0<y:=Kba cY
 have dN:=Qk x
 have mi:=Qk y
 have rG:=Qw x
 have yp:=Qw y
 refine Sz0 ?_
 refine fV (fun h1=> ?_) (fun h1=> ?_)
 ·refine Sz0 ?_
  refine Qa (fun h2=> ?_) (fun h2=> ?_)
  ·have asY:=Eh.1 (show nl x<=4 by unfold nl;omega)
   have as0:=Eh.1 (show nl y<=4 by unfold nl;omega)
   have hq:=KcM x y
   have hr:=Kbt x hyp
   refine Sz0 ?_
   refine Qb hP (DB dN Oz) ?_
   refine Sz1 rG ?_
   refine Qb hP (DB mi Oz) ?_
   refine Sz3 rG yp @BC ?_
   refine Qb hP (qy (n:=x/y) Oz) ?_
   refine Sz0 ?_
   refine Qb hP (DB dN Oz) ?_
   refine Sz1 rG ?_
   refine Qb hP (DB mi Oz) ?_
   refine Sz3 rG yp @qC ?_
   refine Qb hP (qy (n:=x%y) Oz) ?_
   refine Sz0 ?_
   exact kU rfl rfl rfl rfl (Qn _) (Qn _) (Qn _)
  ·have aqN:=trivial
   refine Sz0 ?_
   refine zk 7 1 Tz0 ?_
   refine zk 8 1 Tz0 ?_
   refine Nd okB [(7,10),(41,69)] [49,51,58,60] (fun k J hp=>∃qs,k<=(ak x).length/\qs.length=(ak x).length-k/\Qj qs/\val qs=val ((ak x).drop k)/y/\J 7= .sl 1 (cj qs)/\J 8=PV.num (val ((ak x).drop k)%y)/\J 9= .int .i64 ((k:Int)-1)) (ak x).length ?_ ?_
   ·refine⟨[],Kaf _,by simp,oG,by simp[val],?_⟩
    refine Sz0 ?_
    simp[val,fI]
   rintro k J h ⟨qs,hk,Vi,qo,sR,h7,h8,h9⟩
   refine Sz3 h7 h8 h9 ?_
   have hr:=Kbt (val ((ak x).drop k)) hyp
   refine Qa (fun hg=> ?_) (fun hg=> ?_)
   ·obtain _|n:=k
    ·omega
    have hn:n<(ak x).length:=by omega
    have Kx:=ek dN hn
    have e:((n+1:Nat):Int)-1=n:=by omega
    have bA:=SJ (x:=(ak x)[n]) hyp sR
    rw[<-mD hn]at bA
    generalize hV:val ((ak x).drop (n+1))%y=r at *
    generalize dJ:(ak x)[n]=xi at *
    have dh:(ak r).length<=(ak y).length:=gC (Nat.le_of_lt hr)
    have rC:Qj ([xi]++ak r):=by rw[oz];exact⟨by intro z hz;simp at hz;omega,Qk r⟩
    have nn:val ([xi]++ak r)=r*65536+xi:=by rw[nB,Qw];simp[val];omega
    have au:(r*65536+xi)/y<65536:=by
     rw[Kbc hyp]
     have:(r+1)*65536<=y*65536:=Kah _ hr
     omega
    have K5:nl (r*65536+xi)<=(ak y).length+1:=by
     have:=bZ rC
     rw[nn,Kax]at this
     simp at this;omega
    have v3:=Kbl (r*65536+xi) y
    have gm:nl (y*((r*65536+xi)/y))<=(ak y).length+1:=Kao (gC Oz) K5
    have hn4:nl ((r*65536+xi)/y)<=4:=oH Oz
    have Lk:r*65536+xi-y*((r*65536+xi)/y)=(r*65536+xi)%y:=by omega
    refine Sz5 h7 h8 h9 e dJ ?_
    rw[mE (f:=fun(x:Nat)=> .int .u16 x) (xs:=[xi]) (ys:=ak r) (n:=1) cP rfl Oz Oz Oz]
    refine Sz5 h7 h8 h9 e dJ ?_
    refine kS hP (oA (l:=[xi]++ak r) rC (by simp;omega)) (by simp+decide (disch:=try exact E0) only[go_sem,ep,Kay,KaD,Kaz,KaF,Kam];simp[KbO 1,Kac]) rfl ?_
    rw[nn]
    refine Sz5 h7 h8 h9 e dJ ?_
    refine Qb hP (Rh (x:=r*65536+xi) (y:=y) Oz (by unfold nl;omega) hyp) ?_
    rw[Kc9 (by omega:(r*65536+xi)/y<=65535)]
    generalize hD:(r*65536+xi)/y=D at *
    simp+decide (disch:=first|omega|rfl|(simp+decide only[go_sem,h7,h8,h9,e,dJ,KaO au]<;>rfl)|fail) only[go_sem,h7,h8,h9,e,dJ,KaO au]
    rw[mE (f:=fun(x:Nat)=> .int .u16 x) (xs:=[D]) (ys:=qs) (n:=1) cP rfl Oz Oz Oz]
    refine Sz5 h7 h8 h9 e dJ ?_
    refine Qb hP (qy (n:=D) Oz) ?_
    refine Sz4 h7 h8 h9 e ?_
    refine Qb hP (Eb (x:=y) (y:=D) (by unfold nl;omega) Oz) ?_
    refine Sz4 h7 h8 h9 e ?_
    refine Qb hP (Ta (x:=r*65536+xi) (y:=y*D) Oz Oz Oz) ?_
    rw[Lk]
    refine Sz4 h7 h8 h9 e ?_
    refine SI 7 n rfl ?_ Oz ⟨D::qs,by omega,by simp;omega,?_,?_,?_⟩
    ·exact tU
    ·rw[ix];exact⟨au,qo⟩
    ·rw[val,bA.1]
    ·refine qc bA.2 ?_
     simp[KbO 1,Kac]
   ·obtain rfl:k=0:=by omega
    rw[Ka6,rG]at sR h8
    refine Sz2 h7 h8 ?_
    refine Qb hP (oA qo Oz) ?_
    refine Sz2 h7 h8 ?_
    exact kU rfl rfl rfl rfl (uW (by rw[sR])) (Qn _) (Qn _)
 ·have aqN:=trivial
  refine Sz0 ?_
  refine zk 7 1 Tz0 ?_
  refine zk 8 1 Tz0 ?_
  refine Nd okB [(7,10),(41,69)] [49,51,58,60] (fun k J hp=>∃qs,k<=(ak x).length/\qs.length=(ak x).length-k/\Qj qs/\val qs=val ((ak x).drop k)/y/\J 7= .sl 1 (cj qs)/\J 8=PV.num (val ((ak x).drop k)%y)/\J 9= .int .i64 ((k:Int)-1)) (ak x).length ?_ ?_
  ·refine⟨[],Kaf _,by simp,oG,by simp[val],?_⟩
   refine Sz0 ?_
   simp[val,fI]
  rintro k J h ⟨qs,hk,Vi,qo,sR,h7,h8,h9⟩
  refine Sz3 h7 h8 h9 ?_
  have hr:=Kbt (val ((ak x).drop k)) hyp
  refine Qa (fun hg=> ?_) (fun hg=> ?_)
  ·obtain _|n:=k
   ·omega
   have hn:n<(ak x).length:=by omega
   have Kx:=ek dN hn
   have e:((n+1:Nat):Int)-1=n:=by omega
   have bA:=SJ (x:=(ak x)[n]) hyp sR
   rw[<-mD hn]at bA
   generalize hV:val ((ak x).drop (n+1))%y=r at *
   generalize dJ:(ak x)[n]=xi at *
   have dh:(ak r).length<=(ak y).length:=gC (Nat.le_of_lt hr)
   have rC:Qj ([xi]++ak r):=by rw[oz];exact⟨by intro z hz;simp at hz;omega,Qk r⟩
   have nn:val ([xi]++ak r)=r*65536+xi:=by rw[nB,Qw];simp[val];omega
   have au:(r*65536+xi)/y<65536:=by
    rw[Kbc hyp]
    have:(r+1)*65536<=y*65536:=Kah _ hr
    omega
   have K5:nl (r*65536+xi)<=(ak y).length+1:=by
    have:=bZ rC
    rw[nn,Kax]at this
    simp at this;omega
   have v3:=Kbl (r*65536+xi) y
   have gm:nl (y*((r*65536+xi)/y))<=(ak y).length+1:=Kao (gC Oz) K5
   have hn4:nl ((r*65536+xi)/y)<=4:=oH Oz
   have Lk:r*65536+xi-y*((r*65536+xi)/y)=(r*65536+xi)%y:=by omega
   refine Sz5 h7 h8 h9 e dJ ?_
   rw[mE (f:=fun(x:Nat)=> .int .u16 x) (xs:=[xi]) (ys:=ak r) (n:=1) cP rfl Oz Oz Oz]
   refine Sz5 h7 h8 h9 e dJ ?_
   refine kS hP (oA (l:=[xi]++ak r) rC (by simp;omega)) (by simp+decide (disch:=try exact E0) only[go_sem,ep,Kay,KaD,Kaz,KaF,Kam];simp[KbO 1,Kac]) rfl ?_
   rw[nn]
   refine Sz5 h7 h8 h9 e dJ ?_
   refine Qb hP (Rh (x:=r*65536+xi) (y:=y) Oz (by unfold nl;omega) hyp) ?_
   rw[Kc9 (by omega:(r*65536+xi)/y<=65535)]
   generalize hD:(r*65536+xi)/y=D at *
   simp+decide (disch:=first|omega|rfl|(simp+decide only[go_sem,h7,h8,h9,e,dJ,KaO au]<;>rfl)|fail) only[go_sem,h7,h8,h9,e,dJ,KaO au]
   rw[mE (f:=fun(x:Nat)=> .int .u16 x) (xs:=[D]) (ys:=qs) (n:=1) cP rfl Oz Oz Oz]
   refine Sz5 h7 h8 h9 e dJ ?_
   refine Qb hP (qy (n:=D) Oz) ?_
   refine Sz4 h7 h8 h9 e ?_
   refine Qb hP (Eb (x:=y) (y:=D) (by unfold nl;omega) Oz) ?_
   refine Sz4 h7 h8 h9 e ?_
   refine Qb hP (Ta (x:=r*65536+xi) (y:=y*D) Oz Oz Oz) ?_
   rw[Lk]
   refine Sz4 h7 h8 h9 e ?_
   refine SI 7 n rfl ?_ Oz ⟨D::qs,by omega,by simp;omega,?_,?_,?_⟩
   ·exact tU
   ·rw[ix];exact⟨au,qo⟩
   ·rw[val,bA.1]
   ·refine qc bA.2 ?_
    simp[KbO 1,Kac]
  ·obtain rfl:k=0:=by omega
   rw[Ka6,rG]at sR h8
   refine Sz2 h7 h8 ?_
   refine Qb hP (oA qo Oz) ?_
   refine Sz2 h7 h8 ?_
   exact kU rfl rfl rfl rfl (uW (by rw[sR])) (Qn _) (Qn _)
theorem WA{x y:Nat}(hx:nl x<2^36)(hy:nl y<2^36)(h0:y≠0):Qd Tryz.prog 147 [PV.num x,PV.num y] (· = .aI [PV.num (x/y),PV.num (x%y),.int .i64 0]):=by
 have:=QV (Qk x) (Qk y) hx hy
 rwa[Qw,Qw,if_neg h0]at this
theorem RP{a b:List Nat}(ha:Qj a)(hb:Qj b)(bG:a.length<2^36)(dx:b.length<2^36):Qd Tryz.prog 83 [PV.nat a,PV.nat b] (· =PV.num (Nat.gcd (val a) (val b))):=by
 have gM:=bZ ha
 have jq:=bZ hb
 refine aE Qg Tryz.func83 aj3 fun C hP=> ?_
 refine Sz0 ?_
 refine Qb hP (oA ha Oz) ?_
 refine Sz0 ?_
 refine Qb hP (oA hb Oz) ?_
 refine Sz0 ?_
 refine Ql okB [(0,1),(5,7),(12,23)] [] (fun m J hp=>∃x y,m=y/\Nat.gcd x y=Nat.gcd (val a) (val b)/\nl x<2^36/\nl y<2^36/\J 0=PV.num x/\J 1=PV.num y/\hp=aA) (val b) ?_ ?_
 ·refine⟨val a,val b,rfl,rfl,by omega,by omega,?_⟩
  exact Tz0
 rintro y J _ ⟨x,_,rfl,hg,hx,hy,h0,h1,rfl⟩
 generalize Nat.gcd (val a) (val b)=g at *
 refine Sz2 h0 h1 ?_
 refine Qa (fun hc=> ?_) (fun hc=> ?_)
 ·have cY:y≠0:=fun h=>by rw[h,fI]at hc;simp at hc
  have xY:=gC (Nat.le_of_lt (Kbt x (Kba cY)))
  refine Sz2 h0 h1 ?_
  refine Qb hP (WA (x:=x) (y:=y) hx hy cY) ?_
  refine Sz2 h0 h1 ?_
  refine Qf (x%y) (Kbt _ (Kba cY)) ⟨y,x%y,rfl,?_,hy,by omega,?_⟩
  ·rw[<-hg,KcO x y,Nat.gcd_rec y x,KcO]
  ·exact Tz0
 ·have cY:y=0:=kP.1 (qz Oz)
  subst cY
  refine Sz1 h0 ?_
  exact Qc (by rw[<-hg,Kc2]) rfl
theorem uO{n:Bool}{a:List Nat}(ha:Qj a)(bG:a.length<2^42):Qd Tryz.prog 183 [.bool n,PV.nat a] (· =PV.zz (zv n a)):=by
 refine aE Qg Tryz.func183 ahd fun C hP=> ?_
 refine Sz0 ?_
 refine Qb hP (oA ha bG) ?_
 refine Sz0 ?_
 refine yL (fun hn=> ?_) (fun hn=> ?_)
 all_goals
  refine Sz0 ?_
  refine cn ?_
  refine Sz0 ?_
  exact Qc (by have:=JQ n (val a);rw[hn]at this;subst hn;simpa[zv]using this) rfl
theorem DC{n:Bool}{a:List Nat}(ha:Qj a)(bG:a.length<2^42):Qd Tryz.prog 152 [PV.zi n a] (· =PV.zz (zv n a)):=by
 refine aE Qg Tryz.func152 ahe fun C hP=> ?_
 refine Sz0 ?_
 refine Qb hP (uO ha bG) ?_
 refine Sz0 ?_
 refine cn ?_
 refine Sz0 ?_
 exact Qc rfl rfl
theorem RR{n m:Bool}{a b:List Nat}(ha:Qj a)(hb:Qj b)(bG:a.length<2^40)(dx:b.length<2^40):Qd Tryz.prog 148 [PV.zi n a,PV.zi m b] (· =PV.zz (zv n a*zv m b)):=by
 have hr:nl (val a*val b)<2^42:=by have:=pS (val a) (val b);have:=bZ ha;have:=bZ hb;omega
 refine aE Qg Tryz.func148 ahj fun C hP=> ?_
 refine Sz0 ?_
 refine Qb hP (Ih ha hb bG dx) ?_
 refine Sz0 ?_
 refine Qb hP (uO (n:= !(n==m)) (Qk (val a*val b)) hr) ?_
 refine Sz0 ?_
 refine cn ?_
 refine Sz0 ?_
 exact Qc (congrArg PV.zz (by rw[tH];unfold zv;cases n<;>cases m<;>simp[Int.neg_mul,Int.mul_neg])) rfl
theorem IE{x:Int}(h1: -9223372036854775808<=x)(h2:x<=9223372036854775807):Qd Tryz.prog 120 [.int .i64 x] (· =PV.zz x):=by
 refine aE Qg Tryz.func120 ahf fun C hP=> ?_
 refine Sz0 ?_
 refine Qa (fun hc=> ?_) (fun hc=> ?_)
 ·obtain⟨y,hy⟩:∃y:Nat,x= -((y:Int)+1):=⟨(-(x+1)).toNat,by omega⟩
  have e1:IntKind.i64.wrap (x+1)= -(y:Int):=by rw[w6 Oz Oz];omega
  have e2:IntKind.i64.wrap (0- -(y:Int))=(y:Int):=by rw[w6 Oz Oz];omega
  have e3:IntKind.u64.wrap (y:Int)=(y:Int):=tu Oz Oz
  have xT:nl y<=4:=oH Oz
  have rA:nl (y+1)<=4:=oH Oz
  refine Sz3 e1 e2 e3 ?_
  refine Qb hP (qy (n:=y) Oz) ?_
  refine Sz0 ?_
  refine Qb hP (qy (n:=1) Oz) ?_
  refine Sz0 ?_
  refine Qb hP (RC (Qk y) (Qk 1) (show nl y<_ by omega) (show nl 1<_ by rw[vf];omega)) ?_
  refine Sz0 ?_
  refine Qb hP (uO (n:=true) (Qk (val (ak y)+val (ak 1))) (show nl _<_ by rw[Qw,Qw];omega)) ?_
  refine Sz0 ?_
  refine cn ?_
  refine Sz0 ?_
  exact Qc (congrArg PV.zz (by rw[tH,Qw,Qw];simp;omega)) rfl
 ·obtain⟨y,rfl⟩:∃y:Nat,x=y:=⟨x.toNat,by omega⟩
  have xT:nl y<=4:=oH Oz
  refine Sz0 ?_
  refine Qb hP (qy Oz) ?_
  refine Sz0 ?_
  refine Qb hP (uO (n:=false) (Qk y) (show nl _<_ by omega)) ?_
  refine Sz0 ?_
  refine cn ?_
  refine Sz0 ?_
  exact Qc (congrArg PV.zz (by rw[tH];simp)) rfl
theorem W7{n:Bool}{a:List Nat}(ha:Qj a)(bG:a.length<2^42):Qd Tryz.prog 88 [PV.zi n a] (· = .int .i64 (fa (zv n a))):=by
 refine aE Qg Tryz.func88 ajy fun C hP=> ?_
 refine Sz0 ?_
 refine Qb hP (DC ha bG) ?_
 generalize zv n a=z
 refine Sz0 ?_
 refine Qa (fun hz=> ?_) (fun hz=> ?_)
 ·have:z=0:=by have:=kP.1 (qz (n:=z.natAbs) Oz);omega
  subst this
  refine Sz0 ?_
  exact Qc rfl rfl
 ·have h0:z≠0:=fun h=>by subst h;exact hz (by simp[fI])
  refine Sz0 ?_
  refine AT (fun hn=> ?_) (fun hn=> ?_)
  ·have hn:z<0:=by simpa using hn
   refine Sz0 ?_
   exact Qc (by rw[fa,if_pos hn]) rfl
  ·have hn:¬z<0:=by simpa using hn
   refine Sz0 ?_
   exact Qc (by rw[fa,if_neg hn,if_pos Oz]) rfl
theorem WB{n:Bool}{a:List Nat}(ha:Qj a)(bG:a.length<2^42):Qd Tryz.prog 80 [PV.zi n a] (· = .bool (oN n a)):=by
 refine aE Qg Tryz.func80 ajx fun C hP=> ?_
 refine Sz0 ?_
 refine Qb hP (Rg ha Oz) ?_
 refine Sz0 ?_
 refine yL (fun hv=> ?_) (fun hv=> ?_)
 ·refine Sz0 ?_
  refine yL (fun hn=> ?_) (fun hn=> ?_)
  ·refine Sz0 ?_
   exact Qc (congrArg PV.bool (by unfold oN;subst hn;cases a<;>simp_all<;>omega)) rfl
  ·refine Sz0 ?_
   exact Qc (congrArg PV.bool (by unfold oN;subst hn;cases a<;>simp_all)) rfl
 ·refine Sz0 ?_
  exact Qc (congrArg PV.bool (by unfold oN;cases a<;>simp_all)) rfl
theorem XP{n m:Bool}{a b:List Nat}(ha:Qj a)(hb:Qj b)(bG:a.length<2^41)(dx:b.length<2^41):Qd Tryz.prog 182 [PV.zi n a,PV.zi m b] (· = .int .i64 (dC (zv n a) (zv m b))):=by
 have hx:nl (zv n a).natAbs<2^41:=by rw[jA];have:=bZ ha;omega
 have hy:nl (zv m b).natAbs<2^41:=by rw[jA];have:=bZ hb;omega
 refine aE Qg Tryz.func182 ahg fun C hP=> ?_
 refine Sz0 ?_
 refine Qb hP (DC ha Oz) ?_
 refine Sz0 ?_
 refine Qb hP (DC hb Oz) ?_
 generalize zv n a=x at *
 generalize zv m b=y at *
 have lx:(ak x.natAbs).length<2^41:=hx
 have ly:(ak y.natAbs).length<2^41:=hy
 by_cases cF:x<0<;>by_cases cY:y<0
 ·refine Sz2 cF cY ?_
  refine Qb hP (DR (Qk y.natAbs) (Qk x.natAbs) Oz Oz) ?_
  refine Sz0 ?_
  exact Qc (congrArg (PV.int .i64) (by rw[Qw,Qw];unfold gY dC;split<;>split<;>(try split)<;>(try split)<;>omega)) rfl
 ·refine Sz2 cF cY ?_
  exact Qc (congrArg (PV.int .i64) (by unfold dC;rw[if_pos Oz])) rfl
 ·refine Sz2 cF cY ?_
  exact Qc (congrArg (PV.int .i64) (by unfold dC;rw[if_neg Oz,if_pos Oz])) rfl
 ·refine Sz2 cF cY ?_
  refine Qb hP (DR (Qk x.natAbs) (Qk y.natAbs) Oz Oz) ?_
  refine Sz0 ?_
  exact Qc (congrArg (PV.int .i64) (by rw[Qw,Qw];unfold gY dC;split<;>split<;>(try split)<;>(try split)<;>omega)) rfl
theorem XQ{n m:Bool}{a b:List Nat}(ha:Qj a)(hb:Qj b)(bG:a.length<2^40)(dx:b.length<2^40):Qd Tryz.prog 150 [PV.zi n a,PV.zi m b] (· =PV.zz (zv n a+zv m b)):=by
 have gM:=bZ ha
 have jq:=bZ hb
 refine aE Qg Tryz.func150 ahi fun C hP=> ?_
 refine Sz0 ?_
 refine AT (fun gm=> ?_) (fun gm=> ?_)
 ·have gm:n=m:=by simpa using gm
  subst gm
  have hr:=PF (val a) (val b)
  refine Sz0 ?_
  refine Qb hP (RC ha hb bG dx) ?_
  refine Sz0 ?_
  refine Qb hP (uO (n:=n) (Qk (val a+val b)) (show nl _<_ by omega)) ?_
  refine Sz0 ?_
  refine cn ?_
  refine Sz0 ?_
  exact Qc (congrArg PV.zz (by rw[tH];unfold zv;split<;>simp<;>omega)) rfl
 have gm:n= !m:=by cases n<;>cases m<;>simp_all
 subst gm
 refine Sz0 ?_
 refine Qb hP (Ig ha hb bG dx) ?_
 by_cases hc:val a<val b
 ·rw[if_pos hc]
  have hr:=gC (Nat.sub_le (val b) (val a))
  refine Sz0 ?_
  refine Qb hP (Ig hb ha dx bG) ?_
  rw[if_neg Oz]
  refine Sz0 ?_
  refine Qb hP (uO (n:=m) (Qk (val b-val a)) (show nl _<_ by omega)) ?_
  refine Sz0 ?_
  refine cn ?_
  refine Sz0 ?_
  exact Qc (congrArg PV.zz (by rw[tH];unfold zv;cases m<;>simp<;>omega)) rfl
 ·rw[if_neg hc]
  have hr:=gC (Nat.sub_le (val a) (val b))
  refine Sz0 ?_
  refine Qb hP (uO (n:= !m) (Qk (val a-val b)) (show nl _<_ by omega)) ?_
  refine Sz0 ?_
  refine cn ?_
  refine Sz0 ?_
  exact Qc (congrArg PV.zz (by rw[tH];unfold zv;cases m<;>simp<;>omega)) rfl
theorem Rn{a:List Nat}{g:Nat}(ha:Qj a)(hx:a.length<2^36)(hy:nl g<2^36)(h0:g≠0):Qd Tryz.prog 147 [PV.nat a,PV.num g] (· = .aI [PV.num (val a/g),PV.num (val a%g),.int .i64 0]):=by
 have:=QV ha (Qk g) hx hy
 rwa[Qw,if_neg h0]at this
theorem akf(n:Bool)(a:List Nat)(D:Nat):zv n (ak (val a/Nat.gcd (val a) D))=zv n a/(Nat.gcd (zv n a).natAbs D:Int):=by
 rw[jA,tH]
 unfold zv
 cases n
 ·simp
 ·have hd:((Nat.gcd (val a) D:Nat):Int)∣(val a:Int):=Int.natCast_dvd_natCast.2 (Kc8 _ _)
  simp only[if_true]
  rw[Int.neg_ediv_of_dvd hd,Int.natCast_ediv]
theorem Ro{n:Bool}{a d:List Nat}(ha:Qj a)(hd:Qj d)(bG:a.length<2^36)(rB:d.length<2^36):Qd Tryz.prog 119 [PV.zi n a,PV.nat d] (· =PV.rat (rv n a d)):=by
 have iF:=bZ ha
 have uo:=bZ hd
 refine aE Qg Tryz.func119 ahk fun C hP=> ?_
 refine Sz0 ?_
 refine Qb hP (oA hd Oz) ?_
 refine Sz0 ?_
 refine Qa (fun hz=> ?_) (fun hz=> ?_)
 ·have h0:val d=0:=kP.1 (qz (n:=val d) Oz)
  refine Sz0 ?_
  refine Qb hP (qy (n:=1) Oz) ?_
  refine Sz0 ?_
  refine cn ?_
  refine Sz0 ?_
  exact(by unfold rv;rw[RM (.inl h0),tB];exact oI On rfl)
 ·have h0:val d≠0:=fun h=>by rw[h,fI]at hz;exact hz rfl
  have qk:Nat.gcd (val a) (val d)≠0:=fun h=>h0 (Nat.gcd_eq_zero_iff.1 h).2
  have hg:=gC (Kda (val a) (Kba h0))
  have hq:=PN (val a) (Nat.gcd (val a) (val d))
  refine Sz0 ?_
  refine Qb hP (RP ha hd bG rB) ?_
  refine Sz0 ?_
  refine Qb hP (Rn ha bG Oz qk) ?_
  refine Sz0 ?_
  refine Qb hP (Rn hd rB Oz qk) ?_
  refine Sz0 ?_
  refine Qb hP (DC (n:=n) (Qk (val a/Nat.gcd (val a) (val d))) (show nl _<_ by omega)) ?_
  rw[akf]
  have hm:=AW (z:=zv n a) h0
  refine Sz0 ?_
  refine cn ?_
  refine Sz0 ?_
  exact Qc (by unfold rv;rw[PV.rat,hm.1,hm.2,jA]) rfl
theorem tf{n:Bool}{a d:List Nat}{k:Nat}(hp:Raw k n a d)(hk:k<2^36):Qd Tryz.prog 89 [PV.rr n a d] (· =PV.rat (rv n a d)):=by
 obtain⟨ha,hd,sa,sd,k1⟩:=hp
 refine aE Qg Tryz.func89 ajA fun C hP=> ?_
 refine Sz0 ?_
 refine Qb hP (Ro (n:=n) ha hd Oz Oz) ?_
 refine Sz0 ?_
 refine cn ?_
 refine Sz0 ?_
 exact Qc rfl rfl
theorem yN{z:Int}{D:Nat}(hz:nl z.natAbs<2^36)(hD:nl D<2^36):Qd Tryz.prog 119 [PV.zz z,PV.num D] (· =PV.rat (mkRat z D)):=by
 have:=Ro (n:=decide (z<0)) (Qk z.natAbs) (Qk D) hz hD
 rwa[rv,mK,Qw]at this
theorem AE{x:Int}(h1: -9223372036854775808<=x)(h2:x<=9223372036854775807):Qd Tryz.prog 50 [.int .i64 x] (· =PV.rat (x:Rat)):=by
 have xT:nl x.natAbs<=4:=oH Oz
 refine aE Qg Tryz.func50 ajB fun C hP=> ?_
 refine Sz0 ?_
 refine Qb hP (IE h1 h2) ?_
 refine Sz0 ?_
 refine Qb hP (qy (n:=1) Oz) ?_
 refine Sz0 ?_
 refine Qb hP (yN (z:=x) (D:=1) Oz (by rw[vf];omega)) ?_
 refine Sz0 ?_
 refine cn ?_
 refine Sz0 ?_
 exact Qc (congrArg PV.rat (Rat.mkRat_one x)) rfl
theorem yF(d:List Nat):Qd Tryz.prog 151 [PV.nat d] (· =PV.zi false d):=by
 refine aE Qg Tryz.func151 ahm fun C hP=> ?_
 refine Sz0 ?_
 refine cn ?_
 refine Sz0 ?_
 exact Qc rfl rfl
theorem Tb{x:Int}(hx:nl x.natAbs<2^42):Qd Tryz.prog 88 [PV.zz x] (· = .int .i64 (fa x)):=by
 have:=W7 (n:=decide (x<0)) (Qk x.natAbs) hx
 rwa[mK]at this
theorem DD{n:Bool}{a d:List Nat}{k:Nat}(hp:Raw k n a d)(hk:k<2^36):Qd Tryz.prog 27 [PV.rr n a d] (· = .int .i64 (gd (rv n a d))):=by
 have hs:=hp.rs
 unfold FW.rs at hs
 refine aE Qg Tryz.func27 ajC fun C hP=> ?_
 refine Sz0 ?_
 refine Qb hP (tf hp hk) ?_
 refine Sz0 ?_
 refine Qb hP (Tb (x:=(rv n a d).num) Oz) ?_
 refine Sz0 ?_
 exact Qc rfl rfl
theorem yR{x:Int}{d:Nat}(hx:nl x.natAbs<2^40)(hy:nl d<2^40):Qd Tryz.prog 148 [PV.zz x,PV.zi false (ak d)] (· =PV.zz (x*(d:Int))):=by
 have:=RR (n:=decide (x<0)) (m:=false) (Qk x.natAbs) (Qk d) hx hy
 rwa[mK,uX,Qw]at this
theorem abY{x y:Int}(hx:nl x.natAbs<2^40)(hy:nl y.natAbs<2^40):Qd Tryz.prog 150 [PV.zz x,PV.zz y] (· =PV.zz (x+y)):=by
 have:=XQ (n:=decide (x<0)) (m:=decide (y<0)) (Qk x.natAbs) (Qk y.natAbs) hx hy
 rwa[mK,mK]at this
theorem abZ{x y:Int}(hx:nl x.natAbs<2^41)(hy:nl y.natAbs<2^41):Qd Tryz.prog 182 [PV.zz x,PV.zz y] (· = .int .i64 (dC x y)):=by
 have:=XP (n:=decide (x<0)) (m:=decide (y<0)) (Qk x.natAbs) (Qk y.natAbs) hx hy
 rwa[mK,mK]at this
theorem Xh{n m:Bool}{a d b c:List Nat}{k:Nat}(hp:Raw k n a d)(hq:Raw k m b c)(hk:k<2^34):Qd Tryz.prog 85 [PV.rr n a d,PV.rr m b c] (· =PV.rat (rv n a d*rv m b c)):=by
 obtain⟨ha,hd,sa,sd,k1⟩:=hp
 obtain⟨hb,hc,sb,sc,k2⟩:=hq
 have h1:=iy (zv n a) (zv m b)
 have h2:=pS (val d) (val c)
 rw[jA,jA]at h1
 have e1:=bZ ha
 have e2:=bZ hd
 have e3:=bZ hb
 have e4:=bZ hc
 refine aE Qg Tryz.func85 ake fun C hP=> ?_
 refine Sz0 ?_
 refine Qb hP (RR (n:=n) (m:=m) ha hb Oz Oz) ?_
 refine Sz0 ?_
 refine Qb hP (Ih hd hc Oz Oz) ?_
 refine Sz0 ?_
 refine Qb hP (yN (z:=zv n a*zv m b) (D:=val d*val c) Oz Oz) ?_
 refine Sz0 ?_
 refine cn ?_
 refine Sz0 ?_
 exact Qc (congrArg PV.rat (Rat.mkRat_mul_mkRat _ _ _ _).symm) rfl
theorem RS{n m:Bool}{a d b c:List Nat}{k:Nat}(hp:Raw k n a d)(hq:Raw k m b c)(hk:k<2^34):Qd Tryz.prog 118 [PV.rr n a d,PV.rr m b c] (· = .int .i64 (oT (rv n a d) (rv m b c))):=by
 have hx:=hp.rs
 have hy:=hq.rs
 unfold FW.rs at hx hy
 refine aE Qg Tryz.func118 ahn fun C hP=> ?_
 refine Sz0 ?_
 refine Qb hP (tf hp Oz) ?_
 refine Sz0 ?_
 refine Qb hP (tf hq Oz) ?_
 generalize rv n a d=p at *
 generalize rv m b c=q at *
 have h1:=iy p.num (q.den:Int)
 have h2:=iy q.num (p.den:Int)
 rw[Kbh]at h1 h2
 refine Sz0 ?_
 refine Qb hP (yF (ak q.den)) ?_
 refine Sz0 ?_
 refine Qb hP (yR (x:=p.num) (d:=q.den) Oz Oz) ?_
 refine Sz0 ?_
 refine Qb hP (yF (ak p.den)) ?_
 refine Sz0 ?_
 refine Qb hP (yR (x:=q.num) (d:=p.den) Oz Oz) ?_
 refine Sz0 ?_
 refine Qb hP (abZ (x:=p.num*(q.den:Int)) (y:=q.num*(p.den:Int)) Oz Oz) ?_
 refine Sz0 ?_
 exact Qc (congrArg (PV.int .i64) (by rw[<-Oo p.den_nz q.den_nz,KcW,KcW])) rfl
theorem WC{n m:Bool}{a d b c:List Nat}{k:Nat}(hp:Raw k n a d)(hq:Raw k m b c)(hk:k<2^34):Qd Tryz.prog 49 [PV.rr n a d,PV.rr m b c] (· = .bool (decide (rv n a d=rv m b c))):=by
 refine aE Qg Tryz.func49 ajD fun C hP=> ?_
 refine Sz0 ?_
 refine Qb hP (RS hp hq hk) ?_
 refine Sz0 ?_
 exact Qc (congrArg PV.bool (decide_eq_decide.2 El)) rfl
theorem RU{n m:Bool}{a d b c:List Nat}{k:Nat}(hp:Raw k n a d)(hq:Raw k m b c)(hk:k<2^34):Qd Tryz.prog 87 [PV.rr n a d,PV.rr m b c] (· =PV.rat (rv n a d+rv m b c)):=by
 have hx:=hp.rs
 have hy:=hq.rs
 unfold FW.rs at hx hy
 refine aE Qg Tryz.func87 ajF fun C hP=> ?_
 refine Sz0 ?_
 refine Qb hP (tf hp Oz) ?_
 refine Sz0 ?_
 refine Qb hP (tf hq Oz) ?_
 generalize rv n a d=p at *
 generalize rv m b c=q at *
 have h1:=iy p.num (q.den:Int)
 have h2:=iy q.num (p.den:Int)
 have h3:=rR (p.num*(q.den:Int)) (q.num*(p.den:Int))
 have h4:=pS p.den q.den
 rw[Kbh]at h1 h2
 refine Sz0 ?_
 refine Qb hP (yF (ak q.den)) ?_
 refine Sz0 ?_
 refine Qb hP (yR (x:=p.num) (d:=q.den) Oz Oz) ?_
 refine Sz0 ?_
 refine Qb hP (yF (ak p.den)) ?_
 refine Sz0 ?_
 refine Qb hP (yR (x:=q.num) (d:=p.den) Oz Oz) ?_
 refine Sz0 ?_
 refine Qb hP (abY (x:=p.num*(q.den:Int)) (y:=q.num*(p.den:Int)) Oz Oz) ?_
 refine Sz0 ?_
 refine Qb hP (Eb (x:=p.den) (y:=q.den) Oz Oz) ?_
 refine Sz0 ?_
 refine Qb hP (yN (z:=p.num*(q.den:Int)+q.num*(p.den:Int)) (D:=p.den*q.den) Oz Oz) ?_
 refine Sz0 ?_
 refine cn ?_
 refine Sz0 ?_
 exact Qc (congrArg PV.rat (by rw[<-Rat.mkRat_add_mkRat _ _ p.den_nz q.den_nz,KcW,KcW])) rfl
theorem Ri{n:Bool}{a d:List Nat}{k:Nat}(hp:Raw k n a d)(hk:k<2^36):Qd Tryz.prog 25 [PV.rr n a d] (· = .bool (kj n a d)):=by
 obtain⟨ha,hd,sa,sd,k1⟩:=hp
 have xP:(ak (Nat.gcd (val a) (val d))).length<2^43:=by
  by_cases h0:val d=0
  ·rw[h0,Kc2]
   have h4:=bZ ha
   unfold nl at h4;omega
  ·have h3:=gC (Kda (val a) (Kba h0))
   have h4:=bZ hd
   unfold nl at h3 h4;omega
 refine aE Qg Tryz.func25 ajz fun C hP=> ?_
 refine Sz0 ?_
 refine Qb hP (WB ha Oz) ?_
 unfold kj
 refine Sz0 ?_
 cases hio:oN n a
 ·refine Sz0 ?_
  exact Qc (by simp) rfl
 rw[Kco]
 refine Sz0 ?_
 refine Qb hP (Rg hd Oz) ?_
 refine Sz0 ?_
 refine yL (fun hv=> ?_) (fun hv=> ?_)
 ·refine Sz0 ?_
  refine Qb hP (RP ha hd Oz Oz) ?_
  refine Sz0 ?_
  refine Qb hP (qy (n:=1) Oz) ?_
  refine Sz0 ?_
  refine Qb hP (W6 xP (by rw[tB];decide)) ?_
  rw[tB,decide_eq_decide.2 (Rw (Nat.gcd (val a) (val d)))]
  refine Sz0 ?_
  refine fV (fun hg=> ?_) (fun hg=> ?_)
  ·refine Sz0 ?_
   exact Qc (congrArg PV.bool (by cases d<;>simp_all)) rfl
  ·refine Sz0 ?_
   exact Qc (congrArg PV.bool (by simp[hg])) rfl
 ·refine Sz0 ?_
  exact Qc (congrArg PV.bool (by simp_all)) rfl
theorem HZ(x:Int):Qd Tryz.prog 132 [.int .i64 x] (· = .int .i64 (fa x)):=by
 refine aE Qg Tryz.func132 agJ fun C hP=> ?_
 refine Sz0 ?_
 refine Qa (fun h=> ?_) (fun h=> ?_)
 ·refine Sz0 ?_
  exact Qc (by rw[fa,if_pos h]) rfl
 refine Sz0 ?_
 refine Qa (fun h2=> ?_) (fun h2=> ?_)
 ·refine Sz0 ?_
  exact Qc (by rw[fa,if_neg h,if_pos h2]) rfl
 ·refine Sz0 ?_
  exact Qc (by rw[fa,if_neg h,if_neg h2]) rfl
theorem Xi{a:List Int}{v:Int}(hl:a.length<2^42):Qd Tryz.prog 66 [PV.mono a,.int .i64 v] (· = .int .i64 (if v<0 then 0 else eN a v.toNat)):=by
 refine aE Qg Tryz.func66 ai8 fun C hP=> ?_
 refine Sz0 ?_
 refine Qx (fun h1=> ?_) (fun h1=> ?_)
 ·refine Sz0 ?_
  exact Qc (by rw[if_pos h1]) rfl
 ·obtain⟨n,rfl⟩:∃n:Nat,v=n:=⟨v.toNat,by omega⟩
  rw[if_neg h1]
  refine Sz0 ?_
  refine Qa (fun h2=> ?_) (fun h2=> ?_)
  ·refine Sz0 ?_
   exact Qc (by rw[gW Oz]) rfl
  ·have hn:n<a.length:=by omega
   refine Sz0 ?_
   exact Qc (by rw[fw hn]) rfl
theorem pM{a:List Int}{i:Nat}(hl:a.length<2^42):Qd Tryz.prog 66 [PV.mono a,.int .i64 i] (· = .int .i64 (eN a i)):=by
 have:=Xi (v:=i) hl
 rwa[if_neg Oz,Kcz]at this
theorem Dx{a:List Int}(hl:a.length<=1048576)(hb:∀x∈a,0<=x/\x<=1099511627776):Qd Tryz.prog 131 [PV.mono a] (· = .int .i64 (dj a)):=by
 refine aE Qg Tryz.func131 agI fun C hP=> ?_
 refine Sz0 ?_
 refine Ql okB [(3,16)] [] (fun k J hp=>∃(i:Nat)(s:Int),k=a.length-i/\i<=a.length/\0<=s/\s<=1099511627776*i/\s+(a.drop i).sum=dj a/\J 4= .int .i64 (i:Nat)/\J 3= .int .i64 s/\hp=aA) a.length ?_ ?_
 ·refine⟨0,0,rfl,by omega,by omega,by omega,by simp[dj],?_⟩
  refine Sz0 ?_
  simp
 rintro _ J _ ⟨i,s,rfl,hi,gz,eT,pw,h4,h3,rfl⟩
 refine Sz2 h4 h3 ?_
 refine Qa (fun hg=> ?_) (fun hg=> ?_)
 ·have ao:i<a.length:=by omega
  have hx:=hb _ (Kai ao)
  rw[Kaw ao,KcR]at pw
  generalize dJ:a[i]=x at *
  refine Sz3 h4 h3 dJ ?_
  refine Qf (a.length-(i+1)) Oz ⟨i+1,s+x,rfl,by omega,by omega,by push_cast;omega,by omega,?_⟩
  exact Tz0
 ·rw[Kan Oz,List.sum_nil,Int.add_zero]at pw
  refine Sz1 h3 ?_
  exact Qc (by rw[pw]) rfl
theorem WD{a:List Int}(hl:a.length<2^42):Qd Tryz.prog 64 [PV.mono a] (· = .bool (cD a)):=by
 refine aE Qg Tryz.func64 ai7 fun C hP=> ?_
 refine Sz0 ?_
 have bad:(64<a.length∨a.getLast? =some 0∨∃x∈a,x<0∨1048576<x)->cD a=false:=fun h=>by
  cases hb:cD a with
  |false=>rfl
  |true=>
   have:=MB.sY hb
   simp only[cD,Kar,decide_eq_true_eq]at hb
   rcases h with h|h|⟨x,hx,h⟩
   ·omega
   ·exact absurd h hb.2.1
   ·have h5:=this.lo x hx;have h6:=this.hi x hx;omega
 refine Qx (fun h1=> ?_) (fun h1=> ?_)
 ·refine Sz0 ?_
  exact Qc (by rw[bad (.inl Oz)]) rfl
 refine Sz0 ?_
 have fin:a.length<=64->a.getLast? ≠some 0->(∀x∈a,0<=x/\x<=1048576)->cD a=true:=fun h1 h2 h3=>by
  simp only[cD,Kar,decide_eq_true_eq,Kas];exact⟨h1,h2,h3⟩
 refine fV (fun h2=> ?_) (fun h2=> ?_)
 ·obtain⟨k,hk⟩:∃k,a.length=k+1:=⟨a.length-1,by omega⟩
  have iq:=I9 hk
  have e:((k+1:Nat):Int)-1=k:=by omega
  generalize hy:a[k]'Oz=y at *
  refine Sz3 hk e hy ?_
  refine Qa (fun h3=> ?_) (fun h3=> ?_)
  ·refine Sz0 ?_
   exact Qc (by rw[bad (.inr (.inl (by rw[iq,h3])))]) rfl
  have iq:a.getLast? ≠some 0:=by rw[iq];simpa using h3
  rw[<-hk]at *
  refine Sz0 ?_
  refine Ql okB [(2,3),(21,38)] [] (fun k J hp=>∃i,k=a.length-i/\i<=a.length/\(∀x∈a.take i,0<=x/\x<=1048576)/\J 3= .int .i64 i/\hp=aA) a.length ?_ ?_
  ·refine⟨0,rfl,by omega,by simp,?_⟩
   refine Sz0 ?_
   rfl
  rintro _ J _ ⟨i,rfl,hi,cH,hj,rfl⟩
  refine Sz1 hj ?_
  refine Qa (fun hg=> ?_) (fun hg=> ?_)
  ·have ao:i<a.length:=by omega
   have dn:=Kai ao
   have aW:∀x∈a.take (i+1),x∈a.take i∨x=a[i]:=fun x hx=>by
    rw[Kak ao]at hx
    rcases KaK.1 hx with h|h
    ·exact .inl h
    ·exact .inr (KaB.1 h)
   generalize hx:a[i]=x at *
   refine Sz2 hj hx ?_
   refine Qx (fun h5=> ?_) (fun h5=> ?_)
   ·refine Sz0 ?_
    exact Qc (by rw[bad (.inr (.inr ⟨x,dn,.inl h5⟩))]) rfl
   ·refine Sz2 hj hx ?_
    refine Qa (fun h6=> ?_) (fun h6=> ?_)
    ·refine Sz0 ?_
     exact Qc (by rw[bad (.inr (.inr ⟨x,dn,.inr h6⟩))]) rfl
    ·refine Sz1 hj ?_
     refine Qf (a.length-(i+1)) Oz ⟨i+1,rfl,by omega,fun y hy=> ?_,?_⟩
     ·rcases aW y hy with h|rfl
      ·exact cH y h
      ·omega
     ·exact Tz0
  ·rw[Kac Oz]at cH
   refine Sz0 ?_
   exact Qc (by rw[fin Oz iq cH]) rfl
 ·have K6:a=[]:=KaE.1 Oz
  have iq:a.getLast? ≠some 0:=by rw[K6];simp
  refine Sz0 ?_
  refine Ql okB [(2,3),(21,38)] [] (fun k J hp=>∃i,k=a.length-i/\i<=a.length/\(∀x∈a.take i,0<=x/\x<=1048576)/\J 3= .int .i64 i/\hp=aA) a.length ?_ ?_
  ·refine⟨0,rfl,by omega,by simp,?_⟩
   refine Sz0 ?_
   rfl
  rintro _ J _ ⟨i,rfl,hi,cH,hj,rfl⟩
  refine Sz1 hj ?_
  refine Qa (fun hg=> ?_) (fun hg=> ?_)
  ·have ao:i<a.length:=by omega
   have dn:=Kai ao
   have aW:∀x∈a.take (i+1),x∈a.take i∨x=a[i]:=fun x hx=>by
    rw[Kak ao]at hx
    rcases KaK.1 hx with h|h
    ·exact .inl h
    ·exact .inr (KaB.1 h)
   generalize hx:a[i]=x at *
   refine Sz2 hj hx ?_
   refine Qx (fun h5=> ?_) (fun h5=> ?_)
   ·refine Sz0 ?_
    exact Qc (by rw[bad (.inr (.inr ⟨x,dn,.inl h5⟩))]) rfl
   ·refine Sz2 hj hx ?_
    refine Qa (fun h6=> ?_) (fun h6=> ?_)
    ·refine Sz0 ?_
     exact Qc (by rw[bad (.inr (.inr ⟨x,dn,.inr h6⟩))]) rfl
    ·refine Sz1 hj ?_
     refine Qf (a.length-(i+1)) Oz ⟨i+1,rfl,by omega,fun y hy=> ?_,?_⟩
     ·rcases aW y hy with h|rfl
      ·exact cH y h
      ·omega
     ·exact Tz0
  ·rw[Kac Oz]at cH
   refine Sz0 ?_
   exact Qc (by rw[fin Oz iq cH]) rfl
theorem Xj{k:Nat}{a b:List Int}(ha:MB k a)(hb:MB k b)(hk:k<=1099511627776):Qd Tryz.prog 98 [PV.mono a,PV.mono b] (· =PV.mono (ks (· + ·) a b)):=by
 have h1:=ha.len
 have h2:=hb.len
 have hz:=pK (· + ·) a b
 refine aE Qg Tryz.func98 ai9 fun C hP=> ?_
 refine Sz0 ?_
 refine iL 5 900 1 3 Oz Tz0 ?_
 refine Ql okB [(5,28)] [27,28,900] (fun m J hp=>∃(i:Nat)(out:List Int),m=max a.length b.length-i/\i<=max a.length b.length/\out=(ks (· + ·) a b).take i/\J 5= .ms 900 out.length/\J 6= .int .i64 i/\hp 900=some ⟨1,3,pY out,false⟩) (max a.length b.length) ?_ ?_
 ·refine⟨0,[],rfl,by omega,by simp,?_⟩
  refine Sz0 ?_
  simp
 rintro _ J h ⟨i,out,rfl,hi,nj,h5,h6,hh⟩
 have fQ:out.length=i:=by rw[nj,KaI,hz];omega
 refine Sz2 h5 h6 ?_
 refine Qx (fun hg=> ?_) (fun hg=> ?_)
 ·have au:i<max a.length b.length:=by omega
  have aW:=IL (g:=(· + ·)) au
  have ea:=ha.eN i
  have eb:=hb.eN i
  refine Sz2 h5 h6 ?_
  refine Qb hP (pM (a:=a) (i:=i) Oz) ?_
  refine Sz2 h5 h6 ?_
  refine Qb hP (pM (a:=b) (i:=i) Oz) ?_
  refine Sz2 h5 h6 ?_
  rw[Qq (f:=fun(x:Int)=> .int .i64 x) (y:=eN a i+eN b i) (xs:=out) (ty':=3) (fz:=false) (Tz1 hh) cP Oz rfl Oz Oz]
  refine Sz2 h5 h6 ?_
  refine Qf (max a.length b.length-(i+1)) Oz ⟨i+1,out++[eN a i+eN b i],rfl,by omega,by rw[aW,nj],?_⟩
  refine Sz0 ?_
  simp
 refine Sz2 h5 h6 ?_
 refine Qa (fun eZ=> ?_) (fun eZ=> ?_)
 ·have au:i<max a.length b.length:=by omega
  have aW:=IL (g:=(· + ·)) au
  have ea:=ha.eN i
  have eb:=hb.eN i
  refine Sz2 h5 h6 ?_
  refine Qb hP (pM (a:=a) (i:=i) Oz) ?_
  refine Sz2 h5 h6 ?_
  refine Qb hP (pM (a:=b) (i:=i) Oz) ?_
  refine Sz2 h5 h6 ?_
  rw[Qq (f:=fun(x:Int)=> .int .i64 x) (y:=eN a i+eN b i) (xs:=out) (ty':=3) (fz:=false) (Tz1 hh) cP Oz rfl Oz Oz]
  refine Sz2 h5 h6 ?_
  refine Qf (max a.length b.length-(i+1)) Oz ⟨i+1,out++[eN a i+eN b i],rfl,by omega,by rw[aW,nj],?_⟩
  refine Sz0 ?_
  simp
 obtain rfl:i=max a.length b.length:=by omega
 rw[Kac Oz]at nj
 subst nj
 refine nU h5 hh ?_
 exact Qc (by rw[Kac (by simp)]) rfl
theorem Jp(x y:Int):fa (x-y)=dC x y:=by unfold fa dC;(repeat' split)<;>omega
theorem Xk{k:Nat}{a b:List Int}{o:Int}(ha:MB k a)(hb:MB k b)(hk:k<=1099511627776):Qd Tryz.prog 65 [PV.mono a,PV.mono b,.int .i64 o] (· = .int .i64 (kt o a b)):=by
 have h1:=ha.len
 have h2:=hb.len
 have gM:∀x∈a,0<=x/\x<=1099511627776:=fun x hx=>by have:=ha.lo x hx;have:=ha.hi x hx;omega
 have jq:∀x∈b,0<=x/\x<=1099511627776:=fun x hx=>by have:=hb.lo x hx;have:=hb.hi x hx;omega
 have da:=Fk ha
 have db:=Fk hb
 refine aE Qg Tryz.func65 aja fun C hP=> ?_
 refine Sz0 ?_
 refine fV (fun ho=> ?_) (fun ho=> ?_)
 ·refine Sz0 ?_
  refine Qb hP (Dx Oz gM) ?_
  refine Sz0 ?_
  refine Qb hP (Dx Oz jq) ?_
  refine Sz0 ?_
  refine Qa (fun hd=> ?_) (fun hd=> ?_)
  ·have kG:kt o a b=dC (dj a) (dj b):=by unfold kt;rw[if_pos ⟨ho,hd⟩]
   refine Sz0 ?_
   refine Qb hP (Dx Oz gM) ?_
   refine Sz0 ?_
   refine Qb hP (Dx Oz jq) ?_
   refine Sz0 ?_
   refine Qb hP (HZ _) ?_
   refine Sz0 ?_
   exact Qc (by rw[kG,Jp]) rfl
  have kG:kt o a b=aX a b:=by unfold kt;rw[if_neg (fun h=>hd h.2)]
  refine Sz0 ?_
  refine Ql okB [(6,7),(29,47)] [] (fun n J hp=>n<=max a.length b.length/\dP a b n=aX a b/\J 7= .int .i64 ((n:Int)-1)/\hp=aA) (max a.length b.length) ?_ ?_
  ·refine⟨by omega,rfl,?_⟩
   exact Tz0
  rintro n J _ ⟨hn,hc,h7,rfl⟩
  refine Sz1 h7 ?_
  refine Qa (fun hg=> ?_) (fun hg=> ?_)
  ·obtain _|n:=n
   ·omega
   have e:((n+1:Nat):Int)-1=n:=by omega
   have ea:=ha.eN n
   have eb:=hb.eN n
   rw[dP]at hc
   refine Sz2 h7 e ?_
   refine Qb hP (pM Oz) ?_
   refine Sz2 h7 e ?_
   refine Qb hP (pM Oz) ?_
   refine Sz2 h7 e ?_
   refine Qa (fun h4=> ?_) (fun h4=> ?_)
   ·rw[if_neg h4]at hc
    refine Sz2 h7 e ?_
    refine Qb hP (pM Oz) ?_
    refine Sz2 h7 e ?_
    refine Qb hP (pM Oz) ?_
    refine Sz2 h7 e ?_
    refine Qb hP (HZ _) ?_
    refine Sz2 h7 e ?_
    exact Qc (by rw[kG,<-hc,Jp]) rfl
   ·rw[if_pos Oz]at hc
    refine Sz2 h7 e ?_
    refine Qf n Oz ⟨by omega,hc,?_⟩
    exact Tz0
  ·obtain rfl:n=0:=by omega
   refine Sz0 ?_
   exact Qc (by rw[kG,<-hc];rfl) rfl
 ·have kG:kt o a b=aX a b:=by unfold kt;rw[if_neg (fun h=>ho h.1)]
  refine Sz0 ?_
  refine Ql okB [(6,7),(29,47)] [] (fun n J hp=>n<=max a.length b.length/\dP a b n=aX a b/\J 7= .int .i64 ((n:Int)-1)/\hp=aA) (max a.length b.length) ?_ ?_
  ·refine⟨by omega,rfl,?_⟩
   exact Tz0
  rintro n J _ ⟨hn,hc,h7,rfl⟩
  refine Sz1 h7 ?_
  refine Qa (fun hg=> ?_) (fun hg=> ?_)
  ·obtain _|n:=n
   ·omega
   have e:((n+1:Nat):Int)-1=n:=by omega
   have ea:=ha.eN n
   have eb:=hb.eN n
   rw[dP]at hc
   refine Sz2 h7 e ?_
   refine Qb hP (pM Oz) ?_
   refine Sz2 h7 e ?_
   refine Qb hP (pM Oz) ?_
   refine Sz2 h7 e ?_
   refine Qa (fun h4=> ?_) (fun h4=> ?_)
   ·rw[if_neg h4]at hc
    refine Sz2 h7 e ?_
    refine Qb hP (pM Oz) ?_
    refine Sz2 h7 e ?_
    refine Qb hP (pM Oz) ?_
    refine Sz2 h7 e ?_
    refine Qb hP (HZ _) ?_
    refine Sz2 h7 e ?_
    exact Qc (by rw[kG,<-hc,Jp]) rfl
   ·rw[if_pos Oz]at hc
    refine Sz2 h7 e ?_
    refine Qf n Oz ⟨by omega,hc,?_⟩
    exact Tz0
  ·obtain rfl:n=0:=by omega
   refine Sz0 ?_
   exact Qc (by rw[kG,<-hc];rfl) rfl
theorem NY{a b:Rat}{k:Nat}(ha:rs a<=k)(hb:rs b<=k)(hk:k<2^34):Qd Tryz.prog 87 [PV.rat a,PV.rat b] (· =PV.rat (a+b)):=by
 have:=RU (eW ha) (eW hb) hk
 rwa[dE,dE]at this
theorem EV{a b:Rat}{k:Nat}(ha:rs a<=k)(hb:rs b<=k)(hk:k<2^34):Qd Tryz.prog 85 [PV.rat a,PV.rat b] (· =PV.rat (a*b)):=by
 have:=Xh (eW ha) (eW hb) hk
 rwa[dE,dE]at this
theorem adW{a b:Rat}{k:Nat}(ha:rs a<=k)(hb:rs b<=k)(hk:k<2^34):Qd Tryz.prog 118 [PV.rat a,PV.rat b] (· = .int .i64 (oT a b)):=by
 have:=RS (eW ha) (eW hb) hk
 rwa[dE,dE]at this
theorem AK{a:Rat}(ha:rs a<2^36):Qd Tryz.prog 27 [PV.rat a] (· = .int .i64 (gd a)):=by
 have:=DD (eW (Kaf (rs a))) ha
 rwa[dE]at this
theorem BO{k:Nat}{a b:List Int}(ha:MB k a)(hb:MB k b)(hk:k<=1099511627776):Qd Tryz.prog 65 [PV.mono a,PV.mono b,.int .i64 0] (· = .int .i64 (aX a b)):=by
 have:=Xk (o:=0) ha hb hk
 rwa[BH]at this
theorem Xl{p q:List Tm}{K E:Nat}(hp:PB K E p)(hq:PB K E q)(hK:K<=2^33)(hE:E<=2^38)(dm:p.length<=2^36)(nf:q.length<=2^36):
  Qd Tryz.prog 113 [PV.aM p,PV.aM q] (· = .int .i64 (je p q)):=by
 refine aE Qg Tryz.func113 agL fun C hP=> ?_
 refine Sz0 ?_
 refine Ql okB [(4,47)] [] (fun n J hp=>∃i,n=p.length-i/\i<=p.length/\i<=q.length/\je (p.drop i) (q.drop i)=je p q/\J 5= .int .i64 (i:Nat)) p.length ?_ ?_
 ·refine⟨0,rfl,by omega,by omega,rfl,?_⟩
  refine Sz0 ?_
  rfl
 rintro _ J h ⟨i,rfl,hi,gj,fR,h5⟩
 refine Sz1 h5 ?_
 refine fV (fun hg=> ?_) (fun hg=> ?_)
 ·have ao:i<p.length:=by omega
  refine Sz1 h5 ?_
  refine Qa (fun hk=> ?_) (fun hk=> ?_)
  ·have cf:i<q.length:=by omega
   have cJ:=hp.get ao
   have pz:=hq.get cf
   have c1:=cJ.c
   have c2:=pz.c
   rw[LV ao cf]at fR
   generalize hx:p[i]=x at *
   generalize hy:q[i]=y at *
   refine Sz3 h5 hx hy ?_
   refine Qb hP (BO cJ.m pz.m Oz) ?_
   refine Sz3 h5 hx hy ?_
   refine Qa (fun hc=> ?_) (fun hc=> ?_)
   ·refine Sz0 ?_
    exact Qc (by rw[<-fR,if_pos (by rw[nS,if_pos hc];exact hc),nS,if_pos hc]) rfl
   ·refine Sz3 h5 hx hy ?_
    refine Qb hP (adW (a:=x.1) (b:=y.1) (k:=2^33) Oz Oz Oz) ?_
    refine Sz3 h5 hx hy ?_
    refine Qa (fun ie=> ?_) (fun ie=> ?_)
    ·refine Sz0 ?_
     exact Qc (by rw[<-fR,if_pos (by rw[nS,if_neg hc];exact ie),nS,if_neg hc]) rfl
    ·rw[if_neg (by rw[nS,if_neg hc];exact ie)]at fR
     refine Sz1 h5 ?_
     refine Qf (p.length-(i+1)) Oz ⟨i+1,rfl,by omega,by omega,fR,?_⟩
     exact Tz0
  refine Sz0 ?_
  refine Qa (fun hk=> ?_) (fun hk=> ?_)
  ·refine Sz0 ?_
   exact Qc (by rw[<-fR,Kan (show p.length<=i by omega),Bl,if_neg (by rw[Ka7];omega)]) rfl
  ·refine Sz0 ?_
   refine Qa (fun ry=> ?_) (fun ry=> ?_)
   ·refine Sz0 ?_
    refine Qc ?_ rfl
    rw[<-fR,Kaw (show i<p.length by omega),Kan (show q.length<=i by omega),je]
   ·refine Sz0 ?_
    exact Qc (by rw[<-fR,Kan (show p.length<=i by omega),Bl,if_pos (by rw[Ka7];omega)]) rfl
 ·have ao:i=p.length:=by omega
  refine Sz0 ?_
  refine Qa (fun hk=> ?_) (fun hk=> ?_)
  ·refine Sz0 ?_
   exact Qc (by rw[<-fR,Kan (show p.length<=i by omega),Bl,if_neg (by rw[Ka7];omega)]) rfl
  ·refine Sz0 ?_
   refine Qa (fun ry=> ?_) (fun ry=> ?_)
   ·refine Sz0 ?_
    refine Qc ?_ rfl
    rw[<-fR,Kaw (show i<p.length by omega),Kan (show q.length<=i by omega),je]
   ·refine Sz0 ?_
    exact Qc (by rw[<-fR,Kan (show p.length<=i by omega),Bl,if_pos (by rw[Ka7];omega)]) rfl
theorem Wn{p q:List Tm}{K E:Nat}(hp:PB K E p)(hq:PB K E q)(hK:K<=2^33)(hE:E<=2^38)(dm:p.length<=2^36)(nf:q.length<=2^36):Qd Tryz.prog 40 [PV.aM p,PV.aM q] (· = .bool (decide (p=q))):=by
 refine aE Qg Tryz.func40 ajH fun C hP=> ?_
 refine Sz0 ?_
 refine Qb hP (Xl hp hq hK hE dm nf) ?_
 refine Sz0 ?_
 exact Qc (congrArg PV.bool (decide_eq_decide.2 (JS hp.last hq.last))) rfl
theorem RW{p q:List Tm}{K E:Nat}(hp:PB K E p)(hq:PB K E q)(hK:K<=2^32)(hE:E<=2^38)(dm:p.length<=2^36)(nf:q.length<=2^36):
  Qd Tryz.prog 110 [PV.aM p,PV.aM q] (· =PV.aM (aN p q)):=by
 refine aE Qg Tryz.func110 agK fun C hP=> ?_
 refine Sz0 ?_
 refine iL 5 900 4 95 Oz Tz0 ?_
 refine Ql okB [(5,90)] [9,61,62,75,76,87,88,900] (fun n J hp=>∃i k out,n=(p.length-i)+(q.length-k)/\i<=p.length/\k<=q.length/\out.length<=i+k/\out++aN (p.drop i) (q.drop k)=aN p q/\
  J 5= .ms 900 out.length/\J 6= .int .i64 (i:Nat)/\J 7= .int .i64 (k:Nat)/\hp 900=some ⟨4,95,out.map PV.term,false⟩) (p.length+q.length) ?_ ?_
 ·refine⟨0,0,[],by omega,by omega,by omega,by simp,rfl,?_⟩
  refine Sz0 ?_
  simp
 rintro _ J h ⟨i,k,out,rfl,hi,hk,fQ,dU,h5,h6,h7,hh⟩
 refine Sz3 h5 h6 h7 ?_
 refine Qx (fun hg=> ?_) (fun hg=> ?_)
 ·have ao:i<p.length:=by omega
  refine Sz3 h5 h6 h7 ?_
  refine Qa (fun h=>by omega) (fun _=> ?_)
  refine Sz3 h5 h6 h7 ?_
  refine Qa (fun eZ=> ?_) (fun eZ=> ?_)
  ·have cf:k<q.length:=by omega
   have cJ:=hp.get ao
   have pz:=hq.get cf
   rw[LS ao cf]at dU
   have c1:=cJ.c
   have c2:=pz.c
   generalize hx:p[i]=x at *
   generalize hy:q[k]=y at *
   refine Sz5 h5 h6 h7 hx hy ?_
   refine Qb hP (BO cJ.m pz.m Oz) ?_
   refine Sz5 h5 h6 h7 hx hy ?_
   refine Qa (fun hc=> ?_) (fun hc=> ?_)
   ·rw[if_pos hc]at dU
    refine Sz4 h5 h6 h7 hx ?_
    rw[Qq (f:=PV.term) (y:=x) (xs:=out) (ty':=95) (fz:=false) (Tz1 hh) cP Oz rfl Oz Oz]
    refine Sz4 h5 h6 h7 hx ?_
    refine Qf ((p.length-(i+1))+(q.length-k)) Oz ⟨i+1,k,out++[x],rfl,by omega,hk,by simp;omega,by simpa using dU,?_⟩
    refine Sz3 h5 h6 h7 ?_
    simp
   rw[if_neg hc]at dU
   refine Sz5 h5 h6 h7 hx hy ?_
   refine Qa (fun ie=> ?_) (fun ie=> ?_)
   ·rw[if_pos ie]at dU
    refine Sz4 h5 h6 h7 hy ?_
    rw[Qq (f:=PV.term) (y:=y) (xs:=out) (ty':=95) (fz:=false) (Tz1 hh) cP Oz rfl Oz Oz]
    refine Sz4 h5 h6 h7 hy ?_
    refine Qf ((p.length-i)+(q.length-(k+1))) Oz ⟨i,k+1,out++[y],rfl,by omega,by omega,by simp;omega,by simpa using dU,?_⟩
    refine Sz3 h5 h6 h7 ?_
    simp
   rw[if_neg ie]at dU
   have Vl:=ki x.1 y.1
   refine Sz5 h5 h6 h7 hx hy ?_
   refine jO ?_ ?_
   all_goals
    refine Sz5 h5 h6 h7 hx hy ?_
    refine Qb hP (NY (a:=x.1) (b:=y.1) (k:=2^32) Oz Oz Oz) ?_
    refine Sz5 h5 h6 h7 hx hy ?_
    refine Qb hP (AK (a:=x.1+y.1) Oz) ?_
    refine Sz5 h5 h6 h7 hx hy ?_
    refine Qa (fun hz=> ?_) (fun hz=> ?_)
    ·rw[if_neg (fun h=>hz (dz.2 h))]at dU
     refine Sz5 h5 h6 h7 hx hy ?_
     rw[Qq (f:=PV.term) (y:=(x.1+y.1,x.2)) (xs:=out) (ty':=95) (fz:=false) (Tz1 hh) cP Oz rfl Oz Oz]
     refine Sz5 h5 h6 h7 hx hy ?_
     refine Qf ((p.length-(i+1))+(q.length-(k+1))) Oz ⟨i+1,k+1,out++[(x.1+y.1,x.2)],rfl,by omega,by omega,by simp;omega,by simpa using dU,?_⟩
     refine Sz3 h5 h6 h7 ?_
     simp
    ·rw[if_pos (dz.1 (Decidable.not_not.1 hz))]at dU
     refine Sz5 h5 h6 h7 hx hy ?_
     refine Qf ((p.length-(i+1))+(q.length-(k+1))) Oz ⟨i+1,k+1,out,rfl,by omega,by omega,by omega,dU,?_⟩
     exact Tz4 h5 h6 h7 hh
  ·rw[Kan (show q.length<=k by omega),nD,Kaw ao]at dU
   have dU:out++p[i]::aN (p.drop (i+1)) (q.drop k)=aN p q:=by rw[Kan (show q.length<=k by omega),nD];exact dU
   generalize hx:p[i]=x at *
   refine Sz4 h5 h6 h7 hx ?_
   rw[Qq (f:=PV.term) (y:=x) (xs:=out) (ty':=95) (fz:=false) (Tz1 hh) cP Oz rfl Oz Oz]
   refine Sz4 h5 h6 h7 hx ?_
   refine Qf ((p.length-(i+1))+(q.length-k)) Oz ⟨i+1,k,out++[x],rfl,by omega,hk,by simp;omega,by simpa using dU,?_⟩
   refine Sz3 h5 h6 h7 ?_
   simp
 ·have ao:i=p.length:=by omega
  refine Sz3 h5 h6 h7 ?_
  refine Qa (fun eZ=> ?_) (fun eZ=> ?_)
  ·have cf:k<q.length:=by omega
   rw[Kan (show p.length<=i by omega),wU,Kaw cf]at dU
   have dU:out++q[k]::aN (p.drop i) (q.drop (k+1))=aN p q:=by rw[Kan (show p.length<=i by omega),wU];exact dU
   generalize hy:q[k]=y at *
   refine Sz4 h5 h6 h7 hy ?_
   refine Qa (fun _=> ?_) (fun h=>by omega)
   refine Sz4 h5 h6 h7 hy ?_
   rw[Qq (f:=PV.term) (y:=y) (xs:=out) (ty':=95) (fz:=false) (Tz1 hh) cP Oz rfl Oz Oz]
   refine Sz4 h5 h6 h7 hy ?_
   refine Qf ((p.length-i)+(q.length-(k+1))) Oz ⟨i,k+1,out++[y],rfl,by omega,by omega,by simp;omega,by simpa using dU,?_⟩
   refine Sz3 h5 h6 h7 ?_
   simp
  ·rw[Kan (show p.length<=i by omega),wU,Kan (show q.length<=k by omega),Kam]at dU
   refine Vz4 h5 h6 h7 hh ?_
   exact Qc (by rw[Kac (by simp),dU]) rfl
theorem ab0{k l:Nat}{a b:List Int}(ha:MB k a)(hb:MB l b)(h1:a.getLast? ≠some 0)(h2:b.getLast? ≠some 0):ks (· + ·) a b=bp a b:=by
 rw[bp,I8]
 rw[Kbk,pK]
 intro h
 obtain⟨hl,hv⟩:=Kae.1 h
 rw[<-fw hl,Ot (by simp)]at hv
 rw[pK]at hl
 have p1:=(ha.eN (max a.length b.length-1)).1
 have p2:=(hb.eN (max a.length b.length-1)).1
 by_cases hc:b.length<=a.length
 ·apply h1
  have e:max a.length b.length-1=a.length-1:=by omega
  rw[e]at hv p1 p2
  rw[Kbk,Kag Oz,<-fw Oz]
  congr 1;omega
 ·apply h2
  have e:max a.length b.length-1=b.length-1:=by omega
  rw[e]at hv p1 p2
  rw[Kbk,Kag Oz,<-fw Oz]
  congr 1;omega
theorem Wo{p:List Tm}{t:Tm}{K E:Nat}(hp:PB K E p)(ht:TB K E t)(mc:NZ p)(ht0:t.1≠0)(hK:K<=2^33)(hE:E<=2^38)(dm:p.length<=2^36):
  Qd Tryz.prog 134 [PV.aM p,PV.term t] (· =PV.aM (bQ p t)):=by
 refine aE Qg Tryz.func134 agO fun C hP=> ?_
 refine Sz0 ?_
 refine iL 5 900 4 95 Oz Tz0 ?_
 refine Ql okB [(5,32)] [31,32,900] (fun n J hp=>∃i,n=p.length-i/\i<=p.length/\J 5= .ms 900 (bQ (p.take i) t).length/\J 6= .int .i64 (i:Nat)/\hp 3=some ⟨4,95,[PV.term t],false⟩/\hp 900=some ⟨4,95,(bQ (p.take i) t).map PV.term,false⟩) p.length ?_ ?_
 ·refine⟨0,rfl,by omega,?_⟩
  refine Sz0 ?_
  simp[bQ]
 rintro _ J h ⟨i,rfl,hi,h5,h6,bR,hh⟩
 refine Sz2 h5 h6 ?_
 refine Qa (fun hg=> ?_) (fun hg=> ?_)
 ·have ao:i<p.length:=by omega
  have cJ:=hp.get ao
  have aW:=Ie (t:=t) ao
  have hlen:=wK (p.take i) t
  rw[KaI]at hlen
  have c1:=cJ.c
  have c2:=ht.c
  have ll:=mc _ (Kai ao)
  generalize hx:p[i]=x at *
  have hzz:=ab0 cJ.m ht.m cJ.l ht.l
  rw[if_neg (fun h=>by rcases KcP.1 h with h|h<;>contradiction)]at aW
  refine Sz4 h5 h6 bR hx ?_
  refine Qb hP (EV (a:=x.1) (b:=t.1) (k:=2^33) Oz Oz Oz) ?_
  refine Sz4 h5 h6 bR hx ?_
  refine Qb hP (Xj cJ.m ht.m Oz) ?_
  rw[hzz]
  refine Sz4 h5 h6 bR hx ?_
  rw[Qq (f:=PV.term) (y:=(x.1*t.1,bp x.2 t.2)) (xs:=bQ (p.take i) t) (ty':=95) (fz:=false) (Tz1 hh) cP Oz rfl Oz Oz]
  rw[<-aW]
  refine Sz4 h5 h6 bR hx ?_
  refine Qf (p.length-(i+1)) Oz ⟨i+1,rfl,by omega,?_⟩
  rw[aW]
  simp+decide (disch:=first|omega|rfl|(simp+decide only[go_sem,h5,h6,bR,Kax]<;>rfl)|fail) only[go_sem,h5,h6,bR,Kax]
 ·obtain rfl:i=p.length:=by omega
  rw[KaH]at h5 hh
  refine nU h5 hh ?_
  exact Qc (by simp[Kac]) rfl
theorem ZK{p q:List Tm}{i:Nat}(h:i<q.length):pT p (q.take (i+1))=aN (pT p (q.take i)) (bQ p q[i]):=by
 rw[Kak h,pT,List.foldl_append,pT];rfl
theorem RX{K E:Nat}{p:List Tm}(hp:PB K E p):∀(q out:List Tm)(L:Nat),PB K E q->PB L (E+E) out->PB (q.length*(K+K)+L) (E+E) (q.foldl (fun out t=>aN out (bQ p t)) out)/\(q.foldl (fun out t=>aN out (bQ p t)) out).length<=q.length*p.length+out.length
 | [],out,L,_,ho=>⟨by simpa using ho,by simp⟩
 |t::q,out,L,hq,ho=>by
  obtain⟨h1,h2⟩:=RX hp q (aN out (bQ p t)) (L+(K+K)) (PB.cons.1 hq).2 (JR _ _ ho (yP hp (PB.cons.1 hq).1))
  have h3:=H2 out (bQ p t)
  have h4:=wK p t
  refine⟨h1.mono (by rw[KaP,KaJ];omega) (Kaf _),Kao h2 ?_⟩
  rw[KaP,KaJ];omega
theorem adX{K E:Nat}{p q:List Tm}(hp:PB K E p)(hq:PB K E q):PB (q.length*(K+K)) (E+E) (pT p q)/\(pT p q).length<=q.length*p.length:=by
 have:=RX hp q [] 0 hq (PB.nil _ _)
 simpa[pT]using this
theorem RY{p q:List Tm}{K E:Nat}(hp:PB K E p)(hq:PB K E q)(hnp:NZ p)(hnq:NZ q)(hE:E<=2^37)(dm:p.length<=2^30)(nf:q.length<=2^30)(CH:q.length*p.length<=2^36)(hK:q.length*(K+K)+(K+K)<=2^32):
  Qd Tryz.prog 69 [PV.aM p,PV.aM q] (· =PV.aM (pT p q)):=by
 refine aE Qg Tryz.func69 ajI fun C hP=> ?_
 refine Sz0 ?_
 refine zk 5 4 Tz0 ?_
 refine Ql okB [(5,20)] [] (fun n J hp=>∃i,n=q.length-i/\i<=q.length/\J 5=PV.aM (pT p (q.take i))/\J 6= .int .i64 (i:Nat)) q.length ?_ ?_
 ·refine⟨0,rfl,by omega,?_⟩
  refine Sz0 ?_
  simp[pT]
 rintro _ J h ⟨i,rfl,hi,h5,h6⟩
 refine Sz2 h5 h6 ?_
 refine Qa (fun hg=> ?_) (fun hg=> ?_)
 ·have ao:i<q.length:=by omega
  have pz:=hq.get ao
  have aW:=ZK (p:=p) ao
  have ll:=hnq _ (Kai ao)
  obtain⟨hb1,hb2⟩:=adX hp (hq.take i)
  have dv:=yP hp pz
  have au:=wK p q[i]
  generalize hx:q[i]=x at *
  have e1:(q.take i).length=i:=by rw[KaI];omega
  rw[e1]at hb1 hb2
  have e2:i*(K+K)<=q.length*(K+K):=Kah _ hi
  have e3:i*p.length<=q.length*p.length:=Kah _ hi
  refine Sz3 h5 h6 hx ?_
  refine Qb hP (Wo (t:=x) hp pz hnp ll Oz Oz Oz) ?_
  refine Sz3 h5 h6 hx ?_
  refine Qb hP (RW (K:=q.length*(K+K)+(K+K)) (E:=E+E) (hb1.mono Oz Oz) (dv.mono Oz Oz) hK Oz Oz Oz) ?_
  refine Sz3 h5 h6 hx ?_
  refine Qf (q.length-(i+1)) Oz ⟨i+1,rfl,by omega,?_⟩
  rw[aW]
  exact Tz0
 ·obtain rfl:i=q.length:=by omega
  rw[KaH]at h5
  refine Sz1 h5 ?_
  exact Qc rfl rfl
theorem WJ{p:List Tm}{a:Rat}{K E:Nat}(hp:PB K E p)(mc:NZ p)(ha:rs a+1<=K)(hK:K<=2^33)(hE:E<=2^38)(dm:p.length<=2^36):
  Qd Tryz.prog 111 [PV.aM p,PV.rat a] (· =PV.aM (jP p a)):=by
 refine aE Qg Tryz.func111 agM fun C hP=> ?_
 refine Sz0 ?_
 refine iL 5 900 4 95 Oz Tz0 ?_
 refine Ql okB [(5,33)] [32,33,900] (fun n J hp=>∃i,n=p.length-i/\i<=p.length/\J 5= .ms 900 (bQ (p.take i) (a,[])).length/\J 6= .int .i64 (i:Nat)/\hp 3=some ⟨3,51,[PV.rat a],false⟩/\hp 900=some ⟨4,95,(bQ (p.take i) (a,[])).map PV.term,false⟩) p.length ?_ ?_
 ·refine⟨0,rfl,by omega,?_⟩
  refine Sz0 ?_
  simp[bQ]
 rintro _ J h ⟨i,rfl,hi,h5,h6,bR,hh⟩
 refine Sz2 h5 h6 ?_
 refine fV (fun hg=> ?_) (fun hg=> ?_)
 ·have ao:i<p.length:=by omega
  have cJ:=hp.get ao
  have aW:=Ie (t:=(a,[])) ao
  have hlen:=wK (p.take i) (a,[])
  rw[KaI]at hlen
  have c1:=cJ.c
  have ll:=mc _ (Kai ao)
  generalize hx:p[i]=x at *
  refine Sz4 h5 h6 bR hx ?_
  refine Qb hP (AK (a:=a) Oz) ?_
  refine Sz4 h5 h6 bR hx ?_
  refine Qa (fun hz=> ?_) (fun hz=> ?_)
  ·rw[if_neg (fun h=>by rcases KcP.1 h with h|h;exact ll h;exact hz (dz.2 h)),NG cJ.l]at aW
   refine Sz4 h5 h6 bR hx ?_
   refine Qb hP (EV (a:=x.1) (b:=a) (k:=2^33) Oz Oz Oz) ?_
   refine Sz4 h5 h6 bR hx ?_
   rw[Qq (f:=PV.term) (y:=(x.1*a,x.2)) (xs:=bQ (p.take i) (a,[])) (ty':=95) (fz:=false) (Tz1 hh) cP Oz rfl Oz Oz]
   rw[<-aW]
   refine Sz4 h5 h6 bR hx ?_
   refine Qf (p.length-(i+1)) Oz ⟨i+1,rfl,by omega,?_⟩
   rw[aW]
   simp+decide (disch:=first|omega|rfl|(simp+decide only[go_sem,h5,h6,bR,Kax]<;>rfl)|fail) only[go_sem,h5,h6,bR,Kax]
  ·have Gd:=dz.1 (Decidable.not_not.1 hz)
   have e0:∀l:List Tm,bQ l (a,[])=[]:=fun l=>by rw[Gd];simp[bQ]
   refine xu h5 hh bR ?_
   refine Qc ?_ rfl
   rw[e0,jP,if_pos Gd];rfl
 ·obtain rfl:i=p.length:=by omega
  rw[KaH]at h5 hh
  refine xu h5 hh bR ?_
  refine Qc ?_ rfl
  rw[Kac (by simp),jP]
  split
  ·rename_i Gd;rw[Gd];simp[bQ]
  ·rfl
theorem Xm{p:List Tm}{K E:Nat}(hp:PB K E p)(mc:NZ p)(xF:2<=K)(hK:K<=2^33)(hE:E<=2^38)(dm:p.length<=2^36):Qd Tryz.prog 71 [PV.aM p] (· =PV.aM (LC p)):=by
 have h1:=Dn
 refine aE Qg Tryz.func71 ajJ fun C hP=> ?_
 refine Sz0 ?_
 refine Qb hP (AE (x:= -1) Oz Oz) ?_
 refine Sz0 ?_
 refine Qb hP (WJ (a:=((-1:Int):Rat)) hp mc (by have:((-1:Int):Rat)= -1:=rfl;rw[this];omega) hK hE dm) ?_
 refine Sz0 ?_
 exact Qc rfl rfl
theorem RZ{p q:List Tm}{K E:Nat}(hp:PB K E p)(hq:PB K E q)(mc:NZ q)(xF:2<=K)(hK:K<=2^31)(hE:E<=2^38)(dm:p.length<=2^36)(nf:q.length<=2^36):Qd Tryz.prog 68 [PV.aM p,PV.aM q] (· =PV.aM (LD p q)):=by
 have hl:=Rc q (-1)
 refine aE Qg Tryz.func68 ajM fun C hP=> ?_
 refine Sz0 ?_
 refine Qb hP (Xm hq mc xF Oz hE nf) ?_
 refine Sz0 ?_
 refine Qb hP (RW (hp.mono (K':=K+2) Oz (Kaf _)) (ae4 hq) Oz hE dm (by show(jP q (-1)).length<=_;omega)) ?_
 refine Sz0 ?_
 exact Qc rfl rfl
theorem W8{l:List a9}{k:Nat}(hb:∀t∈l,RB k t)(dT:1<=k)(hk:k<2^36)(gP:l.length<2^40):Qd Tryz.prog 19 [PV.lG l] (· = .bool (dk l)):=by
 have ma:=Ja l
 have bad:∀ {b:Bool},(b=true->False)->b=false:=fun {b} h=>by cases b<;>simp_all
 refine aE Qg Tryz.func19 ajK fun C hP=> ?_
 refine Sz0 ?_
 refine Ql okB [(2,51)] [] (fun n J hp=>∃i,n=l.length-i/\i<=l.length/\(∀j (h:j<l.length),j<i->fq l[j]=true)/\(∀j (h:j+1<l.length),j+1<i->0<aX l[j].m l[j+1].m)/\J 3= .int .i64 (i:Nat)) l.length ?_ ?_
 ·refine⟨0,rfl,by omega,by omega,by omega,?_⟩
  refine Sz0 ?_
  rfl
 rintro _ J h ⟨i,rfl,hi,h1,h2,h7⟩
 refine Sz1 h7 ?_
 refine Qa (fun hg=> ?_) (fun hg=> ?_)
 ·have ao:i<l.length:=by omega
  have dv:=hb _ (Kai ao)
  have hr:=(RB.raw dv dT).rs
  have pk:=dv.l
  have xI:dk l=true->fq l[i]=true:=fun h=>(ma.1 h).1 i ao
  have KA:∀(j:Nat)(hj:j+1=i),dk l=true->0<aX (l[j]'Oz).m l[i].m:=fun j hj h=>by subst hj;exact(ma.1 h).2 j ao
  have Cq:fq l[i]=true->∀j (h:j<l.length),j<i+1->fq l[j]=true:=fun h j hj im=>by
   by_cases e:j=i
   ·subst e;exact h
   ·exact h1 j hj Oz
  have Ld:∀(j:Nat)(hj:j+1=i),MB 1048576 (l[j]'Oz).m:=fun j hj=>by
   have:=h1 j Oz Oz
   simp only[fq,Kar]at this
   exact MB.sY this.2.2
  have Cr:(∀(j:Nat)(hj:j+1=i),0<aX (l[j]'Oz).m l[i].m)->∀j (h:j+1<l.length),j+1<i+1->0<aX l[j].m l[j+1].m:=fun h j hj im=>by
   by_cases e:j+1=i
   ·subst e;exact h j rfl
   ·exact h2 j hj Oz
  generalize hx:l[i]=x at *
  have cQ:rs (rv x.n x.a x.d)<2^36:=by omega
  refine Sz2 h7 hx ?_
  refine Qb hP (Ri (RB.raw dv dT) hk) ?_
  refine Sz1 h7 ?_
  cases cb:kj x.n x.a x.d
  ·have hf:dk l=false:=bad fun h=>by have:=xI h;simp[fq,cb]at this
   refine Sz2 h7 @Bool.not_false ?_
   exact Qc (by rw[hf]) rfl
  refine Sz3 h7 @Bool.not_true hx ?_
  refine Qb hP (DD (RB.raw dv dT) hk) ?_
  refine Sz1 h7 ?_
  refine Qx (fun hz=> ?_) (fun hz=> ?_)
  ·have hf:dk l=false:=bad fun h=>by have:=xI h;simp[fq,a9.q,dz.1 hz]at this
   refine Sz1 h7 ?_
   exact Qc (by rw[hf]) rfl
  refine Sz2 h7 hx ?_
  refine Qb hP (WD Oz) ?_
  refine Sz1 h7 ?_
  cases ni:cD x.m
  ·have hf:dk l=false:=bad fun h=>by have:=xI h;simp[fq,ni]at this
   refine Sz2 h7 @Bool.not_false ?_
   exact Qc (by rw[hf]) rfl
  have CP:fq x=true:=by
   simp only[fq,cb,ni,Kco,Bool.and_true,decide_eq_true_eq]
   exact fun h=>hz (dz.2 h)
  refine Sz2 h7 @Bool.not_true ?_
  refine fV (fun sL=> ?_) (fun sL=> ?_)
  ·obtain⟨j,rfl⟩:∃j,i=j+1:=⟨i-1,by omega⟩
   have e:((j+1:Nat):Int)-1=j:=by omega
   have ru:j<l.length:=by omega
   have yb:=Ld j rfl
   have KB:=KA j rfl
   have Kw:0<aX (l[j]'Oz).m x.m->∀j2 (h:j2+1<l.length),j2+1<j+1+1->0<aX l[j2].m l[j2+1].m:=fun h=>Cr (fun j' dw=>by
    obtain rfl:j'=j:=by omega
    exact h)
   generalize hy:l[j]'Oz=y at *
   refine Sz4 h7 e hx hy ?_
   refine Qb hP (BO yb (MB.sY ni) Oz) ?_
   refine Sz2 h7 e ?_
   refine Qa (fun hc=> ?_) (fun hc=> ?_)
   ·have hf:dk l=false:=bad fun h=>by have:=KB h;omega
    refine Sz1 h7 ?_
    exact Qc (by rw[hf]) rfl
   ·refine Sz1 h7 ?_
    refine Qf (l.length-(j+1+1)) Oz ⟨j+1+1,rfl,by omega,Cq CP,Kw Oz,?_⟩
    exact Tz0
  ·obtain rfl:i=0:=by omega
   refine Sz1 h7 ?_
   refine Qf (l.length-1) Oz ⟨1,rfl,by omega,Cq CP,Cr (fun j hj=>by omega),?_⟩
   exact Tz0
 ·obtain rfl:i=l.length:=by omega
  have hf:dk l=true:=ma.2 ⟨fun j hj=>h1 j hj hj,fun j hj=>h2 j hj hj⟩
  refine Sz0 ?_
  exact Qc (by rw[hf]) rfl
def nu(v:Nat)(e:Int)(t:a9):Bool:=decide (t.m.length<=v)&&(decide (t.a.length<=4)&&(decide (t.d.length<=4)&&t.m.all fun x=>decide (x<=e)))
def vp(n v:Nat)(e:Int)(l:List a9):Bool:=decide (l.length<=n)&&(l.all (nu v e)&&dk l)
theorem WK{l:List a9}{k n v:Nat}{e:Int}(hb:∀t∈l,RB k t)(dT:1<=k)(hk:k<2^36)(gP:l.length<2^40):
  Qd Tryz.prog 35 [PV.lG l,.int .i64 n,.int .i64 v,.int .i64 e] (· = .bool (vp n v e l)):=by
 have bad:l.length<=n->∀i (h:i<l.length),nu v e l[i]=false->vp n v e l=false:=fun _ i hi h=>by
  have:l.all (nu v e)=false:=by
   rw[Kca];exact⟨_,Kai hi,by simp[h]⟩
  simp[vp,this]
 refine aE Qg Tryz.func35 ajL fun C hP=> ?_
 refine Sz0 ?_
 refine Qa (fun hn=> ?_) (fun hn=> ?_)
 ·refine Sz0 ?_
  exact Qc (by simp[vp,show ¬l.length<=n by omega]) rfl
 have lk:l.length<=n:=by omega
 refine Sz0 ?_
 refine Ql okB [(8,10),(15,69)] [] (fun m J hp=>∃i,m=l.length-i/\i<=l.length/\(∀j (h:j<l.length),j<i->nu v e l[j]=true)/\J 9= .int .i64 (i:Nat)) l.length ?_ ?_
 ·refine⟨0,rfl,by omega,by omega,?_⟩
  refine Sz0 ?_
  rfl
 rintro _ J h ⟨i,rfl,hi,h1,h9⟩
 refine Sz1 h9 ?_
 refine Qa (fun hg=> ?_) (fun hg=> ?_)
 ·have ao:i<l.length:=by omega
  have dv:=hb _ (Kai ao)
  have o9:=bad lk i ao
  have pk:=dv.l
  have fj:nu v e l[i]=true->∀j (h:j<l.length),j<i+1->nu v e l[j]=true:=fun h j hj im=>by
   by_cases e:j=i
   ·subst e;exact h
   ·exact h1 j hj Oz
  generalize hx:l[i]=x at *
  refine Sz2 h9 hx ?_
  refine Qx (fun h2=> ?_) (fun h2=> ?_)
  ·refine Sz2 h9 hx ?_
   exact Qc (by rw[o9 (by simp[nu,show ¬x.m.length<=v by omega])]) rfl
  refine Sz2 h9 hx ?_
  refine Qx (fun h3=> ?_) (fun h3=> ?_)
  ·refine Sz2 h9 hx ?_
   exact Qc (by rw[o9 (by simp[nu,show ¬x.a.length<=4 by omega])]) rfl
  refine Sz2 h9 hx ?_
  refine Qa (fun h4=> ?_) (fun h4=> ?_)
  ·refine Sz2 h9 hx ?_
   exact Qc (by rw[o9 (by simp[nu,show ¬x.d.length<=4 by omega])]) rfl
  refine Sz2 h9 hx ?_
  refine Ql okB [(8,8),(10,10),(50,69)] [] (fun m J hp=>∃j,m=x.m.length-j/\j<=x.m.length/\(∀y∈x.m.take j,y<=e)/\J 10= .int .i64 (j:Nat)) x.m.length ?_ ?_
  ·refine⟨0,rfl,by omega,by simp,?_⟩
   refine Sz0 ?_
   rfl
  rintro _ J2 lY ⟨j,rfl,hj,h5,bl⟩
  refine Sz3 h9 bl hx ?_
  refine Qa (fun eZ=> ?_) (fun eZ=> ?_)
  ·have dw:j<x.m.length:=by omega
   have dn:=Kai dw
   have aW:x.m.take (j+1)=x.m.take j++[x.m[j]]:=Kak dw
   generalize hy:x.m[j]=y at *
   refine Sz4 h9 bl hx hy ?_
   refine Qa (fun h6=> ?_) (fun h6=> ?_)
   ·refine Sz3 h9 bl hx ?_
    refine Qc ?_ rfl
    rw[o9]
    have:(x.m.all fun x=>decide (x<=e))=false:=by
     rw[Kca];exact⟨y,dn,by simp;omega⟩
    simp[nu,this]
   ·refine Sz3 h9 bl hx ?_
    refine Qf (x.m.length-(j+1)) Oz ⟨j+1,rfl,by omega,?_,?_⟩
    ·rw[aW]
     intro z hz
     rcases KaK.1 hz with hz|hz
     ·exact h5 z hz
     ·simp at hz;omega
    ·exact Tz0
  ·rw[Kac Oz]at h5
   have lu:nu v e x=true:=by
    simp only[nu,Kar,decide_eq_true_eq,Kas]
    exact⟨by omega,by omega,by omega,h5⟩
   refine Sz2 h9 bl ?_
   simp (disch:=decide) only[fX,eP]
   refine Qf (l.length-(i+1)) Oz ⟨i+1,rfl,by omega,fj lu,?_⟩
   exact Tz0
 ·obtain rfl:i=l.length:=by omega
  have cH:l.all (nu v e)=true:=by
   rw[Kas]
   intro t ht
   obtain⟨j,hj,rfl⟩:=KaT ht
   exact h1 j hj hj
  refine Sz0 ?_
  refine Qb hP (W8 hb dT hk gP) ?_
  refine Sz0 ?_
  exact Qc (by simp[vp,lk,cH]) rfl
theorem Tc{a b:Rat}{k:Nat}(ha:rs a<=k)(hb:rs b<=k)(hk:k<2^34):Qd Tryz.prog 49 [PV.rat a,PV.rat b] (· = .bool (decide (a=b))):=by
 have:=WC (eW ha) (eW hb) hk
 rwa[dE,dE]at this
theorem R0{p:List Tm}{n:Bool}{a d:List Nat}{m:List Int}{K E k:Nat}(hp:PB K E p)(hs:jB p)(mc:NZ p)(hr:Raw k n a d)(hk:k<=2^32)(hm:MB E m)(hl:m.getLast? ≠some 0)(hK:K<=2^32)(hE:E<=2^38)(dm:p.length<=2^36):
  Qd Tryz.prog 133 [PV.aM p,PV.rr n a d,PV.mono m] (· =PV.aM (qH p (rv n a d) m)):=by
 have GJ:=hr.rs
 refine aE Qg Tryz.func133 agN fun C hP=> ?_
 refine Sz0 ?_
 refine Ql okB [(7,7),(12,26)] [] (fun k J hp=>k<=p.length/\(∀t∈p.drop k,aX t.2 m<0)/\J 7= .int .i64 (k:Nat)/\hp 4=some ⟨3,51,[PV.rr n a d],false⟩) p.length ?_ ?_
 ·refine⟨by omega,by simp,?_⟩
  exact Tz0
 rintro j J h ⟨hj,hd,h7,eM⟩
 refine Sz1 h7 ?_
 refine fV (fun hg=> ?_) (fun hg=> ?_)
 ·obtain⟨i,rfl⟩:∃i,j=i+1:=⟨j-1,by omega⟩
  have e:((i+1:Nat):Int)-1=i:=by omega
  have hi:i<p.length:=by omega
  have cJ:=hp.get hi
  have v5:p.drop i=p[i]::p.drop (i+1):=Kaw hi
  have aW:p.take (i+1)=p.take i++[p[i]]:=Kak hi
  have mf:=WY hs hi
  have cH:p=p.take i++p[i]::p.drop (i+1):=by rw[<-v5,Kbx]
  have c1:=cJ.c
  generalize hx:p[i]=x at *
  refine Sz3 h7 e hx ?_
  refine Qb hP (BO cJ.m hm Oz) ?_
  refine Sz3 h7 e hx ?_
  refine Qa (fun hc=> ?_) (fun hc=> ?_)
  ·refine Sz3 h7 e hx ?_
   refine Qf i Oz ⟨by omega,?_,?_⟩
   ·rw[v5]
    intro t ht
    rcases KaG.1 ht with rfl|ht
    ·exact hc
    ·exact hd t ht
   ·exact Tz1 eM
  ·refine Sz3 h7 e hx ?_
   refine fV (fun _=> ?_) (fun h=>by omega)
   refine Sz3 h7 e hx ?_
   refine Qb hP (BO cJ.m hm Oz) ?_
   refine Sz3 h7 e hx ?_
   refine Qa (fun ie=> ?_) (fun ie=> ?_)
   ·have og:x.2=m:=(BE cJ.l hl).1 ie
    have cF:=mc _ (Kai hi)
    rw[hx]at cF
    have fm:qH p (rv n a d) m=p.take i++(if x.1+rv n a d=0 then []else [(x.1+rv n a d,m)])++p.drop (i+1):=by
     have Uw:p=p.take i++(x.1,m)::p.drop (i+1):=by rw[<-og];exact cH
     rw[qH]
     split
     ·rename_i h0
      have e0:x.1+0=x.1:=Rat.add_zero _
      rw[h0,nD,e0,if_neg cF]
      simpa using Uw
     ·conv=>lhs;rw[Uw]
      exact O3 (fun t ht=>by rw[<-og];exact mf t ht)
    have uz:(p.take i).length<=p.length:=List.length_take_le' _ _
    have fl:(p.drop (i+1)).length<=p.length:=by rw[Ka7];omega
    have Vl:=ki x.1 (rv n a d)
    have GU:=eW (q:=x.1) (k:=2^32) Oz
    have fj:=RU (k:=2^32) GU (show Raw (2^32) n a d from⟨hr.la,hr.ld,by have:=hr.sa;omega,by have:=hr.sd;omega,by omega⟩) Oz
    rw[dE]at fj
    refine Sz4 h7 e hx eM ?_
    refine jO ?_ ?_
    all_goals
     refine Sz4 h7 e hx eM ?_
     refine Qb hP fj ?_
     refine Sz4 h7 e hx eM ?_
     refine Qb hP (AK (a:=x.1+rv n a d) Oz) ?_
     refine Sz4 h7 e hx eM ?_
     refine Qa (fun hz=> ?_) (fun hz=> ?_)
     ·rw[if_neg (fun h=>hz (dz.2 h))]at fm
      refine Sz4 h7 e hx eM ?_
      rw[Qq (f:=PV.term) (y:=(x.1+rv n a d,m)) (xs:=p.take i) (ty':=95) (fz:=false) Tz0 cP Oz rfl Oz Oz]
      refine Sz4 h7 e hx eM ?_
      rw[mE (f:=PV.term) (xs:=p.take i++[(x.1+rv n a d,m)]) (ys:=p.drop (i+1)) Tz0 (by simp<;>omega) Oz Oz Oz]
      refine gJ ?_
      refine Qc ?_ rfl
      rw[Kac (by simp<;>omega),fm]
     ·rw[if_pos (dz.1 (Decidable.not_not.1 hz)),Kam]at fm
      refine Sz4 h7 e hx eM ?_
      rw[mE (f:=PV.term) (xs:=p.take i) (ys:=p.drop (i+1)) Tz0 (by simp<;>omega) Oz Oz Oz]
      refine gJ ?_
      refine Qc ?_ rfl
      rw[Kac (by simp<;>omega),fm]
   ·have KU:aN p [(rv n a d,m)]=p.take (i+1)++(rv n a d,m)::p.drop (i+1):=by
     have:=JZ (m:=m) (c:=rv n a d) (u:=p.take (i+1)) (v:=p.drop (i+1)) (fun t ht=>by
      rw[aW]at ht
      rcases KaK.1 ht with ht|ht
      ·exact yE (mf t ht) Oz
      ·simp only[KaB]at ht;subst ht;omega) hd
     rwa[Kbx]at this
    have uz:(p.take (i+1)).length<=p.length:=List.length_take_le' _ _
    have fl:(p.drop (i+1)).length<=p.length:=by rw[Ka7];omega
    refine Sz2 h7 eM ?_
    refine Qb hP (DD hr Oz) ?_
    refine Sz2 h7 eM ?_
    refine Qa (fun hz=> ?_) (fun hz=> ?_)
    ·have uC:¬rv n a d=0:=fun h=>hz (dz.2 h)
     refine Sz2 h7 eM ?_
     refine Qb hP (tf hr Oz) ?_
     refine Sz2 h7 eM ?_
     rw[Qq (f:=PV.term) (y:=(rv n a d,m)) (xs:=p.take (i+1)) (ty':=95) (fz:=false) Tz0 cP Oz rfl Oz Oz]
     refine Sz2 h7 eM ?_
     rw[mE (f:=PV.term) (xs:=p.take (i+1)++[(rv n a d,m)]) (ys:=p.drop (i+1)) Tz0 (by simp<;>omega) Oz Oz Oz]
     refine gJ ?_
     refine Qc ?_ rfl
     rw[Kac (by simp<;>omega),qH,if_neg uC,KU]
     simp
    ·have uC:rv n a d=0:=dz.1 (Decidable.not_not.1 hz)
     refine Sz2 h7 eM ?_
     rw[mE (f:=PV.term) (xs:=p.take (i+1)) (ys:=p.drop (i+1)) Tz0 (by simp<;>omega) Oz Oz Oz]
     refine gJ ?_
     refine Qc ?_ rfl
     rw[Kac (by simp<;>omega),qH,if_pos uC,nD,Kbx]
 ·obtain rfl:j=0:=by omega
  have KU:aN p [(rv n a d,m)]=[]++(rv n a d,m)::p:=JZ (m:=m) (c:=rv n a d) (u:=[]) (v:=p) (by simp) (by simpa using hd)
  refine Sz1 h7 ?_
  rw[XG Oz]
  refine Sz2 h7 eM ?_
  refine Qb hP (DD hr Oz) ?_
  refine Sz2 h7 eM ?_
  refine Qa (fun hz=> ?_) (fun hz=> ?_)
  ·have uC:¬rv n a d=0:=fun h=>hz (dz.2 h)
   refine Sz2 h7 eM ?_
   refine Qb hP (tf hr Oz) ?_
   refine Sz2 h7 eM ?_
   rw[Qq (f:=PV.term) (y:=(rv n a d,m)) (xs:=([]:List Tm)) (ty':=95) (fz:=false) Tz0 cP Oz (n:=0) rfl Oz Oz]
   refine Sz2 h7 eM ?_
   rw[mE (f:=PV.term) (xs:=([]:List Tm)++[(rv n a d,m)]) (ys:=p) Tz0 (by simp<;>omega) Oz Oz Oz]
   refine gJ ?_
   refine Qc ?_ rfl
   rw[Kac (by simp<;>omega),qH,if_neg uC,KU]
   simp
  ·have uC:rv n a d=0:=dz.1 (Decidable.not_not.1 hz)
   refine Sz2 h7 eM ?_
   rw[mE (f:=PV.term) (xs:=([]:List Tm)) (ys:=p) Tz0 (by simp<;>omega) Oz Oz Oz]
   refine gJ ?_
   refine Qc ?_ rfl
   rw[Kac (by simp<;>omega),qH,if_pos uC,nD]
theorem WL{n:Bool}{a d:List Nat}{k:Nat}(hr:Raw k n a d)(hk:k<=2^32):Qd Tryz.prog 70 [PV.rr n a d] (· =PV.aM (rY (rv n a d))):=by
 have fj:=(R0 (p:=[]) (m:=[]) (K:=1) (E:=1) (PB.nil _ _) trivial (by simp[NZ]) hr hk ⟨by simp,by simp,by simp⟩ (by simp) Oz Oz (by simp)).le (args':=[.al,PV.rr n a d,.al]) ⟨trivial,Qn _,trivial,trivial⟩
 have e:qH [] (rv n a d) []=rY (rv n a d):=by rw[qH,wU];rfl
 rw[e]at fj
 refine aE Qg Tryz.func70 ajG fun C hP=> ?_
 refine Sz0 ?_
 refine Qb hP fj ?_
 refine Sz0 ?_
 exact Qc rfl rfl
theorem ZL{a:Rat}{k:Nat}(h:rs a<=k)(hk:k<=2^32):Qd Tryz.prog 70 [PV.rat a] (· =PV.aM (rY a)):=by
 have:=WL (eW h) hk
 rwa[dE]at this
theorem W9{a:Rat}{n:Nat}(hB:1+rs a*n<=2^33)(hn:n<=2^40)(ha:rs a<=2^33):Qd Tryz.prog 106 [PV.rat a,.int .i64 n] (· =PV.rat (cE a n)):=by
 have h1:=lO
 have lh:((1:Int):Rat)=1:=rfl
 refine aE Qg Tryz.func106 agC fun C hP=> ?_
 refine Sz0 ?_
 refine Qb hP (Bb (x:=1) Oz Oz) ?_
 refine Sz0 ?_
 refine Ql dq [(1,1),(7,21)] [] (fun m J hp=>∃x o:Rat,m<=n/\rs o+rs x*m<=2^33/\o*cE x m=cE a n/\J 1= .int .i64 (m:Nat)/\hp 2=some ⟨3,51,[PV.rat x],false⟩/\hp 4=some ⟨3,51,[.agg [.bool false,.al,.al]],false⟩/\hp 5=some ⟨3,51,[PV.rat o],false⟩) n ?_ ?_
 ·refine⟨a,((1:Int):Rat),by omega,by rw[lh];omega,by rw[lh];grind,?_⟩
  refine Sz0 ?_
  rfl
 rintro m J h ⟨x,o,hm,dD,hq,hJ,dI,eM,bT⟩
 refine Sz1 @hJ ?_
 refine Qa (fun hg=> ?_) (fun hg=> ?_)
 ·have hx:rs x<=rs x*m:=Ka1 _ Oz
  have e2:(2:Int)=((2:Nat):Int):=rfl
  have sS:∀d fr hp K,ca .rem false (.int .i64 (m:Int)) (.int .i64 2) d fr hp K=K (ae fr d (.int .i64 ((m%2:Nat):Int))) hp:=fun d fr hp K=>by
   rw[e2,qC Oz]
  have sQ:∀d fr hp K,ca .quo false (.int .i64 (m:Int)) (.int .i64 2) d fr hp K=K (ae fr d (.int .i64 ((m/2:Nat):Int))) hp:=fun d fr hp K=>by
   rw[e2,Fg Oz Oz]
  have CL:=eX x x
  have hom:=eX o x
  have m9:rs (x*x)*(m/2)<=rs x*(2*(m/2)):=by
   rw[<-Nat.mul_assoc];exact Kah _ Oz
  refine Sz5 @hJ dI bT sS sQ ?_
  refine Qa (fun h2=> ?_) (fun h2=> ?_)
  ·have aqA:m%2=1:=by omega
   have Lf:o*x*cE (x*x) (m/2)=cE a n:=by rw[<-hq,<-Wz aqA];grind
   have Lg:m=1->o*x*cE x (1/2)=cE a n:=fun h=>by
    rw[<-hq,h]
    show o*x*1=o*cE x 1
    rw[adP];grind
   have nh:rs x*m=rs x*(2*(m/2))+rs x:=by
    rw[show m=2*(m/2)+1 by omega,Ka0,KbG];congr 2;omega
   refine Sz5 @hJ dI bT sS sQ ?_
   refine Qb hP (nL (a:=o) (b:=x) (k:=2^33) Oz Oz Oz) ?_
   refine Sz5 @hJ dI bT sS sQ ?_
   refine Qa (fun h3=> ?_) (fun h3=> ?_)
   ·refine Sz5 @hJ dI bT sS sQ ?_
    refine Qb hP (nL (a:=x) (b:=x) (k:=2^33) Oz Oz Oz) ?_
    refine Sz5 @hJ dI bT sS sQ ?_
    refine Qf (m/2) Oz ⟨x*x,o*x,by omega,by omega,Lf,?_⟩
    exact Tz3 dI eM bT
   ·obtain rfl:m=1:=by omega
    refine Sz5 @hJ dI bT sS sQ ?_
    refine Qf (1/2) Oz ⟨x,o*x,by omega,by omega,(Lg rfl),?_⟩
    exact Tz3 dI eM bT
  ·have apW:m%2=0:=by omega
   have Lf:o*cE (x*x) (m/2)=cE a n:=by rw[<-hq,<-Qzy apW]
   have Lg:m=1->o*cE x (1/2)=cE a n:=fun h=>by omega
   have nh:rs x*m=rs x*(2*(m/2)):=by
    congr 1;omega
   refine Sz5 @hJ dI bT sS sQ ?_
   refine Qa (fun h3=> ?_) (fun h3=> ?_)
   ·refine Sz5 @hJ dI bT sS sQ ?_
    refine Qb hP (nL (a:=x) (b:=x) (k:=2^33) Oz Oz Oz) ?_
    refine Sz5 @hJ dI bT sS sQ ?_
    refine Qf (m/2) Oz ⟨x*x,o,by omega,by omega,Lf,?_⟩
    exact Tz3 dI eM bT
   ·obtain rfl:m=1:=by omega
    refine Sz5 @hJ dI bT sS sQ ?_
    refine Qf (1/2) Oz ⟨x,o,by omega,by omega,(Lg rfl),?_⟩
    exact Tz3 dI eM bT
 ·obtain rfl:m=0:=by omega
  have js:o=cE a n:=by rw[<-hq,Ba];grind
  refine Sz3 dI eM bT ?_
  refine cn ?_
  refine Sz0 ?_
  exact Qc (by rw[js]) rfl
theorem R1{p:List Tm}{vs:List Rat}{K E W:Nat}(hp:PB K E p)(hv:∀v∈vs,rs v<=W)(hW:1<=W)(hB:1+p.length*(K+64*(1+W*E))+(K+64*(1+W*E))<=2^33)(hE:E<=2^38)(dm:p.length<=2^36)(hlv:vs.length<=2^36):
  Qd Tryz.prog 37 [PV.aM p,PV.bU vs] (· =B7 vs p):=by
 have h0:((0:Int):Rat)=0:=rfl
 refine aE Qg Tryz.func37 ai6 fun C hP=> ?_
 refine Sz0 ?_
 refine Ql dq [(5,5),(7,7),(16,27)] [7] (fun n J hp=>∃i,n=p.length-i/\i<=p.length/\(∀t∈p.take i,¬vs.length<t.2.length)/\J 16= .int .i64 (i:Nat)/\hp 4=some ⟨3,51,[.agg [.bool false,.al,.al]],false⟩) p.length ?_ ?_
 ·refine⟨0,rfl,by omega,by simp,?_⟩
  refine Sz0 ?_
  rfl
 rintro _ J h ⟨i,rfl,hi,h1,o6,eM⟩
 refine Sz1 o6 ?_
 refine Qa (fun hg=> ?_) (fun hg=> ?_)
 ·have ao:i<p.length:=by omega
  have cJ:=hp.get ao
  have dn:=Kai ao
  have aW:p.take (i+1)=p.take i++[p[i]]:=Kak ao
  generalize hx:p[i]=x at *
  have pk:=cJ.m.len
  have htr:=I8 cJ.l
  refine Sz2 o6 hx ?_
  refine Qb hP (XN (a:=x.2) Oz) ?_
  rw[htr]
  refine Sz2 o6 hx ?_
  refine Qa (fun hc=> ?_) (fun hc=> ?_)
  ·have ho:tS vs p=true:=by
    unfold tS;rw[Ka4];exact⟨x,dn,decide_eq_true Oz⟩
   refine Sz1 eM ?_
   refine nH ?_
   refine Sz0 ?_
   exact gI (p':=PV.rr false [] []) (q':= .int .i64 2) (by rw[B7,if_pos ho]) rfl rfl ⟨rfl,trivial,trivial,trivial⟩ (Qn _)
  ·refine Sz1 o6 ?_
   refine Qf (p.length-(i+1)) Oz ⟨i+1,rfl,by omega,?_,?_⟩
   ·rw[aW]
    intro z hz
    rcases KaK.1 hz with hz|hz
    ·exact h1 z hz
    ·simp only[KaB]at hz;subst hz;omega
   ·exact Tz1 eM
 ·obtain rfl:i=p.length:=by omega
  rw[KaH]at h1
  have ho:tS vs p=false:=by
   unfold tS;rw[Kb2];intro t ht;simpa using h1 t ht
  refine Sz1 eM ?_
  refine Qb hP (Bb (x:=0) Oz Oz) ?_
  refine Sz1 eM ?_
  refine Ql dq [(10,13),(31,59)] [10,11] (fun n J hp=>∃i,n=p.length-i/\i<=p.length/\J 31= .int .i64 (i:Nat)/\hp 4=some ⟨3,51,[.agg [.bool false,.al,.al]],false⟩/\hp 8=some ⟨3,51,[PV.rat (cV vs (p.take i))],false⟩) p.length ?_ ?_
  ·refine⟨0,rfl,by omega,?_⟩
   refine Sz1 eM ?_
   exact⟨rfl,rfl⟩
  rintro _ J1 lh ⟨i,rfl,wa,nY,UW,KX⟩
  refine Sz1 nY ?_
  refine Qa (fun sK=> ?_) (fun sK=> ?_)
  ·have ao:i<p.length:=by omega
   have cJ:=hp.get ao
   have dN:=h1 _ (Kai ao)
   have aW:=So (vs:=vs) ao
   have hrp:=Je hp hv hW i Oz
   generalize hx:p[i]=x at *
   have pk:=cJ.m.len
   have hxc:=cJ.c
   have asF:i*(K+64*(1+W*E))<=p.length*(K+64*(1+W*E)):=Kah _ wa
   have Va:=fun j=>JA (vs:=vs) cJ.m hv hW x.1 j
   have UR:∀j,j<=x.2.length->j*(1+W*E)<=64*(1+W*E):=fun j hj=>Kah _ Oz
   refine Sz2 nY hx ?_
   refine Ql dq [(12,13),(40,55)] [] (fun n J hp=>∃j,n=x.2.length-j/\j<=x.2.length/\J 40= .int .i64 (j:Nat)/\hp 4=some ⟨3,51,[.agg [.bool false,.al,.al]],false⟩/\hp 8=some ⟨3,51,[PV.rat (cV vs (p.take i))],false⟩/\hp 11=some ⟨3,51,[PV.rat (x.1*fN vs x.2 j)],false⟩) x.2.length ?_ ?_
   ·refine⟨0,rfl,by omega,?_⟩
    have e0:x.1*fN vs x.2 0=x.1:=by show x.1*1=x.1;grind
    rw[e0]
    refine Sz2 UW KX ?_
    rfl
   rintro _ J2 h2 ⟨j,rfl,hj,vT,KZ,Gt,xU⟩
   refine Sz1 vT ?_
   refine Qa (fun eZ=> ?_) (fun eZ=> ?_)
   ·have dw:j<x.2.length:=by omega
    have xQ:=fw dw
    have hjb:=cJ.m.eN j
    have Gx:fN vs x.2 (j+1)=fN vs x.2 j*cE (vs.getD j 0) (eN x.2 j).toNat:=rfl
    generalize hy:x.2[j]=y at *
    obtain⟨m,rfl⟩:∃m:Nat,y=m:=⟨y.toNat,by omega⟩
    rw[xQ,Kcz]at Gx
    rw[xQ]at hjb
    refine Sz2 vT hy ?_
    refine Qa (fun hz=> ?_) (fun hz=> ?_)
    ·have Gn:j<vs.length:=by omega
     have hvg:vs.getD j 0=vs[j]:=by simp[Kad,Gn]
     have hvw:=hv _ (Kai Gn)
     rw[hvg]at Gx
     generalize sV:vs[j]=v at *
     have hwe:rs v*m<=W*E:=KaY hvw Oz
     have yl:rs v<=rs v*m:=Ka1 _ Oz
     have hqp:=J7 v m
     have ob:=Va j
     have nh:=UR j hj
     refine Sz4 vT hy xU sV ?_
     refine Qb hP (W9 (a:=v) (n:=m) Oz Oz Oz) ?_
     refine Sz4 vT hy xU sV ?_
     refine Qb hP (nL (a:=x.1*fN vs x.2 j) (b:=cE v m) (k:=2^33) Oz Oz Oz) ?_
     refine Sz4 vT hy xU sV ?_
     refine Qf (x.2.length-(j+1)) Oz ⟨j+1,rfl,by omega,?_⟩
     have e1:x.1*fN vs x.2 (j+1)=x.1*fN vs x.2 j*cE v m:=by rw[Gx];grind
     rw[e1]
     exact Tz2 KZ Gt
    ·obtain rfl:m=0:=by omega
     refine Sz2 vT hy ?_
     refine Qf (x.2.length-(j+1)) Oz ⟨j+1,rfl,by omega,?_⟩
     have e1:x.1*fN vs x.2 (j+1)=x.1*fN vs x.2 j:=by rw[Gx,Ba];grind
     rw[e1]
     exact Tz3 KZ Gt xU
   ·obtain rfl:j=x.2.length:=by omega
    have ob:=Va x.2.length
    have nh:=UR x.2.length (Kaf _)
    have Vl:=ki (cV vs (p.take i)) (x.1*iG vs x.2)
    rw[show fN vs x.2 x.2.length=iG vs x.2 from rfl]at xU ob
    refine Sz4 nY vT Gt xU ?_
    refine Qb hP (vo (a:=cV vs (p.take i)) (b:=x.1*iG vs x.2) (k:=2^33) Oz Oz Oz) ?_
    refine Sz4 nY vT Gt xU ?_
    simp (disch:=decide) only[fX,eP]
    refine Qf (p.length-(i+1)) Oz ⟨i+1,rfl,by omega,?_⟩
    rw[aW]
    exact Tz1 KZ
  ·obtain rfl:i=p.length:=by omega
   rw[KaH]at KX
   refine Sz2 UW KX ?_
   refine nH ?_
   refine Sz0 ?_
   exact gI (by rw[B7,if_neg (by simp[ho])]) rfl rfl (Qn _) (Qn _)
end Go.Proofs.YtkoclfmjlolkhaaGreat
namespace Go.FW
open Go
theorem Td(x y:Int)(hy:y≠0):mkRat (zv (decide (x<0) !=decide (y<0)) (ak x.natAbs)) y.natAbs=(x:Rat)/(y:Rat):=by
 rw[Kb6,tH,<-Rat.intCast_natCast]
 have h3:(y:Rat)≠0:=by rw[Ne,Ka2];exact hy
 by_cases cY:y<0
 ·have e2:(((y.natAbs:Nat):Int):Rat)= -(y:Rat):=by rw[<-Rat.intCast_neg];congr 1;omega
  have e1:(if(decide (x<0) !=decide (y<0))=true then -(x.natAbs:Int)else x.natAbs)= -x:=by
   by_cases hx:x<0<;>simp[hx,cY]<;>omega
  rw[e1,e2,Rat.intCast_neg]
  grind
 ·have e2:(((y.natAbs:Nat):Int):Rat)=(y:Rat):=by congr 1;omega
  have e1:(if(decide (x<0) !=decide (y<0))=true then -(x.natAbs:Int)else x.natAbs)=x:=by
   by_cases hx:x<0<;>simp[hx,cY]<;>omega
  rw[e1,e2]
theorem akg{n m:Bool}{a d b c:List Nat}(hd:val d≠0)(hc:val c≠0)(hb:zv m b≠0):((zv n a*(val c:Int):Int):Rat)/((zv m b*(val d:Int):Int):Rat)=rv n a d/rv m b c:=by
 have h1:((val d:Int):Rat)≠0:=by rw[Ne,Ka2];omega
 have h2:((val c:Int):Rat)≠0:=by rw[Ne,Ka2];omega
 have h3:((zv m b:Int):Rat)≠0:=by rw[Ne,Ka2];exact hb
 unfold rv
 rw[Kb6,Kb6,KaS,KaS]
 rw[<-Rat.intCast_natCast,<-Rat.intCast_natCast]
 grind
theorem zp(x y:Int)(hy:y≠0):rs ((x:Rat)/(y:Rat))<=max (nl x.natAbs) (max (nl y.natAbs) 1):=by
 rw[<-Td x y hy]
 have:=EL (zv (decide (x<0) !=decide (y<0)) (ak x.natAbs)) y.natAbs
 rwa[jA,Qw]at this
theorem FE(q:Rat)(h:q≠0):rs q⁻¹ <=rs q:=by
 have hn:q.num≠0:=fun e=>h (Rat.num_eq_zero.1 e)
 have e:q⁻¹ =(((q.den:Int):Int):Rat)/((q.num:Int):Rat):=by
  have d1:q=(q.num:Rat)/((q.den:Int):Rat):=by
   conv=>lhs;rw[<-Rat.mkRat_self q]
   rw[Kb6,Kcb]
  have k1:((q.den:Int):Rat)≠0:=by rw[Ne,Ka2];have:=q.den_nz;omega
  have k3:((q.num:Int):Rat)≠0:=by rw[Ne,Ka2];exact hn
  generalize(q.num:Rat)=A at *
  generalize((q.den:Int):Rat)=D at *
  rw[d1]
  grind
 have h2:=zp (q.den:Int) q.num hn
 have h3:=Hr q
 rw[e]
 unfold rs at h3⊢
 unfold rs at h2
 rw[Kbh]at h2
 have h4:1<=nl q.den:=by
  have:=q.den_nz
  apply Decidable.byContradiction;intro hc
  exact this (AI.1 (by omega))
 omega
def Gk(p:List Tm):Tm:=p.headD (0,[])
theorem ahq{p:List Tm}(h:p≠[]):Gk p∈p:=by cases p with
 |nil=>exact absurd rfl h
 |cons t p=>simp[Gk]
def kW(c:Rat):Rat:=if c<0 then -c else c
theorem R2(c:Rat):0<=kW c:=by unfold kW;grind
theorem adY(a b:Rat):kW (a*b)=kW a*kW b:=by
 have pos:∀x:Rat,0<=x->kW x=x:=fun x h=>by unfold kW;grind
 have neg:∀x:Rat,x<=0->kW x= -x:=fun x h=>by unfold kW;grind
 rcases Decidable.em (0<=a)with ha|ha<;>rcases Decidable.em (0<=b)with hb|hb
 ·rw[pos _ (KbK ha hb),pos _ ha,pos _ hb]
 ·have h:=KbK ha (show 0<= -b by grind)
  rw[neg (a*b) (by grind),pos _ ha,neg b (by grind)];grind
 ·have h:=KbK (show 0<= -a by grind) hb
  rw[neg (a*b) (by grind),neg a (by grind),pos _ hb];grind
 ·have h:=KbK (show 0<= -a by grind) (show 0<= -b by grind)
  rw[pos (a*b) (by grind),neg a (by grind),neg b (by grind)];grind
theorem NH(z:Int):kW (z:Rat)=((z.natAbs:Nat):Rat):=by
 rw[<-Rat.intCast_natCast]
 unfold kW
 split
 ·rename_i h
  have h':z<0:=by have:=(Rat.intCast_lt_intCast (a:=z) (b:=0)).1 (by simpa using h);exact this
  rw[<-Rat.intCast_neg];congr 1;omega
 ·rename_i h
  have h':¬z<0:=fun hz=>h (by have:=(Rat.intCast_lt_intCast (a:=z) (b:=0)).2 hz;simpa using this)
  congr 1;omega
def ke(m:List Int):Nat:=(eN m 3).toNat*729+(eN m 2).toNat*81+(eN m 1).toNat*9+(eN m 0).toNat
theorem aoU{a b:List Int}(ha:a.length<=4)(hb:b.length<=4):aX a b=dP a b 4:=(y3 (by omega)).symm
theorem agR{a b:List Int}(ha:a.length<=4)(hb:b.length<=4)(h:aX a b<0):
  eN a 3<eN b 3∨(eN a 3=eN b 3/\(eN a 2<eN b 2∨(eN a 2=eN b 2/\(eN a 1<eN b 1∨(eN a 1=eN b 1/\eN a 0<eN b 0))))):=by
 rw[aoU ha hb]at h
 simp only[dP]at h
 have z3:=zj (x:=eN a 3) (y:=eN b 3)
 have z2:=zj (x:=eN a 2) (y:=eN b 2)
 have z1:=zj (x:=eN a 1) (y:=eN b 1)
 have z0:=zj (x:=eN a 0) (y:=eN b 0)
 by_cases e3:eN a 3=eN b 3
 ·rw[if_pos e3]at h
  refine .inr ⟨e3,?_⟩
  by_cases e2:eN a 2=eN b 2
  ·rw[if_pos e2]at h
   refine .inr ⟨e2,?_⟩
   by_cases e1:eN a 1=eN b 1
   ·rw[if_pos e1]at h
    refine .inr ⟨e1,?_⟩
    by_cases e0:eN a 0=eN b 0
    ·rw[if_pos e0]at h;omega
    ·rw[if_neg e0]at h;exact z0.1 h
   ·rw[if_neg e1]at h;exact .inl (z1.1 h)
  ·rw[if_neg e2]at h;exact .inl (z2.1 h)
 ·rw[if_neg e3]at h;exact .inl (z3.1 h)
def nW(W:Rat):List Tm->Rat
 | []=>0
 |t::p=>kW t.1*W^ke t.2+nW W p
theorem Te{W:Rat}(h:0<=W):∀n:Nat,0<=W^n
 |0=>by rw[Rat.pow_zero];decide
 |n+1=>by rw[Rat.pow_succ];exact KbK (Te h n) h
theorem Tf{W:Rat}(h:1<=W):∀n:Nat,1<=W^n
 |0=>by rw[Rat.pow_zero];decide
 |n+1=>by
  rw[Rat.pow_succ]
  have h1:=Tf h n
  have:=Rat.mul_le_mul_of_nonneg_right h1 (show(0:Rat)<=W by grind)
  grind
theorem R3{W:Rat}(h:0<=W)(c:Rat)(m:List Int):0<=kW c*W^ke m:=KbK (R2 c) (Te h _)
theorem MM{W:Rat}(h:0<=W):∀p,0<=nW W p
 | []=>by simp only[nW];decide
 |t::p=>by
  have h1:=R3 h t.1 t.2
  have h2:=MM h p
  simp only[nW];grind
def Pos(p:List Tm):Prop:=∀t∈p,∀i,0<=eN t.2 i
def te(c:Rat):Prop:=∃z:Int,c=(z:Rat)
theorem te.add{a b:Rat}:te a->te b->te (a+b):=fun⟨x,hx⟩ ⟨y,hy⟩=>⟨x+y,by rw[hx,hy,Kc4]⟩
theorem te.neg{a:Rat}:te a->te (-a):=fun⟨x,hx⟩=>⟨-x,by rw[hx,Rat.intCast_neg]⟩
def IW(D F:Rat)(N:Nat)(p:List Tm):Prop:=∀t∈p,ke t.2<=N/\te (t.1*(D*F^(N-ke t.2)))
theorem IW.cons{D F:Rat}{N:Nat}{t:Tm}{p:List Tm}:IW D F N (t::p)↔(ke t.2<=N/\te (t.1*(D*F^(N-ke t.2))))/\IW D F N p:=by simp[IW]
def c4(m:List Int):Nat:=(((eN m 3).toNat*81+(eN m 2).toNat)*729+(eN m 1).toNat)*6561+(eN m 0).toNat
theorem akI{a b:List Int}(ha:∀i,0<=eN a i)(hb:∀i,0<=eN b i)(la:a.length<=4)(lb:b.length<=4)(pa:ke a<=6560)(pb:ke b<=6560)(h:aX a b<0):c4 a<c4 b:=by
 have a0:=ha 0;have a1:=ha 1;have a2:=ha 2;have a3:=ha 3
 have b0:=hb 0;have b1:=hb 1;have b2:=hb 2;have b3:=hb 3
 have:=agR la lb h
 simp only[ke]at pa pb
 simp only[c4,Zo,Zg,Zm,Zc,Zf,Zl,Zh,Zs,Zi,Zb,Zk,Zn,Zu,Zq,Zr,Zz]
 omega
theorem akJ{a:List Int}(pa:ke a<=6560):c4 a<2^32:=by
 simp only[ke]at pa
 simp only[c4,Zo,Zg,Zm,Zc,Zf,Zl,Zh,Zs,Zi,Zb,Zk,Zn,Zu,Zq,Zr,Zz]
 omega
structure Df(D F W N0:Rat)(p:List Tm):Prop where
 i:IW D F 6560 p
 n:nW W p<=N0
 pos:Pos p
 ml:ML 4 p
 rM:bC p
theorem ZM{p:List Tm}:(∀t∈p,ke t.2<=6560)->Pos p->ML 4 p->jB p->p≠[]->p.length<=c4 (Gk p).2+1:=by
 induction p with
 |nil=>intro _ _ _ _ h;exact absurd rfl h
 | cons t p ih=>
  intro hp hP hM hs _
  cases p with
  |nil=>simp
  |cons s p=>
   have h1:=ih (fun x hx=>hp x (by simp[hx])) (fun x hx=>hP x (by simp[hx])) (fun x hx=>hM x (by simp[hx])) hs.2 (by simp)
   have h2:=hs.1 s (by simp)
   have h3:=y4 t.2 s.2
   have h4:=akI (hP s (by simp)) (hP t (by simp)) (hM s (by simp)) (hM t (by simp)) (hp s (by simp)) (hp t (by simp)) (by omega)
   simp only[Gk,List.headD_cons,KaP]at h1⊢
   omega
theorem Df.len{D F W N0:Rat}{p:List Tm}(h:Df D F W N0 p):p.length<=2^32:=by
 by_cases h0:p=[]
 ·subst h0;simp
 ·have h1:=ZM (fun t ht=>(h.i t ht).1) h.pos h.ml h.rM.s h0
  have:=akJ (h.i _ (ahq h0)).1
  omega
theorem P6{W:Rat}(h:1<=W):∀ {p:List Tm} {t:Tm},t∈p->kW t.1<=nW W p
 | s::p,t,ht=>by
  have h0:(0:Rat)<=W:=by grind
  have h1:=MM h0 p
  have h2:=R3 h0 s.1 s.2
  simp only[nW]
  rcases KaG.1 ht with rfl|ht
  ·have h3:=Rat.mul_le_mul_of_nonneg_left (Tf h (ke t.2)) (R2 t.1)
   grind
  ·have:=P6 h ht
   grind
theorem Df.PB{d f w n0 L:Nat}{p:List Tm}(h:Df d f w n0 p)(hd:0<d)(hf:0<f)(hw:0<w)(ll:0<n0)(hL:nl (n0*(d*f^6560))<L):PB L 6560 p:=by
 intro t ht
 obtain⟨h1,z,hz⟩:=h.i t ht
 have Lo:(1:Rat)<=(w:Rat):=by
  rw[<-Rat.intCast_natCast,show(1:Rat)=((1:Int):Rat)from rfl,Rat.intCast_le_intCast];omega
 have hN:kW t.1<=(n0:Rat):=by have:=P6 Lo ht;have:=h.n;grind
 have hX:(d:Rat)*(f:Rat)^(6560-ke t.2)=((d*f^(6560-ke t.2):Nat):Rat):=by
  rw[Rat.natCast_mul,Rat.natCast_pow]
 have aqh:∀N k:Nat,k<=N->d*f^k<=d*f^N:=fun N k h=>KaA _ (KaN hf h)
 have Us:=aqh 6560 (6560-ke t.2) (Nat.sub_le _ _)
 have Cp:0<d*f^(6560-ke t.2):=Nat.mul_pos hd (Kbp hf)
 rw[hX]at hz
 generalize d*f^(6560-ke t.2)=X at *
 generalize d*f^6560=Y at *
 have hXr:((X:Int):Rat)≠0:=by rw[Ne,Ka2];omega
 have e:t.1=(z:Rat)/((X:Int):Rat):=by rw[<-hz,Kcb];rw[Kcb]at hXr;grind
 have hzl:z.natAbs<=n0*Y:=by
  have h2:kW (z:Rat)=kW t.1*(X:Rat):=by
   rw[<-hz,adY];congr 1
   rw[<-Rat.intCast_natCast,NH,Kbh,Kcb]
  rw[NH]at h2
  have h3:(0:Rat)<=(X:Rat):=by rw[<-Rat.intCast_natCast,show(0:Rat)=((0:Int):Rat)from rfl,Rat.intCast_le_intCast];omega
  have h4:=Rat.mul_le_mul_of_nonneg_right hN h3
  rw[<-h2,<-Rat.natCast_mul,<-Rat.intCast_natCast,<-Rat.intCast_natCast,Rat.intCast_le_intCast]at h4
  have h5:=KaA n0 Us
  omega
 have hr:=zp z (X:Int) (by omega)
 rw[<-e,Kbh]at hr
 have g1:=gC hzl
 have g2:nl X<=nl (n0*Y):=by
  exact gC (Kao Us (Nat.le_mul_of_pos_left _ ll))
 have g3:1<=nl X:=by
  apply Decidable.byContradiction;intro hc
  have:=AI.1 (show nl X=0 by omega)
  omega
 refine⟨by omega,⟨by have:=h.ml t ht;omega,fun x hx=> ?_,fun x hx=> ?_⟩,h.rM.c t ht⟩
 all_goals
  obtain⟨i,hi,rfl⟩:=KaT hx
  have hp:=h.pos t ht i
  rw[fw hi]at hp
 ·exact hp
 ·have hl:=h.ml t ht
  simp only[ke]at h1
  rw[<-fw hi]
  rw[<-fw hi]at hp
  have:i=0∨i=1∨i=2∨i=3:=by omega
  rcases this with rfl|rfl|rfl|rfl<;>omega
def lP(p:List Tm):Nat:=(p.map fun t=>t.1.den).foldr (· * ·) 1
theorem adZ(p:List Tm):0<lP p:=by
 induction p with
 |nil=>simp[lP]
 |cons t p ih=>exact Nat.mul_pos (Kba t.1.den_nz) ih
theorem NI:∀ {p:List Tm} {t:Tm},t∈p->t.1.den∣lP p
 |s::p,t,ht=>by
  rcases KaG.1 ht with rfl|ht
  ·exact Nat.dvd_mul_right _ _
  ·exact Nat.dvd_trans (NI ht) (Nat.dvd_mul_left _ _)
theorem bC.drop{p:List Tm}(h:bC p):∀k,bC (p.drop k)
 |0=>h
 |k+1=>by
  have:=bC.drop h k
  rw[<-List.drop_drop]
  cases hd:p.drop k with
  |nil=>simpa using bC.nil
  |cons t l=>rw[hd]at this;simpa using this.tail
structure de where
 n:Bool
 a:List Nat
 d:List Nat
 p:List a9
instance : Inhabited de := ⟨⟨false, [], [], []⟩⟩
abbrev PV.jN(s:de):PV:= .agg [.bool s.n,PV.nat s.a,PV.nat s.d,PV.lG s.p]
abbrev Sq:=Rat×List Tm
abbrev PV.sq(x:Sq):PV:= .agg [.bool (decide (x.1.num<0)),PV.num x.1.num.natAbs,PV.num x.1.den,PV.aM x.2]
def de.sq(s:de):Sq:=(rv s.n s.a s.d,s.p.map a9.tm)
def nv(s:de):Int:=if kj s.n s.a s.d=true then(if dk s.p=true then(if 0<rv s.n s.a s.d then 0 else 2)else 1)else 1
def mI:List de->Int
 | []=>0
 |s::l=>if nv s=0 then mI l else nv s
theorem Xn{l:List de}{i:Nat}(h:i<l.length):mI (l.drop i)=if nv l[i]=0 then mI (l.drop (i+1))else nv l[i]:=by
 rw[Kaw h];rfl
theorem Tg:∀ {l:List de},mI l=0->∀s∈l,nv s=0
 | [],_,_,h=>by cases h
 | s::l,h,x,hx=>by
  unfold mI at h
  split at h
  ·rename_i h0
   rcases KaG.1 hx with rfl|hx
   ·exact h0
   ·exact Tg h x hx
  ·rename_i h0;exact absurd h h0
def jx(x:Sq):List Tm:=jP (fy x.2 x.2) x.1
def fB(l:List Sq):List Tm:=l.foldl (fun o x=>aN o (jx x)) []
def mN:List Sq->List Tm->Option (List Tm)
 | [],o=>some o
 |x::l,o=>if rZ (aN o (jx x))=true then none else mN l (aN o (jx x))
theorem AL{l:List Sq}{i:Nat}(h:i<l.length):fB (l.take (i+1))=aN (fB (l.take i)) (jx l[i]):=by
 unfold fB;rw[Kak h,List.foldl_append];rfl
theorem Th{l:List Sq}{i:Nat}(o:List Tm)(h:i<l.length):mN (l.drop i) o=if rZ (aN o (jx l[i]))=true then none else mN (l.drop (i+1)) (aN o (jx l[i])):=by
 rw[Kaw h];rfl
theorem IF:∀ {l:List Sq} {o r:List Tm},mN l o=some r->r=l.foldl (fun o x=>aN o (jx x)) o
 | [],o,r,h=>(KbI h).symm
 | x::l,o,r,h=>by
  unfold mN at h
  split at h
  ·cases h
  ·have:=IF h
   exact this
abbrev PV.s0(r:List Tm×Int):PV:= .aI [PV.aM r.1,.int .i64 r.2]
def zK:Option (List Tm)->List Tm×Int
 |some r=>(r,0)
 |none=>([],4)
def jf(l:List de):List Tm×Int:=if mI l=0 then zK (mN (l.map de.sq) [])else([],mI l)
structure qU(K E n:Nat)(x:Sq):Prop where
 w:rs x.1+1<=K
 b:PB K E x.2
 l:x.2.length<=n
 n:bC x.2
abbrev zN:=qU 3 1048576 6
theorem FF{K E n:Nat}{x:Sq}(h:qU K E n x):PB (n*(K+K)+K) (E+E) (jx x)/\(jx x).length<=n*n/\bC (jx x):=by
 have h1:=SH h.b h.b
 have h2:=ES h.n.s h.n.s
 have h3:=LU (a:=x.1) (L:=K) h1.1 h.w
 have h4:=Rc (fy x.2 x.2) x.1
 have h5:=KaY h.l h.l
 have h6:min x.2.length x.2.length*(K+K)<=n*(K+K):=Kah _ (by have:=h.l;omega)
 exact⟨h3.mono (by omega) (by omega),by unfold jx;omega,aad h2.s _⟩
theorem vb{K E n:Nat}{l:List Sq}(h:∀x∈l,qU K E n x):∀i,i<=l.length->PB ((n*(K+K)+K)*i) (E+E) (fB (l.take i))/\(fB (l.take i)).length<=n*n*i/\bC (fB (l.take i))
 |0,_=>⟨by simp[fB,PB.nil],by simp[fB],by simp[fB,bC.nil]⟩
 |i+1,hi=>by
  obtain⟨h1,h2,h3⟩:=vb h i (by omega)
  obtain⟨g1,g2,g3⟩:=FF (h _ (Kai (show i<l.length by omega)))
  rw[AL (by omega)]
  have:=H2 (fB (l.take i)) (jx l[i])
  rw[Nat.mul_succ,Nat.mul_succ]
  exact⟨JR _ _ h1 g1,by omega,Jc h3 g3⟩
theorem akh{x:Sq}(h:zN x):PB 40 2097152 (jx x)/\(jx x).length<=36/\bC (jx x):=by
 obtain⟨h1,h2,h3⟩:=FF h
 exact⟨h1.mono (by omega) (by omega),h2,h3⟩
theorem Pc{l:List Sq}(h:∀x∈l,zN x)(i:Nat)(hi:i<=l.length):PB (40*i) 2097152 (fB (l.take i))/\(fB (l.take i)).length<=36*i/\bC (fB (l.take i)):=by
 obtain⟨h1,h2,h3⟩:=vb h i hi
 exact⟨h1.mono (by omega) (by omega),h2,h3⟩
def uI(a d:List Nat):Bool:=decide (a.length<=2)&&decide (d.length<=2)
def rJ(t:a9):Bool:=decide (t.m.length<=70)&&uI t.a t.d
def tF(p:List a9):Bool:=decide (p.length<=20)&&p.all rJ
def oV(s:de):Bool:=uI s.a s.d&&(decide (s.p.length<=6)&&tF s.p)
def qa(l:List de):Bool:=decide (l.length<=5)&&l.all oV
end Go.FW
