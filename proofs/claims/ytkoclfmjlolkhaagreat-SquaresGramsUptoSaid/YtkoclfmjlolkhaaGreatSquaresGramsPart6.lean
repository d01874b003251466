/- Part 6 of the proof of SquaresGrams: L1, CM, CP, CS2, CS3, CU, CA, CQ, R3, R4, M1, M2, P1, P2, P3, P4, P8, CS, S1, S2, S3, S4, S5, S6, S7, S8, S9, T1, T1b, T1c, T1d, U1, U2, U3, CL, U4. Own lemmas; no conditions. -/
import Derived.Test.YtkoclfmjlolkhaaGreatSquaresGramsPart5
set_option linter.unusedSimpArgs false
set_option linter.unusedVariables false
set_option linter.unnecessarySimpa false
set_option maxRecDepth 100000
namespace Go.Proofs.YtkoclfmjlolkhaaGreat
open Go Go.FW Go.ChangeShapes Go.WideShapes Go.ChangeAt Go.RowKit
variable {H : Type} {enc : TypeId × Value -> H}
def I64(x:Int):Prop:= -9223372036854775808<=x/\x<=9223372036854775807
theorem Qaaa:Rd enc 24 fun ps=>∃(r c:Int)(l:List RQ),ps=(PV.rmat r c l).cells/\I64 r/\I64 c/\Qdy l:=by
 refine(Q0z (Qs:=[fun ps=>∃n:Int,ps=[.int .i64 n]/\ -9223372036854775808<=n/\n<=9223372036854775807,fun ps=>∃n:Int,ps=[.int .i64 n]/\ -9223372036854775808<=n/\n<=9223372036854775807,fun ps=>∃l:List RQ,ps=[PV.rqs l]/\Qdy l]) Qbw Tryz.underlying24 (by kernel_rfl) ⟨rfl,Qqn Tryz.underlying3,by kernel_rfl,Qqn Tryz.underlying3,by kernel_rfl,Qakr,trivial⟩).mono ?_
 rintro ps ⟨p,q,rfl,⟨r,rfl,h1⟩,p2,q2,rfl,⟨c,rfl,h2⟩,p3,q3,rfl,⟨l,rfl,h3⟩,rfl⟩
 exact⟨r,c,l,rfl,h1,h2,h3⟩
variable {w : World} {base : Nat} {spare : Nat -> Bool} {held : Bool} {r : Reach} {b0 : Nat} {v : Value} {d : DataW H} {ps : List MemPlace}
theorem Q6r(Qcu:Value.okWide Tryz.prog w r b0 24 v)(hd:DataW.Trod enc Tryz.prog w base spare held 24 v d ps)(hn:Rows.uptoBulk d<=1048576):∃r c l,Qas w Qbs (PV.rmat r c l) v/\I64 r/\I64 c/\Qdy l:=by
 obtain⟨p,⟨r,c,l,rfl,h1,h2,h3⟩,h4⟩:=Q57 Tryz.underlying24 Qcu Qaaa hd hn
 exact⟨r,c,l,h4,h1,h2,h3⟩
end Go.Proofs.YtkoclfmjlolkhaaGreat
namespace Go.Proofs.YtkoclfmjlolkhaaGreat
open Go Go.FW
def c167:SFn:=⟨47,[.t 6],Zr (Zo (.mv 6 (.c .nilS)) .nil)<|Zr (Zm 11 0<|
 Zn 12 11<|
 Zm 13 1<|
 Zn 14 13<|
 Zo (.mx 15 (.t 12) (.t 14))<|
 Zo (.mk 16 1 8 3 (Zz 0) (.t 15) (.t 15))<|
 Zm 7 16 .nil)<| .seq (Zr (Zm 17 7<|
 Zn 18 17<|
 Zc 19 0 .nil)<| .block 0<| .loop<|Zr (Zb 20 .lss 19 18 .nil)<| .seq (.cond (.t 20) .skip (.exit 0))<| .seq (.block 1<|Zr (Zm 21 19<|
 Zm 8 21 .nil)<|Zr (Zc 9 0<|
 Zc 10 0 .nil)<| .seq (Zr (Zm 22 8<|
 Zm 23 0<|
 Zn 24 23<|
 Zb 25 .lss 22 24 .nil)<| .cond (.t 25) (.rg (Zm 26 0<|
 Zm 27 8<|
 Zi 28 1 26 27<|
 Zl 29 1 28<|
 Zm 9 29 .nil)) .skip)<| .seq (Zr (Zm 30 8<|
 Zm 31 1<|
 Zn 32 31<|
 Zb 33 .lss 30 32 .nil)<| .cond (.t 33) (.rg (Zm 34 1<|
 Zm 35 8<|
 Zi 36 1 34 35<|
 Zl 37 1 36<|
 Zm 10 37 .nil)) .skip)<| .rg (Zm 38 7<|
 Zm 39 8<|
 Zm 40 2<|
 Zm 41 9<|
 Zm 42 10<|
 Zo (.call (some 43) false (.t 40) [.t 41,.t 42])<|
 Zi 44 1 38 39<|
 Zs 1 44 43 .nil))<| .rg (Zk 45 .add 19 1<|
 Zm 19 45 .nil))<|Zr (Zm 46 7<|
 Zm 6 46 .nil) .ret⟩
theorem Qaks:Qe Tryz.prog Tryz.f167=some c167:=by kernel_rfl
def c166:SFn:=⟨24,[.t 2],Zr (Zo (.mv 2 (.c .nilS)) .nil)<|Zr (Zm 4 0<|
 Zn 5 4<|
 Zm 3 5 .nil)<| .seq (.block 0<| .loop<| .seq (Zr (Zm 6 3<|
 Zk 7 .gtr 6 0<|
 Zm 8 7<|
 Zg 8 true (.mv 9 (.t 0))<|
 Zg 8 true (.mv 10 (.t 3))<|
 Zg 8 true (.bin 11 .sub false (.t 10) (.c (Zz 1)))<|
 Zg 8 true (.idx 12 1 (.t 9) (.t 11))<|
 Zg 8 true (.ld 13 1 false (.t 12))<|
 Zg 8 true (.bin 14 .eql false (.t 13) (.c (Zz 0)))<|
 Zo (.pick 15 (.t 8) (.t 14) (.c (.bool false))) .nil)<| .cond (.t 15) .skip (.exit 0))<| .block 1<| .rg (Zm 16 3<|
 Zk 17 .sub 16 1<|
 Zm 3 17 .nil))<| .seq (Zr (Zm 18 3<|
 Zk 19 .eql 18 0 .nil)<| .cond (.t 19) (Zr (Zo (.mv 2 (.c .nilS)) .nil) .ret) .skip)<|Zr (Zm 20 0<|
 Zm 21 3<|
 Zm 22 3<|
 Zo (.sl 23 1 (.t 20) none (some (.t 21)) (some (.t 22)))<|
 Zm 2 23 .nil) .ret⟩
theorem Qakt:Qe Tryz.prog Tryz.f166=some c166:=by kernel_rfl
def c135:SFn:=⟨35,[.t 2],Zr (Zo (.mv 2 (.c (.bool false))) .nil)<| .seq (Zr (Zm 5 0<|
 Zn 6 5<|
 Zk 7 .gtr 6 64<|
 Zm 8 7<|
 Zg 8 false (.mv 9 (.t 0))<|
 Zg 8 false (.len 10 (.t 9))<|
 Zg 8 false (.bin 11 .gtr false (.t 10) (.c (Zz 0)))<|
 Zg 8 false (.mv 12 (.t 11))<|
 Zg 12 true (.mv 13 (.t 0))<|
 Zg 12 true (.mv 14 (.t 0))<|
 Zg 12 true (.len 15 (.t 14))<|
 Zg 12 true (.bin 16 .sub false (.t 15) (.c (Zz 1)))<|
 Zg 12 true (.idx 17 1 (.t 13) (.t 16))<|
 Zg 12 true (.ld 18 1 false (.t 17))<|
 Zg 12 true (.bin 19 .eql false (.t 18) (.c (Zz 0)))<|
 Zg 8 false (.pick 20 (.t 12) (.t 19) (.c (.bool false)))<|
 Zo (.pick 21 (.t 8) (.c (.bool true)) (.t 20)) .nil)<| .cond (.t 21) (Zr (Zo (.mv 2 (.c (.bool false))) .nil) .ret) .skip)<| .seq (Zr (Zm 22 0<|
 Zn 23 22<|
 Zc 24 0 .nil)<| .block 0<| .loop<|Zr (Zb 25 .lss 24 23 .nil)<| .seq (.cond (.t 25) .skip (.exit 0))<| .seq (.block 1<|Zr (Zi 26 1 22 24<|
 Zl 27 1 26<|
 Zm 4 27 .nil)<|Zr (Zm 28 4<|
 Zk 29 .lss 28 0<|
 Zm 30 29<|
 Zg 30 false (.mv 31 (.t 4))<|
 Zg 30 false (.bin 32 .gtr false (.t 31) (.c (Zz 1048576)))<|
 Zo (.pick 33 (.t 30) (.c (.bool true)) (.t 32)) .nil)<| .cond (.t 33) (Zr (Zo (.mv 2 (.c (.bool false))) .nil) .ret) .skip)<| .rg (Zk 34 .add 24 1<|
 Zm 24 34 .nil))<|Zr (Zo (.mv 2 (.c (.bool true))) .nil) .ret⟩
theorem Qaku:Qe Tryz.prog Tryz.f135=some c135:=by kernel_rfl
def c156:SFn:=⟨10,[.t 2],Zr (Zo (.mv 2 (.c .nilS)) .nil)<|Zr (Zm 3 0<|
 Zq 4 false 166 [.t 3]<|
 Zm 0 4 .nil)<| .seq (Zr (Zm 5 0<|
 Zq 6 false 135 [.t 5]<|
 Zu 7 6 .nil)<| .cond (.t 7) (Zr (Zo (.mv 2 (.c .nilS)) .nil) .ret) .skip)<|Zr (Zm 8 0<|
 Zo (.app 9 1 8 3 (.c .nilS) (.t 8))<|
 Zm 2 9 .nil) .ret⟩
theorem Qakv:Qe Tryz.prog Tryz.f156=some c156:=by kernel_rfl
def c114:SFn:=⟨17,[.t 2],Zr (Zc 2 0 .nil)<|Zr (Zc 3 0 .nil)<| .seq (Zr (Zm 6 0<|
 Zn 7 6<|
 Zc 8 0 .nil)<| .block 0<| .loop<|Zr (Zb 9 .lss 8 7 .nil)<| .seq (.cond (.t 9) .skip (.exit 0))<| .seq (.block 1<|Zr (Zi 10 1 6 8<|
 Zl 11 1 10<|
 Zm 5 11 .nil)<| .rg (Zm 12 3<|
 Zm 13 5<|
 Zb 14 .add 12 13<|
 Zm 3 14 .nil))<| .rg (Zk 15 .add 8 1<|
 Zm 8 15 .nil))<|Zr (Zm 16 3<|
 Zm 2 16 .nil) .ret⟩
theorem Qakw:Qe Tryz.prog Tryz.f114=some c114:=by kernel_rfl
def c223:SFn:=⟨17,[.t 4],Zr (Zc 4 0 .nil)<| .seq (Zr (Zm 5 1<|
 Zk 6 .lss 5 0<|
 Zm 7 6<|
 Zg 7 false (.mv 8 (.t 1))<|
 Zg 7 false (.mv 9 (.t 0))<|
 Zg 7 false (.len 10 (.t 9))<|
 Zg 7 false (.bin 11 .geq false (.t 8) (.t 10))<|
 Zo (.pick 12 (.t 7) (.c (.bool true)) (.t 11)) .nil)<| .cond (.t 12) (Zr (Zc 4 0 .nil) .ret) .skip)<|Zr (Zm 13 0<|
 Zm 14 1<|
 Zi 15 1 13 14<|
 Zl 16 1 15<|
 Zm 4 16 .nil) .ret⟩
theorem Qakx:Qe Tryz.prog Tryz.f223=some c223:=by kernel_rfl
def c96:SFn:=⟨9,[.t 4],Zr (Zo (.mv 4 (.c .nilS)) .nil)<|Zr (Zm 5 0<|
 Zm 6 1<|
 Zq 7 false 167 [.t 5,.t 6,.c (.fn 168 [] [])]<|
 Zq 8 false 166 [.t 7]<|
 Zm 4 8 .nil) .ret⟩
theorem Qape:Qe Tryz.prog Tryz.f96=some c96:=by kernel_rfl
def c168:SFn:=⟨8,[.t 4],Zr (Zc 4 0 .nil)<|Zr (Zm 5 0<|
 Zm 6 1<|
 Zb 7 .add 5 6<|
 Zm 4 7 .nil) .ret⟩
theorem Qaky:Qe Tryz.prog Tryz.f168=some c168:=by kernel_rfl
def c193:SFn:=⟨46,[.t 6],Zr (Zc 6 0 .nil)<| .seq (Zr (Zm 12 2<|
 Zk 13 .eql 12 1 .nil)<| .cond (.t 13) (Zr (Zm 14 0<|
 Zq 15 false 114 [.t 14]<|
 Zm 16 1<|
 Zq 17 false 114 [.t 16]<|
 Zm 7 15<|
 Zm 8 17 .nil)<|Zr (Zm 18 7<|
 Zm 19 8<|
 Zb 20 .neq 18 19 .nil)<| .cond (.t 20) (.seq (Zr (Zm 21 7<|
 Zm 22 8<|
 Zb 23 .lss 21 22 .nil)<| .cond (.t 23) (Zr (Zc 6 (-1) .nil) .ret) .skip)<|Zr (Zc 6 1 .nil) .ret) .skip) .skip)<| .seq (Zr (Zm 24 0<|
 Zn 25 24<|
 Zm 26 1<|
 Zn 27 26<|
 Zo (.mx 28 (.t 25) (.t 27))<|
 Zk 29 .sub 28 1<|
 Zm 9 29 .nil)<| .block 0<| .loop<| .seq (Zr (Zm 30 9<|
 Zk 31 .geq 30 0 .nil)<| .cond (.t 31) .skip (.exit 0))<| .seq (.block 1<|Zr (Zm 34 0<|
 Zm 35 9<|
 Zq 36 false 223 [.t 34,.t 35]<|
 Zm 37 1<|
 Zm 38 9<|
 Zq 39 false 223 [.t 37,.t 38]<|
 Zm 10 36<|
 Zm 11 39 .nil)<|Zr (Zm 40 10<|
 Zm 41 11<|
 Zb 42 .neq 40 41 .nil)<| .cond (.t 42) (.seq (Zr (Zm 43 10<|
 Zm 44 11<|
 Zb 45 .lss 43 44 .nil)<| .cond (.t 45) (Zr (Zc 6 (-1) .nil) .ret) .skip)<|Zr (Zc 6 1 .nil) .ret) .skip)<| .rg (Zm 32 9<|
 Zk 33 .sub 32 1<|
 Zm 9 33 .nil))<|Zr (Zc 6 0 .nil) .ret⟩
theorem Qakz:Qe Tryz.prog Tryz.f193=some c193:=by kernel_rfl
def c206:SFn:=⟨97,[.t 8],Zr (Zo (.mv 8 (.c .nilS)) .nil)<|Zr (Zm 15 0<|
 Zn 16 15<|
 Zm 17 1<|
 Zn 18 17<|
 Zb 19 .add 16 18<|
 Zo (.mk 20 4 80 95 (.agg [.bool false,.nilS,.nilS,.nilS]) (.c (Zz 0)) (.t 19))<|
 Zm 9 20 .nil)<|Zr (Zc 10 0<|
 Zc 11 0 .nil)<| .seq (.block 0<| .loop<| .seq (Zr (Zm 21 10<|
 Zm 22 0<|
 Zn 23 22<|
 Zb 24 .lss 21 23<|
 Zm 25 24<|
 Zg 25 true (.mv 26 (.t 11))<|
 Zg 25 true (.mv 27 (.t 1))<|
 Zg 25 true (.len 28 (.t 27))<|
 Zg 25 true (.bin 29 .lss false (.t 26) (.t 28))<|
 Zo (.pick 30 (.t 25) (.t 29) (.c (.bool false))) .nil)<| .cond (.t 30) .skip (.exit 0))<| .block 1<|Zr (Zm 31 2<|
 Zm 32 0<|
 Zm 33 10<|
 Zi 34 4 32 33<|
 Zh 35 4 34<|
 Zm 36 1<|
 Zm 37 11<|
 Zi 38 4 36 37<|
 Zh 39 4 38<|
 Zo (.call (some 40) false (.t 31) [.t 35,.t 39])<|
 Zm 12 40 .nil)<| .block 2<|Zr (Zm 64 12<|
 Zk 65 .gtr 64 0<|
 Zm 63 65 .nil)<| .cond (.t 63) (Zr (Zm 66 9<|
 Zm 67 0<|
 Zm 68 10<|
 Zi 69 4 67 68<|
 Zh 70 4 69<|
 Zo (.bs 71 4 95 [.t 70])<|
 Zo (.app 72 4 80 95 (.t 66) (.t 71))<|
 Zm 9 72 .nil)<| .rg (Zm 73 10<|
 Zk 74 .add 73 1<|
 Zm 10 74 .nil)) (Zr (Zm 76 12<|
 Zk 77 .lss 76 0<|
 Zm 75 77 .nil)<| .cond (.t 75) (Zr (Zm 78 9<|
 Zm 79 1<|
 Zm 80 11<|
 Zi 81 4 79 80<|
 Zh 82 4 81<|
 Zo (.bs 83 4 95 [.t 82])<|
 Zo (.app 84 4 80 95 (.t 78) (.t 83))<|
 Zm 9 84 .nil)<| .rg (Zm 85 11<|
 Zk 86 .add 85 1<|
 Zm 11 86 .nil)) (.seq (Zr (Zm 42 3<|
 Zm 43 0<|
 Zm 44 10<|
 Zi 45 4 43 44<|
 Zh 46 4 45<|
 Zm 47 1<|
 Zm 48 11<|
 Zi 49 4 47 48<|
 Zh 50 4 49<|
 .br (Zo (.call (some 51) true (.t 42) [.t 46,.t 50])<|
 Zm 41 51<|
 Zo (.ext 52 (.t 41) 0)<|
 Zo (.ext 53 (.t 41) 1)<|
 Zo (.alloc 13 4 95 (.agg [.bool false,.nilS,.nilS,.nilS]))<|
 Zs 4 13 52<|
 Zm 14 53 .nil) (Zo (.alloc 13 4 95 (.agg [.bool false,.nilS,.nilS,.nilS]))<|
 Zo (.call (some 51) true (.t 42) [.t 46,.t 50])<|
 Zm 41 51<|
 Zo (.ext 52 (.t 41) 0)<|
 Zo (.ext 53 (.t 41) 1)<|
 Zs 4 13 52<|
 Zm 14 53 .nil))<|Zr (Zm 54 14 .nil)<| .cond (.t 54) (.rg (Zm 55 9<|
 Zh 56 4 13<|
 Zo (.bs 57 4 95 [.t 56])<|
 Zo (.app 58 4 80 95 (.t 55) (.t 57))<|
 Zm 9 58 .nil)) .skip)<|Zr (Zm 59 10<|
 Zk 60 .add 59 1<|
 Zm 10 60 .nil)<| .rg (Zm 61 11<|
 Zk 62 .add 61 1<|
 Zm 11 62 .nil))))<|Zr (Zm 87 9<|
 Zm 88 0<|
 Zm 89 10<|
 Zo (.sl 90 4 (.t 88) (some (.t 89)) none none)<|
 Zo (.app 91 4 80 95 (.t 87) (.t 90))<|
 Zm 9 91 .nil)<|Zr (Zm 92 9<|
 Zm 93 1<|
 Zm 94 11<|
 Zo (.sl 95 4 (.t 93) (some (.t 94)) none none)<|
 Zo (.app 96 4 80 95 (.t 92) (.t 95))<|
 Zm 8 96 .nil) .ret⟩
theorem Qak0:Qe Tryz.prog Tryz.f206=some c206:=by kernel_rfl
def Q00:SFn:=⟨10,[.t 4],Zr (Zo (.box 2 4 95 (.t 0))<|
 Zo (.box 3 4 95 (.t 1))<|
 Zc 4 0 .nil)<|Zr (Zf 5 3 2<|
 Zl 6 1 5<|
 Zf 7 3 3<|
 Zl 8 1 7<|
 Zq 9 false 193 [.t 6,.t 8,.c (Zz 0)]<|
 Zm 4 9 .nil) .ret⟩
theorem Q4m:Qe Tryz.prog Tryz.f136=some Q00:=by kernel_rfl
def c207:SFn:=⟨19,[.cell 4 4 true,.t 5],Zr (Zo (.box 2 4 95 (.t 0))<|
 Zo (.box 3 4 95 (.t 1))<|
 Zo (.alloc 4 4 95 (.agg [.bool false,.nilS,.nilS,.nilS]))<|
 Zo (.mv 5 (.c (.bool false))) .nil)<|Zr (Zf 7 0 2<|
 Zh 8 3 7<|
 Zf 9 0 3<|
 Zh 10 3 9<|
 Zq 11 false 107 [.t 8,.t 10]<|
 Zo (.alloc 6 3 51 (.agg [.bool false,.nilS,.nilS]))<|
 Zs 3 6 11 .nil)<|Zr (Zh 12 3 6<|
 Zf 13 3 2<|
 Zl 14 1 13<|
 Zo (.bld 15 [.bool false,.nilS,.nilS,.nilS] [(0,3,.t 12),(3,1,.t 14)])<|
 Zh 16 3 6<|
 Zq 17 true 38 [.t 16]<|
 Zk 18 .neq 17 0<|
 Zs 4 4 15<|
 Zm 5 18 .nil) .ret⟩
theorem Qak1:Qe Tryz.prog Tryz.f207=some c207:=by kernel_rfl
def Q01:SFn:=⟨25,[.t 2],Zr (Zo (.mv 2 (.c .nilS)) .nil)<| .seq (Zr (Zm 4 0<|
 Zn 5 4 .nil)<| .block 0<|Zr (Zk 7 .eql 5 0<|
 Zm 6 7 .nil)<| .cond (.t 6) (Zr (Zo (.mv 2 (.c .nilS)) .nil) .ret) (Zr (Zk 9 .eql 5 1<|
 Zm 8 9 .nil)<| .cond (.t 8) (Zr (Zm 10 0<|
 Zo (.idx 11 1 (.t 10) (.c (Zz 0)))<|
 Zl 12 1 11<|
 Zm 2 12 .nil) .ret) .skip))<|Zr (Zm 13 0<|
 Zn 14 13<|
 Zk 15 .quo 14 2<|
 Zm 3 15 .nil)<|Zr (Zm 16 0<|
 Zm 17 3<|
 Zo (.sl 18 1 (.t 16) none (some (.t 17)) none)<|
 Zm 20 0<|
 Zm 21 3<|
 Zo (.sl 22 1 (.t 20) (some (.t 21)) none none)<|
 Zq 19 false 157 [.t 18]<|
 Zq 23 false 157 [.t 22]<|
 Zq 24 false 170 [.t 19,.t 23]<|
 Zm 2 24 .nil) .ret⟩
theorem Q4n:Qe Tryz.prog Tryz.f157=some Q01:=by kernel_rfl
def c155:SFn:=⟨12,[.t 4],Zr (Zo (.box 2 3 51 (.t 0))<|
 Zo (.mv 4 (.c .nilS)) .nil)<| .seq (Zr (Zh 5 3 2<|
 Zq 6 false 38 [.t 5]<|
 Zk 7 .eql 6 0 .nil)<| .cond (.t 7) (Zr (Zo (.mv 4 (.c .nilS)) .nil) .ret) .skip)<|Zr (Zh 8 3 2<|
 Zm 9 1<|
 Zo (.bld 10 [.bool false,.nilS,.nilS,.nilS] [(0,3,.t 8),(3,1,.t 9)])<|
 Zo (.bs 11 4 95 [.t 10])<|
 Zm 4 11 .nil) .ret⟩
theorem Qak2:Qe Tryz.prog Tryz.f155=some c155:=by kernel_rfl
def c72:SFn:=⟨43,[.t 2],Zr (Zo (.mv 2 (.c (.bool false))) .nil)<| .seq (Zr (Zm 5 0<|
 Zn 6 5<|
 Zc 7 0 .nil)<| .block 0<| .loop<|Zr (Zb 8 .lss 7 6 .nil)<| .seq (.cond (.t 8) .skip (.exit 0))<| .seq (.block 1<|Zr (Zm 9 7<|
 Zi 10 4 5 7<|
 Zh 11 4 10<|
 Zo (.alloc 4 4 95 (.agg [.bool false,.nilS,.nilS,.nilS]))<|
 Zm 3 9<|
 Zs 4 4 11 .nil)<|Zr (Zf 12 0 4<|
 Zh 13 3 12<|
 Zq 14 true 122 [.t 13]<|
 Zu 15 14<|
 Zm 16 15<|
 Zg 16 false (.fld 17 0 (.t 4))<|
 Zg 16 false (.ld 18 3 true (.t 17))<|
 Zg 16 false (.call (some 19) true (.c (.fn 38 [] [])) [.t 18])<|
 Zg 16 false (.bin 20 .eql false (.t 19) (.c (Zz 0)))<|
 Zo (.pick 21 (.t 16) (.c (.bool true)) (.t 20))<|
 Zm 22 21<|
 Zg 22 false (.fld 23 3 (.t 4))<|
 Zg 22 false (.ld 24 1 false (.t 23))<|
 Zg 22 false (.call (some 25) true (.c (.fn 135 [] [])) [.t 24])<|
 Zg 22 false (.un 26 .not (.t 25))<|
 Zo (.pick 27 (.t 22) (.c (.bool true)) (.t 26))<|
 Zm 28 27<|
 Zg 28 false (.mv 29 (.t 3))<|
 Zg 28 false (.bin 30 .gtr false (.t 29) (.c (Zz 0)))<|
 Zg 28 false (.mv 31 (.t 30))<|
 Zg 31 true (.mv 32 (.t 0))<|
 Zg 31 true (.mv 33 (.t 3))<|
 Zg 31 true (.bin 34 .sub false (.t 33) (.c (Zz 1)))<|
 Zg 31 true (.idx 35 4 (.t 32) (.t 34))<|
 Zg 31 true (.ld 36 4 true (.t 35))<|
 Zg 31 true (.ld 37 4 true (.t 4))<|
 Zg 31 true (.call (some 38) true (.c (.fn 136 [] [])) [.t 36,.t 37])<|
 Zg 31 true (.bin 39 .leq false (.t 38) (.c (Zz 0)))<|
 Zg 28 false (.pick 40 (.t 31) (.t 39) (.c (.bool false)))<|
 Zo (.pick 41 (.t 28) (.c (.bool true)) (.t 40)) .nil)<| .cond (.t 41) (Zr (Zo (.mv 2 (.c (.bool false))) .nil) .ret) .skip)<| .rg (Zk 42 .add 7 1<|
 Zm 7 42 .nil))<|Zr (Zo (.mv 2 (.c (.bool true))) .nil) .ret⟩
theorem Qapf:Qe Tryz.prog Tryz.f72=some c72:=by kernel_rfl
def c91:SFn:=⟨54,[.t 2],Zr (Zo (.mv 2 (.c .nilS)) .nil)<|Zr (Zo (.mv 3 (.c .nilS)) .nil)<| .seq (Zr (Zm 8 0<|
 Zn 9 8<|
 Zc 10 0 .nil)<| .block 0<| .loop<|Zr (Zb 11 .lss 10 9 .nil)<| .seq (.cond (.t 11) .skip (.exit 0))<| .seq (.block 1<|Zr (Zi 12 4 8 10<|
 Zh 13 4 12<|
 Zo (.alloc 5 4 95 (.agg [.bool false,.nilS,.nilS,.nilS]))<|
 Zs 4 5 13 .nil)<|Zr (Zf 14 3 5<|
 Zl 15 1 14<|
 Zn 16 15<|
 Zm 6 16 .nil)<| .seq (.block 2<| .loop<| .seq (Zr (Zm 17 6<|
 Zk 18 .gtr 17 0<|
 Zm 19 18<|
 Zg 19 true (.fld 20 3 (.t 5))<|
 Zg 19 true (.ld 21 1 false (.t 20))<|
 Zg 19 true (.mv 22 (.t 6))<|
 Zg 19 true (.bin 23 .sub false (.t 22) (.c (Zz 1)))<|
 Zg 19 true (.idx 24 1 (.t 21) (.t 23))<|
 Zg 19 true (.ld 25 1 false (.t 24))<|
 Zg 19 true (.bin 26 .eql false (.t 25) (.c (Zz 0)))<|
 Zo (.pick 27 (.t 19) (.t 26) (.c (.bool false))) .nil)<| .cond (.t 27) .skip (.exit 2))<| .block 3<| .rg (Zm 28 6<|
 Zk 29 .sub 28 1<|
 Zm 6 29 .nil))<| .seq (Zr (Zf 30 3 5<|
 Zl 31 1 30<|
 Zm 32 6<|
 Zo (.sl 33 1 (.t 31) none (some (.t 32)) none)<|
 Zq 34 false 135 [.t 33]<|
 Zu 35 34 .nil)<| .cond (.t 35) (.exit 1) .skip)<|Zr (Zf 36 0 5<|
 Zh 37 3 36<|
 Zf 40 3 5<|
 Zl 41 1 40<|
 Zq 38 true 61 [.c (Zz 0)]<|
 Zq 39 true 107 [.t 37,.t 38]<|
 Zq 42 true 156 [.t 41]<|
 Zq 43 true 155 [.t 39,.t 42]<|
 Zm 7 43 .nil)<|Zr (Zm 44 7<|
 Zn 45 44<|
 Zk 46 .gtr 45 0 .nil)<| .cond (.t 46) (.rg (Zm 47 3<|
 Zm 48 7<|
 Zo (.bs 49 1 37 [.t 48])<|
 Zo (.app 50 1 24 37 (.t 47) (.t 49))<|
 Zm 3 50 .nil)) .skip)<| .rg (Zk 51 .add 10 1<|
 Zm 10 51 .nil))<|Zr (Zm 52 3<|
 Zq 53 false 157 [.t 52]<|
 Zm 2 53 .nil) .ret⟩
theorem Qapg:Qe Tryz.prog Tryz.f91=some c91:=by kernel_rfl
def c97:SFn:=⟨9,[.t 4],Zr (Zo (.mv 4 (.c (.bool false))) .nil)<|Zr (Zm 5 0<|
 Zm 6 1<|
 Zq 7 false 169 [.t 5,.t 6]<|
 Zk 8 .eql 7 0<|
 Zm 4 8 .nil) .ret⟩
theorem Qaph:Qe Tryz.prog Tryz.f97=some c97:=by kernel_rfl
def c169:SFn:=⟨10,[.t 4],Zr (Zc 4 0 .nil)<|Zr (Zo (.mv 5 (.c (.fn 203 [] []))) .nil)<|Zr (Zm 6 0<|
 Zm 7 1<|
 Zm 8 5<|
 Zq 9 false 205 [.t 6,.t 7,.t 8]<|
 Zm 4 9 .nil) .ret⟩
theorem Qak3:Qe Tryz.prog Tryz.f169=some c169:=by kernel_rfl
def c203:SFn:=⟨17,[.t 4],Zr (Zo (.box 2 4 95 (.t 0))<|
 Zo (.box 3 4 95 (.t 1))<|
 Zc 4 0 .nil)<| .seq (Zr (Zh 6 4 2<|
 Zh 7 4 3<|
 Zq 8 false 136 [.t 6,.t 7]<|
 Zm 5 8 .nil)<|Zr (Zm 9 5<|
 Zk 10 .neq 9 0 .nil)<| .cond (.t 10) (Zr (Zm 11 5<|
 Zm 4 11 .nil) .ret) .skip)<|Zr (Zf 12 0 2<|
 Zh 13 3 12<|
 Zf 14 0 3<|
 Zh 15 3 14<|
 Zq 16 false 204 [.t 13,.t 15]<|
 Zm 4 16 .nil) .ret⟩
theorem Qak4:Qe Tryz.prog Tryz.f203=some c203:=by kernel_rfl
def c170:SFn:=⟨8,[.t 4],Zr (Zo (.mv 4 (.c .nilS)) .nil)<|Zr (Zm 5 0<|
 Zm 6 1<|
 Zq 7 false 206 [.t 5,.t 6,.c (.fn 136 [] []),.c (.fn 207 [] [])]<|
 Zm 4 7 .nil) .ret⟩
theorem Qak5:Qe Tryz.prog Tryz.f170=some c170:=by kernel_rfl
def c43:SFn:=⟨19,[.t 2],Zr (Zc 2 0 .nil)<|Zr (Zc 3 (-1) .nil)<| .seq (Zr (Zm 6 0<|
 Zn 7 6<|
 Zc 8 0 .nil)<| .block 0<| .loop<|Zr (Zb 9 .lss 8 7 .nil)<| .seq (.cond (.t 9) .skip (.exit 0))<| .seq (.block 1<|Zr (Zi 10 4 6 8<|
 Zh 11 4 10<|
 Zo (.alloc 5 4 95 (.agg [.bool false,.nilS,.nilS,.nilS]))<|
 Zs 4 5 11 .nil)<| .rg (Zm 12 3<|
 Zf 13 3 5<|
 Zl 14 1 13<|
 Zq 15 false 114 [.t 14]<|
 Zo (.mx 16 (.t 12) (.t 15))<|
 Zm 3 16 .nil))<| .rg (Zk 17 .add 8 1<|
 Zm 8 17 .nil))<|Zr (Zm 18 3<|
 Zm 2 18 .nil) .ret⟩
theorem Qapi:Qe Tryz.prog Tryz.f43=some c43:=by kernel_rfl
def c44:SFn:=⟨47,[.t 2],Zr (Zo (.mv 2 (.c .nilS)) .nil)<|Zr (Zo (.alloc 3 64 128 (.agg [.bool false,.bool false,.bool false,.bool false,.bool false,.bool false,.bool false,.bool false,.bool false,.bool false,.bool false,.bool false,.bool false,.bool false,.bool false,.bool false,.bool false,.bool false,.bool false,.bool false,.bool false,.bool false,.bool false,.bool false,.bool false,.bool false,.bool false,.bool false,.bool false,.bool false,.bool false,.bool false,.bool false,.bool false,.bool false,.bool false,.bool false,.bool false,.bool false,.bool false,.bool false,.bool false,.bool false,.bool false,.bool false,.bool false,.bool false,.bool false,.bool false,.bool false,.bool false,.bool false,.bool false,.bool false,.bool false,.bool false,.bool false,.bool false,.bool false,.bool false,.bool false,.bool false,.bool false,.bool false])) .nil)<| .seq (Zr (Zm 11 0<|
 Zn 12 11<|
 Zc 13 0 .nil)<| .block 0<| .loop<|Zr (Zb 14 .lss 13 12 .nil)<| .seq (.cond (.t 14) .skip (.exit 0))<| .seq (.block 1<|Zr (Zi 15 4 11 13<|
 Zh 16 4 15<|
 Zo (.alloc 5 4 95 (.agg [.bool false,.nilS,.nilS,.nilS]))<|
 Zs 4 5 16 .nil)<|Zr (Zf 17 3 5<|
 Zl 18 1 17<|
 Zn 19 18<|
 Zc 20 0 .nil)<| .block 2<| .loop<|Zr (Zb 21 .lss 20 19 .nil)<| .seq (.cond (.t 21) .skip (.exit 2))<| .seq (.block 3<|Zr (Zm 22 20<|
 Zi 23 1 18 20<|
 Zl 24 1 23<|
 Zm 6 22<|
 Zm 7 24 .nil)<|Zr (Zm 25 7<|
 Zk 26 .neq 25 0<|
 Zm 27 26<|
 Zg 27 true (.mv 28 (.t 6))<|
 Zg 27 true (.bin 29 .lss false (.t 28) (.c (Zz 64)))<|
 Zo (.pick 30 (.t 27) (.t 29) (.c (.bool false))) .nil)<| .cond (.t 30) (.rg (Zm 31 6<|
 Zo (.idxA 32 64 1 (.t 3) (.t 31))<|
 Zo (.st 1 (.t 32) (.c (.bool true))) .nil)) .skip)<| .rg (Zk 33 .add 20 1<|
 Zm 20 33 .nil))<| .rg (Zk 34 .add 13 1<|
 Zm 13 34 .nil))<|Zr (Zo (.mv 8 (.c .nilS)) .nil)<| .seq (Zr (Zh 35 64 3<|
 Zc 36 0 .nil)<| .block 4<| .loop<|Zr (Zk 37 .lss 36 64 .nil)<| .seq (.cond (.t 37) .skip (.exit 4))<| .seq (.block 5<|Zr (Zm 38 36<|
 Zo (.ixv 39 64 1 false (.t 35) (.t 36))<|
 Zm 9 38<|
 Zm 10 39 .nil)<|Zr (Zm 40 10 .nil)<| .cond (.t 40) (.rg (Zm 41 8<|
 Zm 42 9<|
 Zo (.bs 43 1 3 [.t 42])<|
 Zo (.app 44 1 8 3 (.t 41) (.t 43))<|
 Zm 8 44 .nil)) .skip)<| .rg (Zk 45 .add 36 1<|
 Zm 36 45 .nil))<|Zr (Zm 46 8<|
 Zm 2 46 .nil) .ret⟩
theorem Qapj:Qe Tryz.prog Tryz.f44=some c44:=by kernel_rfl
def c205:SFn:=⟨39,[.t 6],Zr (Zc 6 0 .nil)<| .seq (Zr (Zm 11 0<|
 Zn 12 11<|
 Zc 13 0 .nil)<| .block 0<| .loop<|Zr (Zb 14 .lss 13 12 .nil)<| .seq (.cond (.t 14) .skip (.exit 0))<| .seq (.block 1<|Zr (Zm 15 13<|
 Zi 16 4 11 13<|
 Zh 17 4 16<|
 Zo (.alloc 8 4 95 (.agg [.bool false,.nilS,.nilS,.nilS]))<|
 Zm 7 15<|
 Zs 4 8 17 .nil)<| .seq (Zr (Zm 18 7<|
 Zm 19 1<|
 Zn 20 19<|
 Zb 21 .geq 18 20 .nil)<| .cond (.t 21) (Zr (Zc 6 1 .nil) .ret) .skip)<|Zr (Zm 22 1<|
 Zm 23 7<|
 Zi 24 4 22 23<|
 Zh 25 4 24<|
 Zo (.alloc 9 4 95 (.agg [.bool false,.nilS,.nilS,.nilS]))<|
 Zs 4 9 25 .nil)<|Zr (Zm 26 2<|
 Zh 27 4 8<|
 Zh 28 4 9<|
 Zo (.call (some 29) false (.t 26) [.t 27,.t 28])<|
 Zm 10 29 .nil)<|Zr (Zm 30 10<|
 Zk 31 .neq 30 0 .nil)<| .cond (.t 31) (Zr (Zm 32 10<|
 Zm 6 32 .nil) .ret) .skip)<| .rg (Zk 33 .add 13 1<|
 Zm 13 33 .nil))<| .seq (Zr (Zm 34 0<|
 Zn 35 34<|
 Zm 36 1<|
 Zn 37 36<|
 Zb 38 .lss 35 37 .nil)<| .cond (.t 38) (Zr (Zc 6 (-1) .nil) .ret) .skip)<|Zr (Zc 6 0 .nil) .ret⟩
theorem Qak6:Qe Tryz.prog Tryz.f205=some c205:=by kernel_rfl
def c64:SFn:=⟨39,[.t 2],Zr (Zo (.mv 2 (.c (.bool false))) .nil)<| .seq (Zr (Zm 4 0<|
 Zn 5 4<|
 Zk 6 .gtr 5 64<|
 Zm 7 6<|
 Zg 7 false (.mv 8 (.t 0))<|
 Zg 7 false (.len 9 (.t 8))<|
 Zg 7 false (.bin 10 .gtr false (.t 9) (.c (Zz 0)))<|
 Zg 7 false (.mv 11 (.t 10))<|
 Zg 11 true (.mv 12 (.t 0))<|
 Zg 11 true (.mv 13 (.t 0))<|
 Zg 11 true (.len 14 (.t 13))<|
 Zg 11 true (.bin 15 .sub false (.t 14) (.c (Zz 1)))<|
 Zg 11 true (.idx 16 1 (.t 12) (.t 15))<|
 Zg 11 true (.ld 17 1 false (.t 16))<|
 Zg 11 true (.bin 18 .eql false (.t 17) (.c (Zz 0)))<|
 Zg 7 false (.pick 19 (.t 11) (.t 18) (.c (.bool false)))<|
 Zo (.pick 20 (.t 7) (.c (.bool true)) (.t 19)) .nil)<| .cond (.t 20) (Zr (Zo (.mv 2 (.c (.bool false))) .nil) .ret) .skip)<| .seq (Zr (Zc 3 0 .nil)<| .block 0<| .loop<| .seq (Zr (Zm 21 3<|
 Zm 22 0<|
 Zn 23 22<|
 Zb 24 .lss 21 23 .nil)<| .cond (.t 24) .skip (.exit 0))<| .seq (.block 1<|Zr (Zm 27 0<|
 Zm 28 3<|
 Zi 29 1 27 28<|
 Zl 30 1 29<|
 Zk 31 .lss 30 0<|
 Zm 32 31<|
 Zg 32 false (.mv 33 (.t 0))<|
 Zg 32 false (.mv 34 (.t 3))<|
 Zg 32 false (.idx 35 1 (.t 33) (.t 34))<|
 Zg 32 false (.ld 36 1 false (.t 35))<|
 Zg 32 false (.bin 37 .gtr false (.t 36) (.c (Zz 1048576)))<|
 Zo (.pick 38 (.t 32) (.c (.bool true)) (.t 37)) .nil)<| .cond (.t 38) (Zr (Zo (.mv 2 (.c (.bool false))) .nil) .ret) .skip)<| .rg (Zm 25 3<|
 Zk 26 .add 25 1<|
 Zm 3 26 .nil))<|Zr (Zo (.mv 2 (.c (.bool true))) .nil) .ret⟩
theorem Qapk:Qe Tryz.prog Tryz.f64=some c64:=by kernel_rfl
def c202:SFn:=⟨24,[.t 2],Zr (Zo (.mv 2 (.c .nilS)) .nil)<|Zr (Zm 5 0<|
 Zn 6 5<|
 Zm 3 6 .nil)<| .seq (.block 0<| .loop<| .seq (Zr (Zm 7 3<|
 Zk 8 .gtr 7 0<|
 Zm 9 8<|
 Zg 9 true (.mv 10 (.t 0))<|
 Zg 9 true (.mv 11 (.t 3))<|
 Zg 9 true (.bin 12 .sub false (.t 11) (.c (Zz 1)))<|
 Zg 9 true (.idx 13 1 (.t 10) (.t 12))<|
 Zg 9 true (.ld 14 1 false (.t 13))<|
 Zg 9 true (.bin 15 .eql false (.t 14) (.c (Zz 0)))<|
 Zo (.pick 16 (.t 9) (.t 15) (.c (.bool false))) .nil)<| .cond (.t 16) .skip (.exit 0))<| .block 1<| .rg (Zm 17 3<|
 Zk 18 .sub 17 1<|
 Zm 3 18 .nil))<|Zr (Zo (.mv 4 (.c .nilS)) .nil)<|Zr (Zm 19 4<|
 Zm 20 0<|
 Zm 21 3<|
 Zo (.sl 22 1 (.t 20) none (some (.t 21)) none)<|
 Zo (.app 23 1 8 3 (.t 19) (.t 22))<|
 Zm 2 23 .nil) .ret⟩
theorem Qak7:Qe Tryz.prog Tryz.f202=some c202:=by kernel_rfl
def c164:SFn:=⟨9,[.t 2],Zr (Zo (.mv 2 (.c .nilS)) .nil)<| .seq (Zr (Zm 4 0<|
 Zq 5 false 202 [.t 4]<|
 Zm 3 5 .nil)<|Zr (Zm 6 3<|
 Zq 7 false 64 [.t 6] .nil)<| .cond (.t 7) (Zr (Zm 8 3<|
 Zm 2 8 .nil) .ret) .skip)<|Zr (Zo (.mv 2 (.c .nilS)) .nil) .ret⟩
theorem Qak8:Qe Tryz.prog Tryz.f164=some c164:=by kernel_rfl
def c131:SFn:=⟨18,[.t 2],Zr (Zc 2 0 .nil)<|Zr (Zc 3 0 .nil)<| .seq (Zr (Zc 4 0 .nil)<| .block 0<| .loop<| .seq (Zr (Zm 5 4<|
 Zm 6 0<|
 Zn 7 6<|
 Zb 8 .lss 5 7 .nil)<| .cond (.t 8) .skip (.exit 0))<| .seq (.block 1<| .rg (Zm 11 3<|
 Zm 12 0<|
 Zm 13 4<|
 Zi 14 1 12 13<|
 Zl 15 1 14<|
 Zb 16 .add 11 15<|
 Zm 3 16 .nil))<| .rg (Zm 9 4<|
 Zk 10 .add 9 1<|
 Zm 4 10 .nil))<|Zr (Zm 17 3<|
 Zm 2 17 .nil) .ret⟩
theorem Qak9:Qe Tryz.prog Tryz.f131=some c131:=by kernel_rfl
def c66:SFn:=⟨17,[.t 4],Zr (Zc 4 0 .nil)<| .seq (Zr (Zm 5 1<|
 Zk 6 .lss 5 0<|
 Zm 7 6<|
 Zg 7 false (.mv 8 (.t 1))<|
 Zg 7 false (.mv 9 (.t 0))<|
 Zg 7 false (.len 10 (.t 9))<|
 Zg 7 false (.bin 11 .geq false (.t 8) (.t 10))<|
 Zo (.pick 12 (.t 7) (.c (.bool true)) (.t 11)) .nil)<| .cond (.t 12) (Zr (Zc 4 0 .nil) .ret) .skip)<|Zr (Zm 13 0<|
 Zm 14 1<|
 Zi 15 1 13 14<|
 Zl 16 1 15<|
 Zm 4 16 .nil) .ret⟩
theorem Qapl:Qe Tryz.prog Tryz.f66=some c66:=by kernel_rfl
def c98:SFn:=⟨30,[.t 4],Zr (Zo (.mv 4 (.c .nilS)) .nil)<|Zr (Zo (.mv 5 (.c .nilS)) .nil)<| .seq (Zr (Zc 6 0 .nil)<| .block 0<| .loop<| .seq (Zr (Zm 7 6<|
 Zm 8 0<|
 Zn 9 8<|
 Zb 10 .lss 7 9<|
 Zm 11 10<|
 Zg 11 false (.mv 12 (.t 6))<|
 Zg 11 false (.mv 13 (.t 1))<|
 Zg 11 false (.len 14 (.t 13))<|
 Zg 11 false (.bin 15 .lss false (.t 12) (.t 14))<|
 Zo (.pick 16 (.t 11) (.c (.bool true)) (.t 15)) .nil)<| .cond (.t 16) .skip (.exit 0))<| .seq (.block 1<| .rg (Zm 19 5<|
 Zm 20 0<|
 Zm 21 6<|
 Zq 22 false 66 [.t 20,.t 21]<|
 Zm 23 1<|
 Zm 24 6<|
 Zq 25 false 66 [.t 23,.t 24]<|
 Zb 26 .add 22 25<|
 Zo (.bs 27 1 3 [.t 26])<|
 Zo (.app 28 1 8 3 (.t 19) (.t 27))<|
 Zm 5 28 .nil))<| .rg (Zm 17 6<|
 Zk 18 .add 17 1<|
 Zm 6 18 .nil))<|Zr (Zm 29 5<|
 Zm 4 29 .nil) .ret⟩
theorem Qapm:Qe Tryz.prog Tryz.f98=some c98:=by kernel_rfl
def c65:SFn:=⟨48,[.t 6],Zr (Zc 6 0 .nil)<| .seq (Zr (Zm 8 2<|
 Zk 9 .eql 8 1<|
 Zm 10 9<|
 Zg 10 true (.mv 11 (.t 0))<|
 Zg 10 true (.call (some 12) false (.c (.fn 131 [] [])) [.t 11])<|
 Zg 10 true (.mv 13 (.t 1))<|
 Zg 10 true (.call (some 14) false (.c (.fn 131 [] [])) [.t 13])<|
 Zg 10 true (.bin 15 .neq false (.t 12) (.t 14))<|
 Zo (.pick 16 (.t 10) (.t 15) (.c (.bool false))) .nil)<| .cond (.t 16) (Zr (Zm 17 0<|
 Zq 18 false 131 [.t 17]<|
 Zm 19 1<|
 Zq 20 false 131 [.t 19]<|
 Zb 21 .sub 18 20<|
 Zq 22 false 132 [.t 21]<|
 Zm 6 22 .nil) .ret) .skip)<| .seq (Zr (Zm 23 0<|
 Zn 24 23<|
 Zm 25 1<|
 Zn 26 25<|
 Zo (.mx 27 (.t 24) (.t 26))<|
 Zk 28 .sub 27 1<|
 Zm 7 28 .nil)<| .block 0<| .loop<| .seq (Zr (Zm 29 7<|
 Zk 30 .geq 29 0 .nil)<| .cond (.t 30) .skip (.exit 0))<| .seq (.block 1<|Zr (Zm 33 0<|
 Zm 34 7<|
 Zq 35 false 66 [.t 33,.t 34]<|
 Zm 36 1<|
 Zm 37 7<|
 Zq 38 false 66 [.t 36,.t 37]<|
 Zb 39 .neq 35 38 .nil)<| .cond (.t 39) (Zr (Zm 40 0<|
 Zm 41 7<|
 Zq 42 false 66 [.t 40,.t 41]<|
 Zm 43 1<|
 Zm 44 7<|
 Zq 45 false 66 [.t 43,.t 44]<|
 Zb 46 .sub 42 45<|
 Zq 47 false 132 [.t 46]<|
 Zm 6 47 .nil) .ret) .skip)<| .rg (Zm 31 7<|
 Zk 32 .sub 31 1<|
 Zm 7 32 .nil))<|Zr (Zc 6 0 .nil) .ret⟩
theorem Qapn:Qe Tryz.prog Tryz.f65=some c65:=by kernel_rfl
def c132:SFn:=⟨7,[.t 2],Zr (Zc 2 0 .nil)<| .seq (Zr (Zm 3 0<|
 Zk 4 .lss 3 0 .nil)<| .cond (.t 4) (Zr (Zc 2 (-1) .nil) .ret) .skip)<| .seq (Zr (Zm 5 0<|
 Zk 6 .gtr 5 0 .nil)<| .cond (.t 6) (Zr (Zc 2 1 .nil) .ret) .skip)<|Zr (Zc 2 0 .nil) .ret⟩
theorem Qala:Qe Tryz.prog Tryz.f132=some c132:=by kernel_rfl
def c110:SFn:=⟨92,[.t 4],Zr (Zo (.mv 4 (.c .nilS)) .nil)<|Zr (Zo (.mv 5 (.c .nilS)) .nil)<|Zr (Zc 6 0<|
 Zc 7 0 .nil)<| .seq (.block 0<| .loop<| .seq (Zr (Zm 10 6<|
 Zm 11 0<|
 Zn 12 11<|
 Zb 13 .lss 10 12<|
 Zm 14 13<|
 Zg 14 false (.mv 15 (.t 7))<|
 Zg 14 false (.mv 16 (.t 1))<|
 Zg 14 false (.len 17 (.t 16))<|
 Zg 14 false (.bin 18 .lss false (.t 15) (.t 17))<|
 Zo (.pick 19 (.t 14) (.c (.bool true)) (.t 18)) .nil)<| .cond (.t 19) .skip (.exit 0))<| .block 1<|Zr (Zc 8 1 .nil)<| .seq (Zr (Zm 20 6<|
 Zm 21 0<|
 Zn 22 21<|
 Zb 23 .eql 20 22 .nil)<| .cond (.t 23) (.rg (Zc 8 (-1) .nil)) (Zr (Zm 24 7<|
 Zm 25 1<|
 Zn 26 25<|
 Zb 27 .lss 24 26 .nil)<| .cond (.t 27) (.rg (Zm 28 0<|
 Zm 29 6<|
 Zi 30 4 28 29<|
 Zf 31 3 30<|
 Zl 32 1 31<|
 Zm 33 1<|
 Zm 34 7<|
 Zi 35 4 33 34<|
 Zf 36 3 35<|
 Zl 37 1 36<|
 Zq 38 false 65 [.t 32,.t 37,.c (Zz 0)]<|
 Zm 8 38 .nil)) .skip))<| .block 2<|Zr (Zm 68 8<|
 Zk 69 .gtr 68 0<|
 Zm 67 69 .nil)<| .cond (.t 67) (Zr (Zm 70 5<|
 Zm 71 0<|
 Zm 72 6<|
 Zi 73 4 71 72<|
 Zh 74 4 73<|
 Zo (.bs 75 4 95 [.t 74])<|
 Zo (.app 76 4 80 95 (.t 70) (.t 75))<|
 Zm 5 76 .nil)<| .rg (Zm 77 6<|
 Zk 78 .add 77 1<|
 Zm 6 78 .nil)) (Zr (Zm 80 8<|
 Zk 81 .lss 80 0<|
 Zm 79 81 .nil)<| .cond (.t 79) (Zr (Zm 82 5<|
 Zm 83 1<|
 Zm 84 7<|
 Zi 85 4 83 84<|
 Zh 86 4 85<|
 Zo (.bs 87 4 95 [.t 86])<|
 Zo (.app 88 4 80 95 (.t 82) (.t 87))<|
 Zm 5 88 .nil)<| .rg (Zm 89 7<|
 Zk 90 .add 89 1<|
 Zm 7 90 .nil)) (.seq (Zr (Zm 39 0<|
 Zm 40 6<|
 Zi 41 4 39 40<|
 Zf 42 0 41<|
 Zh 43 3 42<|
 Zm 44 1<|
 Zm 45 7<|
 Zi 46 4 44 45<|
 Zf 47 0 46<|
 Zh 48 3 47<|
 .br (Zq 49 true 87 [.t 43,.t 48]<|
 Zo (.alloc 9 3 51 (.agg [.bool false,.nilS,.nilS]))<|
 Zs 3 9 49 .nil) (Zo (.alloc 9 3 51 (.agg [.bool false,.nilS,.nilS]))<|
 Zq 49 true 87 [.t 43,.t 48]<|
 Zs 3 9 49 .nil))<|Zr (Zh 50 3 9<|
 Zq 51 false 27 [.t 50]<|
 Zk 52 .neq 51 0 .nil)<| .cond (.t 52) (.rg (Zm 53 5<|
 Zh 54 3 9<|
 Zm 55 0<|
 Zm 56 6<|
 Zi 57 4 55 56<|
 Zf 58 3 57<|
 Zl 59 1 58<|
 Zo (.bld 60 [.bool false,.nilS,.nilS,.nilS] [(0,3,.t 54),(3,1,.t 59)])<|
 Zo (.bs 61 4 95 [.t 60])<|
 Zo (.app 62 4 80 95 (.t 53) (.t 61))<|
 Zm 5 62 .nil)) .skip)<|Zr (Zm 63 6<|
 Zk 64 .add 63 1<|
 Zm 6 64 .nil)<| .rg (Zm 65 7<|
 Zk 66 .add 65 1<|
 Zm 7 66 .nil))))<|Zr (Zm 91 5<|
 Zm 4 91 .nil) .ret⟩
theorem Qalb:Qe Tryz.prog Tryz.f110=some c110:=by kernel_rfl
def c113:SFn:=⟨58,[.t 4],Zr (Zc 4 0 .nil)<| .seq (Zr (Zc 5 0 .nil)<| .block 0<| .loop<| .seq (Zr (Zm 8 5<|
 Zm 9 0<|
 Zn 10 9<|
 Zb 11 .lss 8 10<|
 Zm 12 11<|
 Zg 12 true (.mv 13 (.t 5))<|
 Zg 12 true (.mv 14 (.t 1))<|
 Zg 12 true (.len 15 (.t 14))<|
 Zg 12 true (.bin 16 .lss false (.t 13) (.t 15))<|
 Zo (.pick 17 (.t 12) (.t 16) (.c (.bool false))) .nil)<| .cond (.t 17) .skip (.exit 0))<| .seq (.block 1<| .seq (Zr (Zm 20 0<|
 Zm 21 5<|
 Zi 22 4 20 21<|
 Zf 23 3 22<|
 Zl 24 1 23<|
 Zm 25 1<|
 Zm 26 5<|
 Zi 27 4 25 26<|
 Zf 28 3 27<|
 Zl 29 1 28<|
 Zq 30 false 65 [.t 24,.t 29,.c (Zz 0)]<|
 Zm 6 30 .nil)<|Zr (Zm 31 6<|
 Zk 32 .neq 31 0 .nil)<| .cond (.t 32) (Zr (Zm 33 6<|
 Zm 4 33 .nil) .ret) .skip)<|Zr (Zm 34 0<|
 Zm 35 5<|
 Zi 36 4 34 35<|
 Zf 37 0 36<|
 Zh 38 3 37<|
 Zm 39 1<|
 Zm 40 5<|
 Zi 41 4 39 40<|
 Zf 42 0 41<|
 Zh 43 3 42<|
 Zq 44 false 118 [.t 38,.t 43]<|
 Zm 7 44 .nil)<|Zr (Zm 45 7<|
 Zk 46 .neq 45 0 .nil)<| .cond (.t 46) (Zr (Zm 47 7<|
 Zm 4 47 .nil) .ret) .skip)<| .rg (Zm 18 5<|
 Zk 19 .add 18 1<|
 Zm 5 19 .nil))<| .seq (Zr (Zm 48 0<|
 Zn 49 48<|
 Zm 50 1<|
 Zn 51 50<|
 Zb 52 .lss 49 51 .nil)<| .cond (.t 52) (Zr (Zc 4 (-1) .nil) .ret) .skip)<| .seq (Zr (Zm 53 0<|
 Zn 54 53<|
 Zm 55 1<|
 Zn 56 55<|
 Zb 57 .gtr 54 56 .nil)<| .cond (.t 57) (Zr (Zc 4 1 .nil) .ret) .skip)<|Zr (Zc 4 0 .nil) .ret⟩
theorem Qalc:Qe Tryz.prog Tryz.f113=some c113:=by kernel_rfl
def c70:SFn:=⟨5,[.t 2],Zr (Zo (.box 1 3 51 (.t 0))<|
 Zo (.mv 2 (.c .nilS)) .nil)<|Zr (Zh 3 3 1<|
 Zq 4 false 133 [.c .nilS,.t 3,.c .nilS]<|
 Zm 2 4 .nil) .ret⟩
theorem Qapo:Qe Tryz.prog Tryz.f70=some c70:=by kernel_rfl
def c40:SFn:=⟨9,[.t 4],Zr (Zo (.mv 4 (.c (.bool false))) .nil)<|Zr (Zm 5 0<|
 Zm 6 1<|
 Zq 7 false 113 [.t 5,.t 6]<|
 Zk 8 .eql 7 0<|
 Zm 4 8 .nil) .ret⟩
theorem Qapp:Qe Tryz.prog Tryz.f40=some c40:=by kernel_rfl
def c69:SFn:=⟨22,[.t 4],Zr (Zo (.mv 4 (.c .nilS)) .nil)<|Zr (Zo (.mv 5 (.c .nilS)) .nil)<| .seq (Zr (Zc 6 0 .nil)<| .block 0<| .loop<| .seq (Zr (Zm 7 6<|
 Zm 8 1<|
 Zn 9 8<|
 Zb 10 .lss 7 9 .nil)<| .cond (.t 10) .skip (.exit 0))<| .seq (.block 1<| .rg (Zm 13 5<|
 Zm 14 0<|
 Zm 15 1<|
 Zm 16 6<|
 Zi 17 4 15 16<|
 Zh 18 4 17<|
 Zq 19 false 134 [.t 14,.t 18]<|
 Zq 20 false 110 [.t 13,.t 19]<|
 Zm 5 20 .nil))<| .rg (Zm 11 6<|
 Zk 12 .add 11 1<|
 Zm 6 12 .nil))<|Zr (Zm 21 5<|
 Zm 4 21 .nil) .ret⟩
theorem Qapq:Qe Tryz.prog Tryz.f69=some c69:=by kernel_rfl
def c71:SFn:=⟨6,[.t 2],Zr (Zo (.mv 2 (.c .nilS)) .nil)<|Zr (Zm 3 0<|
 Zq 4 false 50 [.c (Zz (-1))]<|
 Zq 5 false 111 [.t 3,.t 4]<|
 Zm 2 5 .nil) .ret⟩
theorem Qapr:Qe Tryz.prog Tryz.f71=some c71:=by kernel_rfl
def c94:SFn:=⟨34,[.t 2],Zr (Zo (.mv 2 (.c .nilS)) .nil)<|Zr (Zo (.mv 3 (.c .nilS)) .nil)<| .seq (Zr (Zc 4 0 .nil)<| .block 0<| .loop<| .seq (Zr (Zm 6 4<|
 Zm 7 0<|
 Zn 8 7<|
 Zb 9 .lss 6 8 .nil)<| .cond (.t 9) .skip (.exit 0))<| .seq (.block 1<|Zr (Zm 12 0<|
 Zm 13 4<|
 Zi 14 4 12 13<|
 Zf 15 3 14<|
 Zl 16 1 15<|
 Zq 17 false 164 [.t 16]<|
 Zm 5 17 .nil)<|Zr (Zm 18 0<|
 Zm 19 4<|
 Zi 20 4 18 19<|
 Zf 21 3 20<|
 Zl 22 1 21<|
 Zm 23 5<|
 Zq 24 false 165 [.t 22,.t 23] .nil)<| .cond (.t 24) (.rg (Zm 25 3<|
 Zm 26 0<|
 Zm 27 4<|
 Zi 28 4 26 27<|
 Zf 29 0 28<|
 Zh 30 3 29<|
 Zm 31 5<|
 Zq 32 false 133 [.t 25,.t 30,.t 31]<|
 Zm 3 32 .nil)) .skip)<| .rg (Zm 10 4<|
 Zk 11 .add 10 1<|
 Zm 4 11 .nil))<|Zr (Zm 33 3<|
 Zm 2 33 .nil) .ret⟩
theorem Qaps:Qe Tryz.prog Tryz.f94=some c94:=by kernel_rfl
def c19:SFn:=⟨52,[.t 2],Zr (Zo (.mv 2 (.c (.bool false))) .nil)<| .seq (Zr (Zc 3 0 .nil)<| .block 0<| .loop<| .seq (Zr (Zm 4 3<|
 Zm 5 0<|
 Zn 6 5<|
 Zb 7 .lss 4 6 .nil)<| .cond (.t 7) .skip (.exit 0))<| .seq (.block 1<| .seq (Zr (Zm 10 0<|
 Zm 11 3<|
 Zi 12 4 10 11<|
 Zf 13 0 12<|
 Zh 14 3 13<|
 Zq 15 false 25 [.t 14]<|
 Zu 16 15<|
 Zm 17 16<|
 Zg 17 false (.mv 18 (.t 0))<|
 Zg 17 false (.mv 19 (.t 3))<|
 Zg 17 false (.idx 20 4 (.t 18) (.t 19))<|
 Zg 17 false (.fld 21 0 (.t 20))<|
 Zg 17 false (.ld 22 3 true (.t 21))<|
 Zg 17 false (.call (some 23) false (.c (.fn 27 [] [])) [.t 22])<|
 Zg 17 false (.bin 24 .eql false (.t 23) (.c (Zz 0)))<|
 Zo (.pick 25 (.t 17) (.c (.bool true)) (.t 24))<|
 Zm 26 25<|
 Zg 26 false (.mv 27 (.t 0))<|
 Zg 26 false (.mv 28 (.t 3))<|
 Zg 26 false (.idx 29 4 (.t 27) (.t 28))<|
 Zg 26 false (.fld 30 3 (.t 29))<|
 Zg 26 false (.ld 31 1 false (.t 30))<|
 Zg 26 false (.call (some 32) false (.c (.fn 64 [] [])) [.t 31])<|
 Zg 26 false (.un 33 .not (.t 32))<|
 Zo (.pick 34 (.t 26) (.c (.bool true)) (.t 33)) .nil)<| .cond (.t 34) (Zr (Zo (.mv 2 (.c (.bool false))) .nil) .ret) .skip)<|Zr (Zm 35 3<|
 Zk 36 .gtr 35 0<|
 Zm 37 36<|
 Zg 37 true (.mv 38 (.t 0))<|
 Zg 37 true (.mv 39 (.t 3))<|
 Zg 37 true (.bin 40 .sub false (.t 39) (.c (Zz 1)))<|
 Zg 37 true (.idx 41 4 (.t 38) (.t 40))<|
 Zg 37 true (.fld 42 3 (.t 41))<|
 Zg 37 true (.ld 43 1 false (.t 42))<|
 Zg 37 true (.mv 44 (.t 0))<|
 Zg 37 true (.mv 45 (.t 3))<|
 Zg 37 true (.idx 46 4 (.t 44) (.t 45))<|
 Zg 37 true (.fld 47 3 (.t 46))<|
 Zg 37 true (.ld 48 1 false (.t 47))<|
 Zg 37 true (.call (some 49) false (.c (.fn 65 [] [])) [.t 43,.t 48,.c (Zz 0)])<|
 Zg 37 true (.bin 50 .leq false (.t 49) (.c (Zz 0)))<|
 Zo (.pick 51 (.t 37) (.t 50) (.c (.bool false))) .nil)<| .cond (.t 51) (Zr (Zo (.mv 2 (.c (.bool false))) .nil) .ret) .skip)<| .rg (Zm 8 3<|
 Zk 9 .add 8 1<|
 Zm 3 9 .nil))<|Zr (Zo (.mv 2 (.c (.bool true))) .nil) .ret⟩
theorem Qapt:Qe Tryz.prog Tryz.f19=some c19:=by kernel_rfl
def c111:SFn:=⟨35,[.t 4],Zr (Zo (.box 3 3 51 (.t 1))<|
 Zo (.mv 4 (.c .nilS)) .nil)<|Zr (Zo (.mv 5 (.c .nilS)) .nil)<| .seq (Zr (Zc 6 0 .nil)<| .block 0<| .loop<| .seq (Zr (Zm 7 6<|
 Zm 8 0<|
 Zn 9 8<|
 Zb 10 .lss 7 9<|
 Zm 11 10<|
 Zg 11 true (.ld 12 3 true (.t 3))<|
 Zg 11 true (.call (some 13) false (.c (.fn 27 [] [])) [.t 12])<|
 Zg 11 true (.bin 14 .neq false (.t 13) (.c (Zz 0)))<|
 Zo (.pick 15 (.t 11) (.t 14) (.c (.bool false))) .nil)<| .cond (.t 15) .skip (.exit 0))<| .seq (.block 1<| .rg (Zm 18 5<|
 Zm 19 0<|
 Zm 20 6<|
 Zi 21 4 19 20<|
 Zf 22 0 21<|
 Zh 23 3 22<|
 Zh 24 3 3<|
 Zm 26 0<|
 Zm 27 6<|
 Zi 28 4 26 27<|
 Zf 29 3 28<|
 Zl 30 1 29<|
 Zq 25 true 85 [.t 23,.t 24]<|
 Zo (.bld 31 [.bool false,.nilS,.nilS,.nilS] [(0,3,.t 25),(3,1,.t 30)])<|
 Zo (.bs 32 4 95 [.t 31])<|
 Zo (.app 33 4 80 95 (.t 18) (.t 32))<|
 Zm 5 33 .nil))<| .rg (Zm 16 6<|
 Zk 17 .add 16 1<|
 Zm 6 17 .nil))<|Zr (Zm 34 5<|
 Zm 4 34 .nil) .ret⟩
theorem Qald:Qe Tryz.prog Tryz.f111=some c111:=by kernel_rfl
def c68:SFn:=⟨9,[.t 4],Zr (Zo (.mv 4 (.c .nilS)) .nil)<|Zr (Zm 5 0<|
 Zm 6 1<|
 Zq 7 false 71 [.t 6]<|
 Zq 8 false 110 [.t 5,.t 7]<|
 Zm 4 8 .nil) .ret⟩
theorem Qapu:Qe Tryz.prog Tryz.f68=some c68:=by kernel_rfl
def c133:SFn:=⟨88,[.t 6],Zr (Zo (.box 4 3 51 (.t 1))<|
 Zo (.mv 6 (.c .nilS)) .nil)<|Zr (Zm 10 0<|
 Zn 11 10<|
 Zm 7 11 .nil)<| .seq (.block 0<| .loop<| .seq (Zr (Zm 12 7<|
 Zk 13 .gtr 12 0<|
 Zm 14 13<|
 Zg 14 true (.mv 15 (.t 0))<|
 Zg 14 true (.mv 16 (.t 7))<|
 Zg 14 true (.bin 17 .sub false (.t 16) (.c (Zz 1)))<|
 Zg 14 true (.idx 18 4 (.t 15) (.t 17))<|
 Zg 14 true (.fld 19 3 (.t 18))<|
 Zg 14 true (.ld 20 1 false (.t 19))<|
 Zg 14 true (.mv 21 (.t 2))<|
 Zg 14 true (.call (some 22) false (.c (.fn 65 [] [])) [.t 20,.t 21,.c (Zz 0)])<|
 Zg 14 true (.bin 23 .lss false (.t 22) (.c (Zz 0)))<|
 Zo (.pick 24 (.t 14) (.t 23) (.c (.bool false))) .nil)<| .cond (.t 24) .skip (.exit 0))<| .block 1<| .rg (Zm 25 7<|
 Zk 26 .sub 25 1<|
 Zm 7 26 .nil))<|Zr (Zo (.mv 8 (.c .nilS)) .nil)<| .seq (Zr (Zm 27 7<|
 Zk 28 .gtr 27 0<|
 Zm 29 28<|
 Zg 29 true (.mv 30 (.t 0))<|
 Zg 29 true (.mv 31 (.t 7))<|
 Zg 29 true (.bin 32 .sub false (.t 31) (.c (Zz 1)))<|
 Zg 29 true (.idx 33 4 (.t 30) (.t 32))<|
 Zg 29 true (.fld 34 3 (.t 33))<|
 Zg 29 true (.ld 35 1 false (.t 34))<|
 Zg 29 true (.mv 36 (.t 2))<|
 Zg 29 true (.call (some 37) false (.c (.fn 65 [] [])) [.t 35,.t 36,.c (Zz 0)])<|
 Zg 29 true (.bin 38 .eql false (.t 37) (.c (Zz 0)))<|
 Zo (.pick 39 (.t 29) (.t 38) (.c (.bool false))) .nil)<| .cond (.t 39) (Zr (Zm 40 8<|
 Zm 41 0<|
 Zm 42 7<|
 Zk 43 .sub 42 1<|
 Zo (.sl 44 4 (.t 41) none (some (.t 43)) none)<|
 Zo (.app 45 4 80 95 (.t 40) (.t 44))<|
 Zm 8 45 .nil)<| .seq (Zr (Zm 46 0<|
 Zm 47 7<|
 Zk 48 .sub 47 1<|
 Zi 49 4 46 48<|
 Zf 50 0 49<|
 Zh 51 3 50<|
 Zh 52 3 4<|
 .br (Zq 53 true 87 [.t 51,.t 52]<|
 Zo (.alloc 9 3 51 (.agg [.bool false,.nilS,.nilS]))<|
 Zs 3 9 53 .nil) (Zo (.alloc 9 3 51 (.agg [.bool false,.nilS,.nilS]))<|
 Zq 53 true 87 [.t 51,.t 52]<|
 Zs 3 9 53 .nil))<|Zr (Zh 54 3 9<|
 Zq 55 false 27 [.t 54]<|
 Zk 56 .neq 55 0 .nil)<| .cond (.t 56) (.rg (Zm 57 8<|
 Zh 58 3 9<|
 Zm 59 2<|
 Zo (.bld 60 [.bool false,.nilS,.nilS,.nilS] [(0,3,.t 58),(3,1,.t 59)])<|
 Zo (.bs 61 4 95 [.t 60])<|
 Zo (.app 62 4 80 95 (.t 57) (.t 61))<|
 Zm 8 62 .nil)) .skip)<|Zr (Zm 63 8<|
 Zm 64 0<|
 Zm 65 7<|
 Zo (.sl 66 4 (.t 64) (some (.t 65)) none none)<|
 Zo (.app 67 4 80 95 (.t 63) (.t 66))<|
 Zm 6 67 .nil) .ret) .skip)<|Zr (Zm 68 8<|
 Zm 69 0<|
 Zm 70 7<|
 Zo (.sl 71 4 (.t 69) none (some (.t 70)) none)<|
 Zo (.app 72 4 80 95 (.t 68) (.t 71))<|
 Zm 8 72 .nil)<| .seq (Zr (Zh 73 3 4<|
 Zq 74 false 27 [.t 73]<|
 Zk 75 .neq 74 0 .nil)<| .cond (.t 75) (.rg (Zm 76 8<|
 Zh 77 3 4<|
 Zq 78 false 89 [.t 77]<|
 Zm 79 2<|
 Zo (.bld 80 [.bool false,.nilS,.nilS,.nilS] [(0,3,.t 78),(3,1,.t 79)])<|
 Zo (.bs 81 4 95 [.t 80])<|
 Zo (.app 82 4 80 95 (.t 76) (.t 81))<|
 Zm 8 82 .nil)) .skip)<|Zr (Zm 83 8<|
 Zm 84 0<|
 Zm 85 7<|
 Zo (.sl 86 4 (.t 84) (some (.t 85)) none none)<|
 Zo (.app 87 4 80 95 (.t 83) (.t 86))<|
 Zm 6 87 .nil) .ret⟩
theorem Qale:Qe Tryz.prog Tryz.f133=some c133:=by kernel_rfl
def c134:SFn:=⟨34,[.t 4],Zr (Zo (.box 3 4 95 (.t 1))<|
 Zo (.mv 4 (.c .nilS)) .nil)<|Zr (Zo (.mv 5 (.c .nilS)) .nil)<| .seq (Zr (Zc 6 0 .nil)<| .block 0<| .loop<| .seq (Zr (Zm 7 6<|
 Zm 8 0<|
 Zn 9 8<|
 Zb 10 .lss 7 9 .nil)<| .cond (.t 10) .skip (.exit 0))<| .seq (.block 1<| .rg (Zm 13 5<|
 Zm 14 0<|
 Zm 15 6<|
 Zi 16 4 14 15<|
 Zf 17 0 16<|
 Zh 18 3 17<|
 Zf 19 0 3<|
 Zh 20 3 19<|
 Zm 22 0<|
 Zm 23 6<|
 Zi 24 4 22 23<|
 Zf 25 3 24<|
 Zl 26 1 25<|
 Zf 27 3 3<|
 Zl 28 1 27<|
 Zq 21 true 85 [.t 18,.t 20]<|
 Zq 29 true 98 [.t 26,.t 28]<|
 Zo (.bld 30 [.bool false,.nilS,.nilS,.nilS] [(0,3,.t 21),(3,1,.t 29)])<|
 Zo (.bs 31 4 95 [.t 30])<|
 Zo (.app 32 4 80 95 (.t 13) (.t 31))<|
 Zm 5 32 .nil))<| .rg (Zm 11 6<|
 Zk 12 .add 11 1<|
 Zm 6 12 .nil))<|Zr (Zm 33 5<|
 Zm 4 33 .nil) .ret⟩
theorem Qalf:Qe Tryz.prog Tryz.f134=some c134:=by kernel_rfl
def c165:SFn:=⟨20,[.t 4],Zr (Zo (.mv 4 (.c (.bool false))) .nil)<| .seq (Zr (Zc 5 0 .nil)<| .block 0<| .loop<| .seq (Zr (Zm 6 5<|
 Zm 7 0<|
 Zn 8 7<|
 Zb 9 .lss 6 8 .nil)<| .cond (.t 9) .skip (.exit 0))<| .seq (.block 1<|Zr (Zm 12 0<|
 Zm 13 5<|
 Zi 14 1 12 13<|
 Zl 15 1 14<|
 Zm 16 1<|
 Zm 17 5<|
 Zq 18 true 66 [.t 16,.t 17]<|
 Zb 19 .neq 15 18 .nil)<| .cond (.t 19) (Zr (Zo (.mv 4 (.c (.bool false))) .nil) .ret) .skip)<| .rg (Zm 10 5<|
 Zk 11 .add 10 1<|
 Zm 5 11 .nil))<|Zr (Zo (.mv 4 (.c (.bool true))) .nil) .ret⟩
theorem Qalg:Qe Tryz.prog Tryz.f165=some c165:=by kernel_rfl
def c51:SFn:=⟨19,[.cell 4 3 true],Zr (Zo (.alloc 4 3 51 (.agg [.bool false,.nilS,.nilS])) .nil)<|Zr (Zm 8 0<|
 Zq 9 false 120 [.t 8]<|
 Zm 10 1<|
 Zq 11 false 120 [.t 10]<|
 Zq 12 false 121 [.t 9,.t 11]<|
 Zm 7 12<|
 Zo (.ext 13 (.t 7) 0)<|
 Zo (.ext 14 (.t 7) 1)<|
 Zo (.alloc 5 3 51 (.agg [.bool false,.nilS,.nilS]))<|
 Zs 3 5 13<|
 Zm 6 14 .nil)<| .seq (Zr (Zm 15 6<|
 Zk 16 .neq 15 0 .nil)<| .cond (.t 16) (Zr (Zq 17 false 50 [.c (Zz 0)]<|
 Zs 3 4 17 .nil) .ret) .skip)<|Zr (Zh 18 3 5<|
 Zs 3 4 18 .nil) .ret⟩
theorem Qapv:Qe Tryz.prog Tryz.f51=some c51:=by kernel_rfl
def c67:SFn:=⟨19,[.t 2],Zr (Zo (.mv 2 (.c .nilS)) .nil)<| .seq (Zr (Zm 4 0<|
 Zk 5 .lss 4 0<|
 Zm 6 5<|
 Zg 6 false (.mv 7 (.t 0))<|
 Zg 6 false (.bin 8 .geq false (.t 7) (.c (Zz 64)))<|
 Zo (.pick 9 (.t 6) (.c (.bool true)) (.t 8)) .nil)<| .cond (.t 9) (Zr (Zo (.mv 2 (.c .nilS)) .nil) .ret) .skip)<|Zr (Zm 10 0<|
 Zk 11 .add 10 1<|
 Zo (.mk 12 1 8 3 (Zz 0) (.t 11) (.t 11))<|
 Zm 3 12 .nil)<|Zr (Zm 13 3<|
 Zm 14 0<|
 Zi 15 1 13 14<|
 Zo (.st 1 (.t 15) (.c (Zz 1))) .nil)<|Zr (Zq 16 false 50 [.c (Zz 1)]<|
 Zm 17 3<|
 Zq 18 false 133 [.c .nilS,.t 16,.t 17]<|
 Zm 2 18 .nil) .ret⟩
theorem Qapw:Qe Tryz.prog Tryz.f67=some c67:=by kernel_rfl
def c52:SFn:=⟨35,[.t 2],Zr (Zo (.box 1 3 24 (.t 0))<|
 Zo (.mv 2 (.c (.bool false))) .nil)<| .seq (Zr (Zf 3 0 1<|
 Zl 4 1 3<|
 Zk 5 .lss 4 0<|
 Zm 6 5<|
 Zg 6 false (.fld 7 0 (.t 1))<|
 Zg 6 false (.ld 8 1 false (.t 7))<|
 Zg 6 false (.bin 9 .gtr false (.t 8) (.c (Zz 40)))<|
 Zo (.pick 10 (.t 6) (.c (.bool true)) (.t 9))<|
 Zm 11 10<|
 Zg 11 false (.fld 12 1 (.t 1))<|
 Zg 11 false (.ld 13 1 false (.t 12))<|
 Zg 11 false (.bin 14 .lss false (.t 13) (.c (Zz 0)))<|
 Zo (.pick 15 (.t 11) (.c (.bool true)) (.t 14))<|
 Zm 16 15<|
 Zg 16 false (.fld 17 1 (.t 1))<|
 Zg 16 false (.ld 18 1 false (.t 17))<|
 Zg 16 false (.bin 19 .gtr false (.t 18) (.c (Zz 40)))<|
 Zo (.pick 20 (.t 16) (.c (.bool true)) (.t 19))<|
 Zm 21 20<|
 Zg 21 false (.fld 22 2 (.t 1))<|
 Zg 21 false (.ld 23 1 false (.t 22))<|
 Zg 21 false (.len 24 (.t 23))<|
 Zg 21 false (.fld 25 0 (.t 1))<|
 Zg 21 false (.ld 26 1 false (.t 25))<|
 Zg 21 false (.fld 27 1 (.t 1))<|
 Zg 21 false (.ld 28 1 false (.t 27))<|
 Zg 21 false (.bin 29 .mul false (.t 26) (.t 28))<|
 Zg 21 false (.bin 30 .neq false (.t 24) (.t 29))<|
 Zo (.pick 31 (.t 21) (.c (.bool true)) (.t 30)) .nil)<| .cond (.t 31) (Zr (Zo (.mv 2 (.c (.bool false))) .nil) .ret) .skip)<|Zr (Zf 32 2 1<|
 Zl 33 1 32<|
 Zq 34 false 53 [.t 33]<|
 Zm 2 34 .nil) .ret⟩
theorem Qapx:Qe Tryz.prog Tryz.f52=some c52:=by kernel_rfl
def c53:SFn:=⟨15,[.t 2],Zr (Zo (.mv 2 (.c (.bool false))) .nil)<| .seq (Zr (Zm 5 0<|
 Zn 6 5<|
 Zc 7 0 .nil)<| .block 0<| .loop<|Zr (Zb 8 .lss 7 6 .nil)<| .seq (.cond (.t 8) .skip (.exit 0))<| .seq (.block 1<|Zr (Zi 9 3 5 7<|
 Zh 10 3 9<|
 Zo (.alloc 4 3 51 (.agg [.bool false,.nilS,.nilS]))<|
 Zs 3 4 10 .nil)<|Zr (Zh 11 3 4<|
 Zq 12 false 122 [.t 11]<|
 Zu 13 12 .nil)<| .cond (.t 13) (Zr (Zo (.mv 2 (.c (.bool false))) .nil) .ret) .skip)<| .rg (Zk 14 .add 7 1<|
 Zm 7 14 .nil))<|Zr (Zo (.mv 2 (.c (.bool true))) .nil) .ret⟩
theorem Qapy:Qe Tryz.prog Tryz.f53=some c53:=by kernel_rfl
def c154:SFn:=⟨46,[.t 4],Zr (Zo (.box 2 3 24 (.t 0))<|
 Zo (.box 3 3 24 (.t 1))<|
 Zo (.mv 4 (.c (.bool false))) .nil)<| .seq (Zr (Zf 6 0 2<|
 Zl 7 1 6<|
 Zf 8 0 3<|
 Zl 9 1 8<|
 Zb 10 .neq 7 9<|
 Zm 11 10<|
 Zg 11 false (.fld 12 1 (.t 2))<|
 Zg 11 false (.ld 13 1 false (.t 12))<|
 Zg 11 false (.fld 14 1 (.t 3))<|
 Zg 11 false (.ld 15 1 false (.t 14))<|
 Zg 11 false (.bin 16 .neq false (.t 13) (.t 15))<|
 Zo (.pick 17 (.t 11) (.c (.bool true)) (.t 16))<|
 Zm 18 17<|
 Zg 18 false (.fld 19 2 (.t 2))<|
 Zg 18 false (.ld 20 1 false (.t 19))<|
 Zg 18 false (.len 21 (.t 20))<|
 Zg 18 false (.fld 22 2 (.t 3))<|
 Zg 18 false (.ld 23 1 false (.t 22))<|
 Zg 18 false (.len 24 (.t 23))<|
 Zg 18 false (.bin 25 .neq false (.t 21) (.t 24))<|
 Zo (.pick 26 (.t 18) (.c (.bool true)) (.t 25)) .nil)<| .cond (.t 26) (Zr (Zo (.mv 4 (.c (.bool false))) .nil) .ret) .skip)<| .seq (Zr (Zf 27 2 2<|
 Zl 28 1 27<|
 Zn 29 28<|
 Zc 30 0 .nil)<| .block 0<| .loop<|Zr (Zb 31 .lss 30 29 .nil)<| .seq (.cond (.t 31) .skip (.exit 0))<| .seq (.block 1<|Zr (Zm 32 30<|
 Zm 5 32 .nil)<|Zr (Zf 33 2 2<|
 Zl 34 1 33<|
 Zm 35 5<|
 Zi 36 3 34 35<|
 Zh 37 3 36<|
 Zf 38 2 3<|
 Zl 39 1 38<|
 Zm 40 5<|
 Zi 41 3 39 40<|
 Zh 42 3 41<|
 Zq 43 false 179 [.t 37,.t 42]<|
 Zu 44 43 .nil)<| .cond (.t 44) (Zr (Zo (.mv 4 (.c (.bool false))) .nil) .ret) .skip)<| .rg (Zk 45 .add 30 1<|
 Zm 30 45 .nil))<|Zr (Zo (.mv 4 (.c (.bool true))) .nil) .ret⟩
theorem Qalh:Qe Tryz.prog Tryz.f154=some c154:=by kernel_rfl
def c56:SFn:=⟨18,[.t 2],Zr (Zo (.mv 2 (.c .nilS)) .nil)<|Zr (Zm 5 0<|
 Zo (.mk 6 3 56 51 (.agg [.bool false,.nilS,.nilS]) (.t 5) (.t 5))<|
 Zm 3 6 .nil)<| .seq (Zr (Zm 7 3<|
 Zn 8 7<|
 Zc 9 0 .nil)<| .block 0<| .loop<|Zr (Zb 10 .lss 9 8 .nil)<| .seq (.cond (.t 10) .skip (.exit 0))<| .seq (.block 1<|Zr (Zm 11 9<|
 Zm 4 11 .nil)<| .rg (Zm 12 3<|
 Zm 13 4<|
 Zq 14 false 61 [.c (Zz 0)]<|
 Zi 15 3 12 13<|
 Zs 3 15 14 .nil))<| .rg (Zk 16 .add 9 1<|
 Zm 9 16 .nil))<|Zr (Zm 17 3<|
 Zm 2 17 .nil) .ret⟩
theorem Qaab:Qe Tryz.prog Tryz.f56=some c56:=by kernel_rfl
def c57:SFn:=⟨35,[.t 2],Zr (Zo (.box 1 3 24 (.t 0))<|
 Zo (.mv 2 (.c (.bool false))) .nil)<| .seq (Zr (Zf 3 0 1<|
 Zl 4 1 3<|
 Zk 5 .lss 4 0<|
 Zm 6 5<|
 Zg 6 false (.fld 7 0 (.t 1))<|
 Zg 6 false (.ld 8 1 false (.t 7))<|
 Zg 6 false (.bin 9 .gtr false (.t 8) (.c (Zz 40)))<|
 Zo (.pick 10 (.t 6) (.c (.bool true)) (.t 9))<|
 Zm 11 10<|
 Zg 11 false (.fld 12 1 (.t 1))<|
 Zg 11 false (.ld 13 1 false (.t 12))<|
 Zg 11 false (.bin 14 .lss false (.t 13) (.c (Zz 0)))<|
 Zo (.pick 15 (.t 11) (.c (.bool true)) (.t 14))<|
 Zm 16 15<|
 Zg 16 false (.fld 17 1 (.t 1))<|
 Zg 16 false (.ld 18 1 false (.t 17))<|
 Zg 16 false (.bin 19 .gtr false (.t 18) (.c (Zz 40)))<|
 Zo (.pick 20 (.t 16) (.c (.bool true)) (.t 19))<|
 Zm 21 20<|
 Zg 21 false (.fld 22 2 (.t 1))<|
 Zg 21 false (.ld 23 1 false (.t 22))<|
 Zg 21 false (.len 24 (.t 23))<|
 Zg 21 false (.fld 25 0 (.t 1))<|
 Zg 21 false (.ld 26 1 false (.t 25))<|
 Zg 21 false (.fld 27 1 (.t 1))<|
 Zg 21 false (.ld 28 1 false (.t 27))<|
 Zg 21 false (.bin 29 .mul false (.t 26) (.t 28))<|
 Zg 21 false (.bin 30 .neq false (.t 24) (.t 29))<|
 Zo (.pick 31 (.t 21) (.c (.bool true)) (.t 30)) .nil)<| .cond (.t 31) (Zr (Zo (.mv 2 (.c (.bool false))) .nil) .ret) .skip)<|Zr (Zf 32 2 1<|
 Zl 33 1 32<|
 Zq 34 false 58 [.t 33]<|
 Zm 2 34 .nil) .ret⟩
theorem Qapz:Qe Tryz.prog Tryz.f57=some c57:=by kernel_rfl
def c58:SFn:=⟨16,[.t 2],Zr (Zo (.mv 2 (.c (.bool false))) .nil)<| .seq (Zr (Zc 3 0 .nil)<| .block 0<| .loop<| .seq (Zr (Zm 4 3<|
 Zm 5 0<|
 Zn 6 5<|
 Zb 7 .lss 4 6 .nil)<| .cond (.t 7) .skip (.exit 0))<| .seq (.block 1<|Zr (Zm 10 0<|
 Zm 11 3<|
 Zi 12 3 10 11<|
 Zh 13 3 12<|
 Zq 14 false 25 [.t 13]<|
 Zu 15 14 .nil)<| .cond (.t 15) (Zr (Zo (.mv 2 (.c (.bool false))) .nil) .ret) .skip)<| .rg (Zm 8 3<|
 Zk 9 .add 8 1<|
 Zm 3 9 .nil))<|Zr (Zo (.mv 2 (.c (.bool true))) .nil) .ret⟩
theorem Qap0:Qe Tryz.prog Tryz.f58=some c58:=by kernel_rfl
def c201:SFn:=⟨17,[.cell 6 3 true],Zr (Zo (.box 3 3 24 (.t 0))<|
 Zo (.alloc 6 3 51 (.agg [.bool false,.nilS,.nilS])) .nil)<|Zr (Zf 7 2 3<|
 Zl 8 1 7<|
 Zm 9 1<|
 Zf 10 1 3<|
 Zl 11 1 10<|
 Zb 12 .mul 9 11<|
 Zm 13 2<|
 Zb 14 .add 12 13<|
 Zi 15 3 8 14<|
 Zh 16 3 15<|
 Zs 3 6 16 .nil) .ret⟩
theorem Qali:Qe Tryz.prog Tryz.f201=some c201:=by kernel_rfl
def c159:SFn:=⟨31,[.t 4],Zr (Zo (.box 2 3 24 (.t 0))<|
 Zo (.box 3 3 24 (.t 1))<|
 Zo (.mv 4 (.c (.bool false))) .nil)<| .seq (Zr (Zf 5 0 2<|
 Zl 6 1 5<|
 Zf 7 0 3<|
 Zl 8 1 7<|
 Zb 9 .neq 6 8<|
 Zm 10 9<|
 Zg 10 false (.fld 11 1 (.t 2))<|
 Zg 10 false (.ld 12 1 false (.t 11))<|
 Zg 10 false (.fld 13 1 (.t 3))<|
 Zg 10 false (.ld 14 1 false (.t 13))<|
 Zg 10 false (.bin 15 .neq false (.t 12) (.t 14))<|
 Zo (.pick 16 (.t 10) (.c (.bool true)) (.t 15))<|
 Zm 17 16<|
 Zg 17 false (.fld 18 2 (.t 2))<|
 Zg 17 false (.ld 19 1 false (.t 18))<|
 Zg 17 false (.len 20 (.t 19))<|
 Zg 17 false (.fld 21 2 (.t 3))<|
 Zg 17 false (.ld 22 1 false (.t 21))<|
 Zg 17 false (.len 23 (.t 22))<|
 Zg 17 false (.bin 24 .neq false (.t 20) (.t 23))<|
 Zo (.pick 25 (.t 17) (.c (.bool true)) (.t 24)) .nil)<| .cond (.t 25) (Zr (Zo (.mv 4 (.c (.bool false))) .nil) .ret) .skip)<|Zr (Zf 26 2 2<|
 Zl 27 1 26<|
 Zf 28 2 3<|
 Zl 29 1 28<|
 Zq 30 false 17 [.t 27,.t 29]<|
 Zm 4 30 .nil) .ret⟩
theorem Qalj:Qe Tryz.prog Tryz.f159=some c159:=by kernel_rfl
def c17:SFn:=⟨27,[.t 4],Zr (Zo (.mv 4 (.c (.bool false))) .nil)<| .seq (Zr (Zm 6 0<|
 Zn 7 6<|
 Zm 8 1<|
 Zn 9 8<|
 Zb 10 .neq 7 9 .nil)<| .cond (.t 10) (Zr (Zo (.mv 4 (.c (.bool false))) .nil) .ret) .skip)<| .seq (Zr (Zc 5 0 .nil)<| .block 0<| .loop<| .seq (Zr (Zm 11 5<|
 Zm 12 0<|
 Zn 13 12<|
 Zb 14 .lss 11 13 .nil)<| .cond (.t 14) .skip (.exit 0))<| .seq (.block 1<|Zr (Zm 17 0<|
 Zm 18 5<|
 Zi 19 3 17 18<|
 Zh 20 3 19<|
 Zm 21 1<|
 Zm 22 5<|
 Zi 23 3 21 22<|
 Zh 24 3 23<|
 Zq 25 false 49 [.t 20,.t 24]<|
 Zu 26 25 .nil)<| .cond (.t 26) (Zr (Zo (.mv 4 (.c (.bool false))) .nil) .ret) .skip)<| .rg (Zm 15 5<|
 Zk 16 .add 15 1<|
 Zm 5 16 .nil))<|Zr (Zo (.mv 4 (.c (.bool true))) .nil) .ret⟩
theorem Qap1:Qe Tryz.prog Tryz.f17=some c17:=by kernel_rfl
def c124:SFn:=⟨17,[.t 4],Zr (Zo (.box 2 3 24 (.t 0))<|
 Zo (.mv 4 (.c .nilS)) .nil)<|Zr (Zf 5 2 2<|
 Zl 6 1 5<|
 Zm 7 1<|
 Zf 8 1 2<|
 Zl 9 1 8<|
 Zb 10 .mul 7 9<|
 Zm 11 1<|
 Zk 12 .add 11 1<|
 Zf 13 1 2<|
 Zl 14 1 13<|
 Zb 15 .mul 12 14<|
 Zo (.sl 16 3 (.t 6) (some (.t 10)) (some (.t 15)) none)<|
 Zm 4 16 .nil) .ret⟩
theorem Qalk:Qe Tryz.prog Tryz.f124=some c124:=by kernel_rfl
def c126:SFn:=⟨30,[.t 6],Zr (Zo (.box 5 3 51 (.t 2))<|
 Zo (.mv 6 (.c .nilS)) .nil)<|Zr (Zo (.mv 7 (.c .nilS)) .nil)<| .seq (Zr (Zc 8 0 .nil)<| .block 0<| .loop<| .seq (Zr (Zm 9 8<|
 Zm 10 0<|
 Zn 11 10<|
 Zb 12 .lss 9 11 .nil)<| .cond (.t 12) .skip (.exit 0))<| .seq (.block 1<| .rg (Zm 15 7<|
 Zm 16 0<|
 Zm 17 8<|
 Zi 18 3 16 17<|
 Zh 19 3 18<|
 Zh 20 3 5<|
 Zm 21 1<|
 Zm 22 8<|
 Zi 23 3 21 22<|
 Zh 24 3 23<|
 Zq 25 true 85 [.t 20,.t 24]<|
 Zq 26 true 145 [.t 19,.t 25]<|
 Zo (.bs 27 3 51 [.t 26])<|
 Zo (.app 28 3 56 51 (.t 15) (.t 27))<|
 Zm 7 28 .nil))<| .rg (Zm 13 8<|
 Zk 14 .add 13 1<|
 Zm 8 14 .nil))<|Zr (Zm 29 7<|
 Zm 6 29 .nil) .ret⟩
theorem Qall:Qe Tryz.prog Tryz.f126=some c126:=by kernel_rfl
def c125:SFn:=⟨29,[.t 4],Zr (Zo (.box 3 3 51 (.t 1))<|
 Zo (.mv 4 (.c .nilS)) .nil)<|Zr (Zo (.mv 5 (.c .nilS)) .nil)<| .seq (Zr (Zc 6 0 .nil)<| .block 0<| .loop<| .seq (Zr (Zm 9 6<|
 Zm 10 0<|
 Zn 11 10<|
 Zb 12 .lss 9 11 .nil)<| .cond (.t 12) .skip (.exit 0))<| .seq (.block 1<|Zr (Zm 16 0<|
 Zm 17 6<|
 Zi 18 3 16 17<|
 Zh 19 3 18<|
 Zh 20 3 3<|
 .br (Zq 21 true 143 [.t 19,.t 20]<|
 Zm 15 21<|
 Zo (.ext 22 (.t 15) 0)<|
 Zo (.ext 23 (.t 15) 1)<|
 Zo (.alloc 7 3 51 (.agg [.bool false,.nilS,.nilS]))<|
 Zs 3 7 22<|
 Zm 8 23 .nil) (Zo (.alloc 7 3 51 (.agg [.bool false,.nilS,.nilS]))<|
 Zq 21 true 143 [.t 19,.t 20]<|
 Zm 15 21<|
 Zo (.ext 22 (.t 15) 0)<|
 Zo (.ext 23 (.t 15) 1)<|
 Zs 3 7 22<|
 Zm 8 23 .nil))<| .rg (Zm 24 5<|
 Zh 25 3 7<|
 Zo (.bs 26 3 51 [.t 25])<|
 Zo (.app 27 3 56 51 (.t 24) (.t 26))<|
 Zm 5 27 .nil))<| .rg (Zm 13 6<|
 Zk 14 .add 13 1<|
 Zm 6 14 .nil))<|Zr (Zm 28 5<|
 Zm 4 28 .nil) .ret⟩
theorem Qalm:Qe Tryz.prog Tryz.f125=some c125:=by kernel_rfl
def c160:SFn:=⟨26,[.t 2],Zr (Zo (.box 1 3 24 (.t 0))<|
 Zo (.mv 2 (.c (.bool false))) .nil)<| .seq (Zr (Zc 3 0 .nil)<| .block 0<| .loop<| .seq (Zr (Zm 5 3<|
 Zf 6 0 1<|
 Zl 7 1 6<|
 Zb 8 .lss 5 7 .nil)<| .cond (.t 8) .skip (.exit 0))<| .seq (.block 1<|Zr (Zc 4 0 .nil)<| .block 2<| .loop<| .seq (Zr (Zm 11 4<|
 Zm 12 3<|
 Zb 13 .lss 11 12 .nil)<| .cond (.t 13) .skip (.exit 2))<| .seq (.block 3<|Zr (Zh 16 3 1<|
 Zm 17 3<|
 Zm 18 4<|
 Zh 20 3 1<|
 Zm 21 4<|
 Zm 22 3<|
 Zq 19 true 201 [.t 16,.t 17,.t 18]<|
 Zq 23 true 201 [.t 20,.t 21,.t 22]<|
 Zq 24 true 49 [.t 19,.t 23]<|
 Zu 25 24 .nil)<| .cond (.t 25) (Zr (Zo (.mv 2 (.c (.bool false))) .nil) .ret) .skip)<| .rg (Zm 14 4<|
 Zk 15 .add 14 1<|
 Zm 4 15 .nil))<| .rg (Zm 9 3<|
 Zk 10 .add 9 1<|
 Zm 3 10 .nil))<|Zr (Zo (.mv 2 (.c (.bool true))) .nil) .ret⟩
theorem Qaln:Qe Tryz.prog Tryz.f160=some c160:=by kernel_rfl
def c162:SFn:=⟨12,[.t 6],Zr (Zo (.box 5 3 51 (.t 2))<|
 Zo (.mv 6 (.c .nilS)) .nil)<|Zr (Zm 7 0<|
 Zm 8 1<|
 Zh 9 3 5<|
 Zq 10 false 63 [.t 9]<|
 Zq 11 false 126 [.t 7,.t 8,.t 10]<|
 Zm 6 11 .nil) .ret⟩
theorem Qalo:Qe Tryz.prog Tryz.f162=some c162:=by kernel_rfl
def c12:SFn:=⟨54,[.t 0],Zr (Zo (.mv 0 (.c (.bool false))) .nil)<|Zr (Zo (.bs 9 1 3 [.c (Zz 0),.c (Zz 1),.c (Zz 1),.c (Zz 0)])<|
 Zq 10 false 46 [.t 9]<|
 Zq 11 false 45 [.c (Zz 2),.c (Zz 2),.t 10]<|
 Zm 8 11<|
 Zo (.ext 12 (.t 8) 0)<|
 Zo (.ext 13 (.t 8) 1)<|
 Zo (.alloc 1 3 24 (.agg [Zz 0,Zz 0,.nilS]))<|
 Zs 3 1 12<|
 Zm 2 13 .nil)<|Zr (Zh 15 3 1<|
 Zq 16 false 47 [.t 15]<|
 Zm 14 16<|
 Zo (.ext 17 (.t 14) 0)<|
 Zo (.ext 18 (.t 14) 1)<|
 Zo (.alloc 3 3 51 (.agg [.bool false,.nilS,.nilS]))<|
 Zs 3 3 17<|
 Zm 4 18 .nil)<|Zr (Zh 20 3 1<|
 Zq 21 false 48 [.t 20]<|
 Zm 19 21<|
 Zo (.ext 22 (.t 19) 0)<|
 Zo (.ext 23 (.t 19) 1)<|
 Zo (.ext 24 (.t 19) 2)<|
 Zo (.alloc 6 3 24 (.agg [Zz 0,Zz 0,.nilS]))<|
 Zm 5 22<|
 Zs 3 6 23<|
 Zm 7 24 .nil)<|Zr (Zm 25 2<|
 Zk 26 .eql 25 0<|
 Zm 27 26<|
 Zg 27 true (.mv 28 (.t 4))<|
 Zg 27 true (.bin 29 .eql false (.t 28) (.c (Zz 0)))<|
 Zo (.pick 30 (.t 27) (.t 29) (.c (.bool false)))<|
 Zm 31 30<|
 Zg 31 true (.mv 32 (.t 7))<|
 Zg 31 true (.bin 33 .eql false (.t 32) (.c (Zz 0)))<|
 Zo (.pick 34 (.t 31) (.t 33) (.c (.bool false)))<|
 Zm 35 34<|
 Zg 35 true (.ld 36 3 true (.t 3))<|
 Zg 35 true (.call (some 37) true (.c (.fn 50 [] [])) [.c (Zz (-1))])<|
 Zg 35 true (.call (some 38) true (.c (.fn 49 [] [])) [.t 36,.t 37])<|
 Zo (.pick 39 (.t 35) (.t 38) (.c (.bool false)))<|
 Zm 40 39<|
 Zg 40 true (.mv 41 (.t 5))<|
 Zg 40 true (.call (some 42) true (.c (.fn 51 [] [])) [.c (Zz 1),.c (Zz 2)])<|
 Zg 40 true (.call (some 43) true (.c (.fn 51 [] [])) [.c (Zz (-1)),.c (Zz 2)])<|
 Zg 40 true (.bs 44 3 51 [.t 42,.t 43])<|
 Zg 40 true (.call (some 45) true (.c (.fn 17 [] [])) [.t 41,.t 44])<|
 Zo (.pick 46 (.t 40) (.t 45) (.c (.bool false)))<|
 Zm 47 46<|
 Zg 47 true (.fld 48 2 (.t 6))<|
 Zg 47 true (.ld 49 1 false (.t 48))<|
 Zg 47 true (.bs 50 1 3 [.c (Zz 1),.c (Zz 1),.c (Zz (-1)),.c (Zz 1)])<|
 Zg 47 true (.call (some 51) true (.c (.fn 46 [] [])) [.t 50])<|
 Zg 47 true (.call (some 52) true (.c (.fn 17 [] [])) [.t 49,.t 51])<|
 Zo (.pick 53 (.t 47) (.t 52) (.c (.bool false)))<|
 Zm 0 53 .nil) .ret⟩
def c3:SFn:=⟨84,[.t 4],Zr (Zo (.box 2 3 24 (.t 0))<|
 Zo (.mv 4 (.c (.bool false))) .nil)<| .seq (Zr (Zh 14 3 2<|
 Zo (.bs 15 3 24 [.t 14])<|
 Zq 16 false 10 [.t 15]<|
 Zu 17 16<|
 Zm 18 17<|
 Zg 18 false (.mv 19 (.t 1))<|
 Zg 18 false (.call (some 20) false (.c (.fn 11 [] [])) [.t 19,.c (Zz 8)])<|
 Zg 18 false (.un 21 .not (.t 20))<|
 Zo (.pick 22 (.t 18) (.c (.bool true)) (.t 21)) .nil)<| .cond (.t 22) (Zr (Zq 23 false 12 []<|
 Zm 4 23 .nil) .ret) .skip)<|Zr (Zh 25 3 2<|
 Zm 26 1<|
 Zq 27 false 13 [.t 25,.t 26]<|
 Zm 24 27<|
 Zo (.ext 28 (.t 24) 0)<|
 Zo (.ext 29 (.t 24) 1)<|
 Zm 5 28<|
 Zm 6 29 .nil)<|Zr (Zh 31 3 2<|
 Zm 32 1<|
 Zq 33 false 14 [.t 31,.t 32]<|
 Zm 30 33<|
 Zo (.ext 34 (.t 30) 0)<|
 Zo (.ext 35 (.t 30) 1)<|
 Zm 7 34<|
 Zm 8 35 .nil)<|Zr (Zh 37 3 2<|
 Zq 38 false 15 [.t 37]<|
 Zm 36 38<|
 Zo (.ext 39 (.t 36) 0)<|
 Zo (.ext 40 (.t 36) 1)<|
 Zm 9 39<|
 Zm 10 40 .nil)<|Zr (Zh 42 3 2<|
 Zq 43 false 16 [.t 42]<|
 Zm 41 43<|
 Zo (.ext 44 (.t 41) 0)<|
 Zo (.ext 45 (.t 41) 1)<|
 Zm 11 44<|
 Zm 12 45 .nil)<| .seq (Zr (Zm 46 5<|
 Zm 47 7<|
 Zq 48 false 17 [.t 46,.t 47]<|
 Zu 49 48<|
 Zm 50 49<|
 Zg 50 false (.mv 51 (.t 6))<|
 Zg 50 false (.mv 52 (.t 8))<|
 Zg 50 false (.bin 53 .neq false (.t 51) (.t 52))<|
 Zo (.pick 54 (.t 50) (.c (.bool true)) (.t 53))<|
 Zm 55 54<|
 Zg 55 false (.mv 56 (.t 9))<|
 Zg 55 false (.len 57 (.t 56))<|
 Zg 55 false (.mv 58 (.t 11))<|
 Zg 55 false (.len 59 (.t 58))<|
 Zg 55 false (.bin 60 .neq false (.t 57) (.t 59))<|
 Zo (.pick 61 (.t 55) (.c (.bool true)) (.t 60))<|
 Zm 62 61<|
 Zg 62 false (.mv 63 (.t 10))<|
 Zg 62 false (.mv 64 (.t 12))<|
 Zg 62 false (.bin 65 .neq false (.t 63) (.t 64))<|
 Zo (.pick 66 (.t 62) (.c (.bool true)) (.t 65)) .nil)<| .cond (.t 66) (Zr (Zo (.mv 4 (.c (.bool false))) .nil) .ret) .skip)<| .seq (Zr (Zc 13 0 .nil)<| .block 0<| .loop<| .seq (Zr (Zm 67 13<|
 Zm 68 9<|
 Zn 69 68<|
 Zb 70 .lss 67 69 .nil)<| .cond (.t 70) .skip (.exit 0))<| .seq (.block 1<|Zr (Zm 73 9<|
 Zm 74 13<|
 Zi 75 1 73 74<|
 Zl 76 1 75<|
 Zm 77 11<|
 Zm 78 13<|
 Zi 79 1 77 78<|
 Zl 80 1 79<|
 Zq 81 false 17 [.t 76,.t 80]<|
 Zu 82 81 .nil)<| .cond (.t 82) (Zr (Zo (.mv 4 (.c (.bool false))) .nil) .ret) .skip)<| .rg (Zm 71 13<|
 Zk 72 .add 71 1<|
 Zm 13 72 .nil))<|Zr (Zq 83 false 12 []<|
 Zm 4 83 .nil) .ret⟩
def c54:SFn:=⟨38,[.t 2],Zr (Zo (.box 1 3 24 (.t 0))<|
 Zo (.mv 2 (.c .nilS)) .nil)<|Zr (Zf 5 0 1<|
 Zl 6 1 5<|
 Zo (.mk 7 1 24 22 .nilS (.t 6) (.t 6))<|
 .wk<| .wk<|Zm 3 7 .nil)<| .seq (Zr (Zf 8 0 1<|
 Zl 9 1 8<|
 Zc 10 0 .nil)<| .block 0<| .loop<|Zr (Zb 11 .lss 10 9 .nil)<| .seq (.cond (.t 11) .skip (.exit 0))<| .seq (.block 1<|Zr (Zm 12 10<|
 Zm 4 12 .nil)<|Zr (Zm 13 3<|
 Zm 14 4<|
 Zf 15 1 1<|
 Zl 16 1 15<|
 Zo (.mk 17 3 56 51 (.agg [.bool false,.nilS,.nilS]) (.t 16) (.t 16))<|
 .wk<|Zi 18 1 13 14<|
 Zs 1 18 17 .nil)<| .rg (Zm 19 3<|
 Zm 20 4<|
 Zi 21 1 19 20<|
 Zl 22 1 21<|
 Zf 23 2 1<|
 Zl 24 1 23<|
 Zm 25 4<|
 Zf 26 1 1<|
 Zl 27 1 26<|
 Zb 28 .mul 25 27<|
 Zm 29 4<|
 Zk 30 .add 29 1<|
 Zf 31 1 1<|
 Zl 32 1 31<|
 Zb 33 .mul 30 32<|
 Zo (.sl 34 3 (.t 24) (some (.t 28)) (some (.t 33)) none)<|
 Zo (.cpy 35 3 (.t 22) (.t 34)) .nil))<| .rg (Zk 36 .add 10 1<|
 Zm 10 36 .nil))<|Zr (Zm 37 3<|
 Zm 2 37 .nil) .ret⟩
theorem Qaac:Qe Tryz.prog Tryz.f54=some c54.strip:=by kernel_rfl
def Q02:SFn:=⟨30,[],Zr (Zo (.box 5 3 51 (.t 2)) .nil)<| .seq (Zr (Zh 7 3 5<|
 Zq 8 false 38 [.t 7]<|
 Zk 9 .eql 8 0 .nil)<| .cond (.t 9) .ret .skip)<|Zr (Zm 10 0<|
 Zn 11 10<|
 Zc 12 0 .nil)<| .block 0<| .loop<|Zr (Zb 13 .lss 12 11 .nil)<| .seq (.cond (.t 13) .skip (.exit 0))<| .seq (.block 1<|Zr (Zm 14 12<|
 Zm 6 14 .nil)<| .rg (Zm 15 0<|
 Zm 16 6<|
 Zm 17 0<|
 Zm 18 6<|
 Zi 19 3 17 18<|
 Zh 20 3 19<|
 Zh 21 3 5<|
 Zm 22 1<|
 Zm 23 6<|
 Zi 24 3 22 23<|
 Zh 25 3 24<|
 Zq 26 true 105 [.t 21,.t 25]<|
 Zq 27 true 181 [.t 20,.t 26]<|
 Zi 28 3 15 16<|
 Zs 3 28 27 .nil))<| .rg (Zk 29 .add 12 1<|
 Zm 12 29 .nil)⟩
theorem Q4o:Qe Tryz.prog Tryz.f117=some Q02.strip:=by kernel_rfl
def Q03:SFn:=⟨33,[.t 6],Zr (Zo (.box 5 3 51 (.t 2))<|
 Zo (.mv 6 (.c .nilS)) .nil)<|Zr (Zm 9 0<|
 Zn 10 9<|
 Zo (.mk 11 3 56 51 (.agg [.bool false,.nilS,.nilS]) (.t 10) (.t 10))<|
 Zm 7 11 .nil)<| .seq (Zr (Zm 12 0<|
 Zn 13 12<|
 Zc 14 0 .nil)<| .block 0<| .loop<|Zr (Zb 15 .lss 14 13 .nil)<| .seq (.cond (.t 15) .skip (.exit 0))<| .seq (.block 1<|Zr (Zm 16 14<|
 Zm 8 16 .nil)<| .rg (Zm 17 7<|
 Zm 18 8<|
 Zm 19 0<|
 Zm 20 8<|
 Zi 21 3 19 20<|
 Zh 22 3 21<|
 Zh 23 3 5<|
 Zm 24 1<|
 Zm 25 8<|
 Zi 26 3 24 25<|
 Zh 27 3 26<|
 Zq 28 true 105 [.t 23,.t 27]<|
 Zq 29 true 107 [.t 22,.t 28]<|
 Zi 30 3 17 18<|
 Zs 3 30 29 .nil))<| .rg (Zk 31 .add 14 1<|
 Zm 14 31 .nil))<|Zr (Zm 32 7<|
 Zm 6 32 .nil) .ret⟩
theorem Q4p:Qe Tryz.prog Tryz.f180=some Q03.strip:=by kernel_rfl
def Q04:SFn:=⟨32,[.t 2],Zr (Zo (.mv 2 (.c (.bool false))) .nil)<| .seq (Zr (Zm 5 0<|
 Zn 6 5<|
 Zc 7 0 .nil)<| .block 0<| .loop<|Zr (Zb 8 .lss 7 6 .nil)<| .seq (.cond (.t 8) .skip (.exit 0))<| .seq (.block 1<|Zr (Zm 9 7<|
 Zm 3 9 .nil)<|Zr (Zm 10 3<|
 Zc 11 0 .nil)<| .block 2<| .loop<|Zr (Zb 12 .lss 11 10 .nil)<| .seq (.cond (.t 12) .skip (.exit 2))<| .seq (.block 3<|Zr (Zm 13 11<|
 Zm 4 13 .nil)<|Zr (Zm 14 0<|
 Zm 15 3<|
 Zi 16 1 14 15<|
 Zl 17 1 16<|
 Zm 18 4<|
 Zi 19 3 17 18<|
 Zh 20 3 19<|
 Zm 21 0<|
 Zm 22 4<|
 Zi 23 1 21 22<|
 Zl 24 1 23<|
 Zm 25 3<|
 Zi 26 3 24 25<|
 Zh 27 3 26<|
 Zq 28 false 179 [.t 20,.t 27]<|
 Zu 29 28 .nil)<| .cond (.t 29) (Zr (Zo (.mv 2 (.c (.bool false))) .nil) .ret) .skip)<| .rg (Zk 30 .add 11 1<|
 Zm 11 30 .nil))<| .rg (Zk 31 .add 7 1<|
 Zm 7 31 .nil))<|Zr (Zo (.mv 2 (.c (.bool true))) .nil) .ret⟩
theorem Q4q:Qe Tryz.prog Tryz.f115=some Q04.strip:=by kernel_rfl
def c116:SFn:=⟨102,[.t 2],Zr (Zo (.mv 2 (.c .nilS)) .nil)<|Zr (Zq 13 false 61 [.c (Zz 1)]<|
 Zo (.alloc 3 3 51 (.agg [.bool false,.nilS,.nilS]))<|
 Zs 3 3 13 .nil)<| .seq (Zr (Zm 14 0<|
 Zn 15 14<|
 Zc 16 0 .nil)<| .block 0<| .loop<|Zr (Zb 17 .lss 16 15 .nil)<| .seq (.cond (.t 17) .skip (.exit 0))<| .seq (.block 1<|Zr (Zm 18 16<|
 Zm 4 18 .nil)<|Zr (Zm 19 0<|
 Zm 20 4<|
 Zi 21 1 19 20<|
 Zl 22 1 21<|
 Zm 23 4<|
 Zi 24 3 22 23<|
 Zh 25 3 24<|
 Zo (.alloc 5 3 51 (.agg [.bool false,.nilS,.nilS]))<|
 Zs 3 5 25 .nil)<|Zr (Zh 26 3 5<|
 Zq 27 false 38 [.t 26]<|
 Zk 28 .neq 27 0 .nil)<| .cond (.t 28) (Zr (Zh 30 3 3<|
 Zh 31 3 5<|
 Zq 32 false 123 [.t 30,.t 31]<|
 Zm 29 32<|
 Zo (.ext 33 (.t 29) 0)<|
 Zo (.ext 34 (.t 29) 1)<|
 Zo (.alloc 6 3 51 (.agg [.bool false,.nilS,.nilS]))<|
 Zs 3 6 33<|
 Zm 7 34 .nil)<|Zr (Zh 35 3 5<|
 Zm 36 0<|
 Zn 37 36<|
 Zm 39 0<|
 Zm 40 4<|
 Zi 41 1 39 40<|
 Zl 42 1 41<|
 Zh 43 3 6<|
 Zq 38 true 56 [.t 37]<|
 Zq 44 true 180 [.t 38,.t 42,.t 43]<|
 Zo (.bld 45 [.bool false,.nilS,.nilS,.nilS] [(0,3,.t 35),(3,1,.t 44)])<|
 Zo (.bs 46 4 133 [.t 45])<|
 Zm 2 46 .nil) .ret) .skip)<| .rg (Zk 47 .add 16 1<|
 Zm 16 47 .nil))<| .seq (Zr (Zm 48 0<|
 Zn 49 48<|
 Zc 50 0 .nil)<| .block 2<| .loop<|Zr (Zb 51 .lss 50 49 .nil)<| .seq (.cond (.t 51) .skip (.exit 2))<| .seq (.block 3<|Zr (Zm 52 50<|
 Zm 8 52 .nil)<|Zr (Zm 53 0<|
 Zm 54 8<|
 Zi 55 1 53 54<|
 Zl 56 1 55<|
 Zn 57 56<|
 Zc 58 0 .nil)<| .block 4<| .loop<|Zr (Zb 59 .lss 58 57 .nil)<| .seq (.cond (.t 59) .skip (.exit 4))<| .seq (.block 5<|Zr (Zm 60 58<|
 Zi 61 3 56 58<|
 Zh 62 3 61<|
 Zo (.alloc 10 3 51 (.agg [.bool false,.nilS,.nilS]))<|
 Zm 9 60<|
 Zs 3 10 62 .nil)<|Zr (Zh 63 3 10<|
 Zq 64 false 38 [.t 63]<|
 Zk 65 .neq 64 0 .nil)<| .cond (.t 65) (Zr (Zh 67 3 3<|
 Zh 68 3 10<|
 Zh 69 3 10<|
 .br (Zq 70 true 107 [.t 68,.t 69]<|
 .br (Zq 71 true 123 [.t 67,.t 70]<|
 Zm 66 71<|
 Zo (.ext 72 (.t 66) 0)<|
 Zo (.ext 73 (.t 66) 1)<|
 Zo (.alloc 11 3 51 (.agg [.bool false,.nilS,.nilS]))<|
 Zs 3 11 72<|
 Zm 12 73 .nil) (Zo (.alloc 11 3 51 (.agg [.bool false,.nilS,.nilS]))<|
 Zq 71 true 123 [.t 67,.t 70]<|
 Zm 66 71<|
 Zo (.ext 72 (.t 66) 0)<|
 Zo (.ext 73 (.t 66) 1)<|
 Zs 3 11 72<|
 Zm 12 73 .nil)) (Zo (.alloc 11 3 51 (.agg [.bool false,.nilS,.nilS]))<|
 Zq 70 true 107 [.t 68,.t 69]<|
 Zq 71 true 123 [.t 67,.t 70]<|
 Zm 66 71<|
 Zo (.ext 72 (.t 66) 0)<|
 Zo (.ext 73 (.t 66) 1)<|
 Zs 3 11 72<|
 Zm 12 73 .nil))<|Zr (Zh 74 3 11<|
 Zm 75 0<|
 Zm 76 8<|
 Zi 77 1 75 76<|
 Zl 78 1 77<|
 Zm 79 0<|
 Zm 80 9<|
 Zi 81 1 79 80<|
 Zl 82 1 81<|
 Zh 83 3 3<|
 Zh 86 3 11<|
 Zm 88 0<|
 Zm 89 8<|
 Zi 90 1 88 89<|
 Zl 91 1 90<|
 Zm 92 0<|
 Zm 93 9<|
 Zi 94 1 92 93<|
 Zl 95 1 94<|
 Zq 84 true 180 [.t 78,.t 82,.t 83]<|
 Zo (.bld 85 [.bool false,.nilS,.nilS,.nilS] [(0,3,.t 74),(3,1,.t 84)])<|
 Zq 87 true 62 [.t 86]<|
 Zq 96 true 61 [.c (Zz (-1))]<|
 Zq 97 true 180 [.t 91,.t 95,.t 96]<|
 Zo (.bld 98 [.bool false,.nilS,.nilS,.nilS] [(0,3,.t 87),(3,1,.t 97)])<|
 Zo (.bs 99 4 133 [.t 85,.t 98])<|
 Zm 2 99 .nil) .ret) .skip)<| .rg (Zk 100 .add 58 1<|
 Zm 58 100 .nil))<| .rg (Zk 101 .add 50 1<|
 Zm 50 101 .nil))<|Zr (Zo (.mv 2 (.c .nilS)) .nil) .ret⟩
theorem Qalp:Qe Tryz.prog Tryz.f116=some c116.strip:=by kernel_rfl
def c55:SFn:=⟨137,[.cell 4 5 true],Zr (Zo (.alloc 4 5 87 (.agg [.nilS,.nilS,.bool false,.nilS,.nilS])) .nil)<|Zr (Zm 12 0<|
 Zq 13 false 61 [.c (Zz 1)]<|
 Zo (.bld 14 [.nilS,.nilS,.bool false,.nilS,.nilS] [(0,1,.t 12),(2,3,.t 13)])<|
 Zo (.alloc 5 5 87 (.agg [.nilS,.nilS,.bool false,.nilS,.nilS]))<|
 .wk<| .wk<|Zs 5 5 14 .nil)<| .seq (Zr (Zm 15 1<|
 .wk<|Zc 16 0 .nil)<| .block 0<| .loop<|Zr (Zb 17 .lss 16 15 .nil)<| .seq (.cond (.t 17) .skip (.exit 0))<| .seq (.block 1<|Zr (Zm 18 16<|
 Zm 6 18 .nil)<|Zr (Zf 19 1 5<|
 Zl 20 1 19<|
 Zn 21 20<|
 Zm 7 21 .nil)<|Zr (Zm 22 7<|
 Zm 8 22 .nil)<| .seq (.block 2<| .loop<| .seq (Zr (Zm 23 8<|
 Zm 24 0<|
 Zn 25 24<|
 Zb 26 .lss 23 25<|
 Zm 27 26<|
 Zg 27 true (.mv 28 (.t 0))<|
 Zg 27 true (.mv 29 (.t 8))<|
 Zg 27 true (.idx 30 1 (.t 28) (.t 29))<|
 Zg 27 true (.ld 31 1 false (.t 30))<|
 Zg 27 true (.mv 32 (.t 6))<|
 Zg 27 true (.idx 33 3 (.t 31) (.t 32))<|
 Zg 27 true (.ld 34 3 true (.t 33))<|
 Zg 27 true (.call (some 35) false (.c (.fn 38 [] [])) [.t 34])<|
 Zg 27 true (.bin 36 .eql false (.t 35) (.c (Zz 0)))<|
 Zo (.pick 37 (.t 27) (.t 36) (.c (.bool false))) .nil)<| .cond (.t 37) .skip (.exit 2))<| .block 3<| .rg (Zm 38 8<|
 Zk 39 .add 38 1<|
 Zm 8 39 .nil))<| .seq (Zr (Zm 40 8<|
 Zm 41 0<|
 Zn 42 41<|
 Zb 43 .eql 40 42 .nil)<| .cond (.t 43) (.exit 1) .skip)<| .seq (Zr (Zm 44 8<|
 Zm 45 7<|
 Zb 46 .neq 44 45 .nil)<| .cond (.t 46) (Zr (Zm 47 0<|
 Zm 48 8<|
 Zm 49 0<|
 Zm 50 7<|
 Zm 51 0<|
 Zm 52 7<|
 Zi 53 1 51 52<|
 Zl 54 1 53<|
 Zm 55 0<|
 Zm 56 8<|
 Zi 57 1 55 56<|
 Zl 58 1 57<|
 Zi 59 1 47 48<|
 Zs 1 59 54<|
 Zi 60 1 49 50<|
 Zs 1 60 58 .nil)<| .rg (Zf 61 2 5<|
 Zh 62 3 61<|
 Zq 63 false 62 [.t 62]<|
 Zf 64 2 5<|
 Zs 3 64 63 .nil)) .skip)<|Zr (Zm 65 0<|
 Zm 66 7<|
 Zi 67 1 65 66<|
 Zl 68 1 67<|
 Zm 69 6<|
 Zi 70 3 68 69<|
 Zh 71 3 70<|
 Zo (.alloc 9 3 51 (.agg [.bool false,.nilS,.nilS]))<|
 Zs 3 9 71 .nil)<|Zr (Zf 72 2 5<|
 Zh 73 3 72<|
 Zh 74 3 9<|
 Zq 75 false 105 [.t 73,.t 74]<|
 Zf 76 2 5<|
 Zs 3 76 75 .nil)<| .seq (Zr (Zm 77 0<|
 Zm 78 7<|
 Zi 79 1 77 78<|
 Zl 80 1 79<|
 Zn 81 80<|
 Zc 82 0 .nil)<| .block 4<| .loop<|Zr (Zb 83 .lss 82 81 .nil)<| .seq (.cond (.t 83) .skip (.exit 4))<| .seq (.block 5<|Zr (Zm 84 82<|
 Zm 10 84 .nil)<| .rg (Zm 86 0<|
 Zm 87 7<|
 Zi 88 1 86 87<|
 Zl 89 1 88<|
 Zm 90 10<|
 Zm 91 0<|
 Zm 92 7<|
 Zi 93 1 91 92<|
 Zl 94 1 93<|
 Zm 95 10<|
 Zi 96 3 94 95<|
 Zh 97 3 96<|
 Zh 98 3 9<|
 Zq 99 true 123 [.t 97,.t 98]<|
 Zm 85 99<|
 Zo (.ext 100 (.t 85) 0)<|
 Zo (.ext 101 (.t 85) 1)<|
 Zi 102 3 89 90<|
 Zs 3 102 100 .nil))<| .rg (Zk 103 .add 82 1<|
 Zm 82 103 .nil))<| .seq (Zr (Zm 104 0<|
 Zn 105 104<|
 Zc 106 0 .nil)<| .block 6<| .loop<|Zr (Zb 107 .lss 106 105 .nil)<| .seq (.cond (.t 107) .skip (.exit 6))<| .seq (.block 7<|Zr (Zm 108 106<|
 Zm 11 108 .nil)<|Zr (Zm 109 11<|
 Zm 110 7<|
 Zb 111 .neq 109 110 .nil)<| .cond (.t 111) (.rg (Zm 112 0<|
 Zm 113 11<|
 Zi 114 1 112 113<|
 Zl 115 1 114<|
 Zm 116 0<|
 Zm 117 7<|
 Zi 118 1 116 117<|
 Zl 119 1 118<|
 Zm 120 0<|
 Zm 121 11<|
 Zi 122 1 120 121<|
 Zl 123 1 122<|
 Zm 124 6<|
 Zi 125 3 123 124<|
 Zh 126 3 125<|
 Zq 127 false 117 [.t 115,.t 119,.t 126] .nil)) .skip)<| .rg (Zk 128 .add 106 1<|
 Zm 106 128 .nil))<| .rg (Zf 129 1 5<|
 Zl 130 1 129<|
 Zm 131 6<|
 Zo (.bs 132 1 3 [.t 131])<|
 Zo (.app 133 1 8 3 (.t 130) (.t 132))<|
 Zf 134 1 5<|
 Zs 1 134 133 .nil))<| .rg (Zk 135 .add 16 1<|
 Zm 16 135 .nil))<|Zr (Zh 136 5 5<|
 .wk<|Zs 5 4 136 .nil) .ret⟩
theorem Qap2:Qe Tryz.prog Tryz.f55=some c55.strip:=by kernel_rfl
def c34:SFn:=⟨14,[.t 2],Zr (Zo (.box 1 3 51 (.t 0))<|
 Zo (.mv 2 (.c (.bool false))) .nil)<|Zr (Zf 3 0 1<|
 Zf 4 1 3<|
 Zl 5 1 4<|
 Zn 6 5<|
 Zk 7 .leq 6 2<|
 Zm 8 7<|
 Zg 8 true (.fld 9 2 (.t 1))<|
 Zg 8 true (.ld 10 1 false (.t 9))<|
 Zg 8 true (.len 11 (.t 10))<|
 Zg 8 true (.bin 12 .leq false (.t 11) (.c (Zz 2)))<|
 Zo (.pick 13 (.t 8) (.t 12) (.c (.bool false)))<|
 Zm 2 13 .nil) .ret⟩
theorem Qap3:Qe Tryz.prog Tryz.f34=some c34:=by kernel_rfl
def c18:SFn:=⟨29,[.t 2],Zr (Zo (.mv 2 (.c (.bool false))) .nil)<| .seq (Zr (Zm 4 0<|
 Zn 5 4<|
 Zk 6 .gtr 5 20 .nil)<| .cond (.t 6) (Zr (Zo (.mv 2 (.c (.bool false))) .nil) .ret) .skip)<| .seq (Zr (Zc 3 0 .nil)<| .block 0<| .loop<| .seq (Zr (Zm 7 3<|
 Zm 8 0<|
 Zn 9 8<|
 Zb 10 .lss 7 9 .nil)<| .cond (.t 10) .skip (.exit 0))<| .seq (.block 1<|Zr (Zm 13 0<|
 Zm 14 3<|
 Zi 15 4 13 14<|
 Zf 16 3 15<|
 Zl 17 1 16<|
 Zn 18 17<|
 Zk 19 .gtr 18 70<|
 Zm 20 19<|
 Zg 20 false (.mv 21 (.t 0))<|
 Zg 20 false (.mv 22 (.t 3))<|
 Zg 20 false (.idx 23 4 (.t 21) (.t 22))<|
 Zg 20 false (.fld 24 0 (.t 23))<|
 Zg 20 false (.ld 25 3 true (.t 24))<|
 Zg 20 false (.call (some 26) false (.c (.fn 34 [] [])) [.t 25])<|
 Zg 20 false (.un 27 .not (.t 26))<|
 Zo (.pick 28 (.t 20) (.c (.bool true)) (.t 27)) .nil)<| .cond (.t 28) (Zr (Zo (.mv 2 (.c (.bool false))) .nil) .ret) .skip)<| .rg (Zm 11 3<|
 Zk 12 .add 11 1<|
 Zm 3 12 .nil))<|Zr (Zo (.mv 2 (.c (.bool true))) .nil) .ret⟩
theorem Qap4:Qe Tryz.prog Tryz.f18=some c18:=by kernel_rfl
def c28:SFn:=⟨42,[.t 4],Zr (Zo (.box 3 3 24 (.t 1))<|
 Zo (.mv 4 (.c (.bool false))) .nil)<| .seq (Zr (Zm 7 0<|
 Zn 8 7<|
 Zk 9 .gtr 8 6<|
 Zm 10 9<|
 Zg 10 false (.fld 11 2 (.t 3))<|
 Zg 10 false (.ld 12 1 false (.t 11))<|
 Zg 10 false (.len 13 (.t 12))<|
 Zg 10 false (.bin 14 .gtr false (.t 13) (.c (Zz 25)))<|
 Zo (.pick 15 (.t 10) (.c (.bool true)) (.t 14)) .nil)<| .cond (.t 15) (Zr (Zo (.mv 4 (.c (.bool false))) .nil) .ret) .skip)<| .seq (Zr (Zc 5 0 .nil)<| .block 0<| .loop<| .seq (Zr (Zm 16 5<|
 Zm 17 0<|
 Zn 18 17<|
 Zb 19 .lss 16 18 .nil)<| .cond (.t 19) .skip (.exit 0))<| .seq (.block 1<|Zr (Zm 22 0<|
 Zm 23 5<|
 Zi 24 1 22 23<|
 Zl 25 1 24<|
 Zn 26 25<|
 Zk 27 .gtr 26 70 .nil)<| .cond (.t 27) (Zr (Zo (.mv 4 (.c (.bool false))) .nil) .ret) .skip)<| .rg (Zm 20 5<|
 Zk 21 .add 20 1<|
 Zm 5 21 .nil))<| .seq (Zr (Zc 6 0 .nil)<| .block 2<| .loop<| .seq (Zr (Zm 28 6<|
 Zf 29 2 3<|
 Zl 30 1 29<|
 Zn 31 30<|
 Zb 32 .lss 28 31 .nil)<| .cond (.t 32) .skip (.exit 2))<| .seq (.block 3<|Zr (Zf 35 2 3<|
 Zl 36 1 35<|
 Zm 37 6<|
 Zi 38 3 36 37<|
 Zh 39 3 38<|
 Zq 40 false 34 [.t 39]<|
 Zu 41 40 .nil)<| .cond (.t 41) (Zr (Zo (.mv 4 (.c (.bool false))) .nil) .ret) .skip)<| .rg (Zm 33 6<|
 Zk 34 .add 33 1<|
 Zm 6 34 .nil))<|Zr (Zo (.mv 4 (.c (.bool true))) .nil) .ret⟩
theorem Qap5:Qe Tryz.prog Tryz.f28=some c28:=by kernel_rfl
def c90:SFn:=⟨49,[.t 4],Zr (Zo (.box 3 3 24 (.t 1))<|
 Zc 4 0 .nil)<| .seq (Zr (Zh 9 3 3<|
 Zq 10 false 52 [.t 9]<|
 Zu 11 10 .nil)<| .cond (.t 11) (Zr (Zc 4 1 .nil) .ret) .skip)<| .seq (Zr (Zm 12 0<|
 Zn 13 12<|
 Zc 14 0 .nil)<| .block 0<| .loop<|Zr (Zb 15 .lss 14 13 .nil)<| .seq (.cond (.t 15) .skip (.exit 0))<| .seq (.block 1<|Zr (Zi 16 1 12 14<|
 Zl 17 1 16<|
 Zm 6 17 .nil)<|Zr (Zm 18 6<|
 Zq 19 false 135 [.t 18]<|
 Zu 20 19 .nil)<| .cond (.t 20) (Zr (Zc 4 1 .nil) .ret) .skip)<| .rg (Zk 21 .add 14 1<|
 Zm 14 21 .nil))<|Zr (Zh 23 3 3<|
 Zq 24 false 153 [.t 23]<|
 Zm 22 24<|
 Zo (.ext 25 (.t 22) 0)<|
 Zo (.ext 26 (.t 22) 1)<|
 Zo (.alloc 7 3 24 (.agg [Zz 0,Zz 0,.nilS]))<|
 Zs 3 7 25<|
 Zm 8 26 .nil)<| .seq (Zr (Zf 27 0 3<|
 Zl 28 1 27<|
 Zm 29 0<|
 Zn 30 29<|
 Zb 31 .neq 28 30<|
 Zm 32 31<|
 Zg 32 false (.fld 33 1 (.t 3))<|
 Zg 32 false (.ld 34 1 false (.t 33))<|
 Zg 32 false (.mv 35 (.t 0))<|
 Zg 32 false (.len 36 (.t 35))<|
 Zg 32 false (.bin 37 .neq false (.t 34) (.t 36))<|
 Zo (.pick 38 (.t 32) (.c (.bool true)) (.t 37))<|
 Zm 39 38<|
 Zg 39 false (.mv 40 (.t 8))<|
 Zg 39 false (.bin 41 .neq false (.t 40) (.c (Zz 0)))<|
 Zo (.pick 42 (.t 39) (.c (.bool true)) (.t 41))<|
 Zm 43 42<|
 Zg 43 false (.ld 44 3 true (.t 3))<|
 Zg 43 false (.ld 45 3 true (.t 7))<|
 Zg 43 false (.call (some 46) false (.c (.fn 154 [] [])) [.t 44,.t 45])<|
 Zg 43 false (.un 47 .not (.t 46))<|
 Zo (.pick 48 (.t 43) (.c (.bool true)) (.t 47)) .nil)<| .cond (.t 48) (Zr (Zc 4 16 .nil) .ret) .skip)<|Zr (Zc 4 0 .nil) .ret⟩
theorem Qap6:Qe Tryz.prog Tryz.f90=some c90:=by kernel_rfl
def c95:SFn:=⟨25,[.t 4],Zr (Zo (.mv 4 (.c (.bool false))) .nil)<| .seq (Zr (Zm 6 0<|
 Zn 7 6<|
 Zm 8 1<|
 Zn 9 8<|
 Zo (.mn 10 (.t 7) (.t 9))<|
 Zc 11 0 .nil)<| .block 0<| .loop<|Zr (Zb 12 .lss 11 10 .nil)<| .seq (.cond (.t 12) .skip (.exit 0))<| .seq (.block 1<|Zr (Zm 13 11<|
 Zm 5 13 .nil)<|Zr (Zm 14 0<|
 Zm 15 5<|
 Zi 16 1 14 15<|
 Zl 17 1 16<|
 Zm 18 1<|
 Zm 19 5<|
 Zi 20 1 18 19<|
 Zl 21 1 20<|
 Zb 22 .add 17 21<|
 Zk 23 .gtr 22 1048576 .nil)<| .cond (.t 23) (Zr (Zo (.mv 4 (.c (.bool false))) .nil) .ret) .skip)<| .rg (Zk 24 .add 11 1<|
 Zm 11 24 .nil))<|Zr (Zo (.mv 4 (.c (.bool true))) .nil) .ret⟩
theorem Qap7:Qe Tryz.prog Tryz.f95=some c95:=by kernel_rfl
def c31:SFn:=⟨71,[.t 6,.t 7],Zr (Zo (.box 5 3 24 (.t 2))<|
 Zo (.mv 6 (.c (.bool false)))<|
 Zc 7 0 .nil)<| .seq (Zr (Zm 12 1<|
 Zh 13 3 5<|
 Zq 14 false 90 [.t 12,.t 13]<|
 Zm 8 14 .nil)<|Zr (Zm 15 8<|
 Zk 16 .neq 15 0 .nil)<| .cond (.t 16) (Zr (Zm 17 8<|
 Zo (.mv 6 (.c (.bool false)))<|
 Zm 7 17 .nil) .ret) .skip)<|Zr (Zo (.mv 9 (.c .nilS)) .nil)<| .seq (Zr (Zm 18 1<|
 Zn 19 18<|
 Zc 20 0 .nil)<| .block 0<| .loop<|Zr (Zb 21 .lss 20 19 .nil)<| .seq (.cond (.t 21) .skip (.exit 0))<| .seq (.block 1<|Zr (Zm 22 20<|
 Zm 10 22 .nil)<|Zr (Zm 23 1<|
 Zn 24 23<|
 Zc 25 0 .nil)<| .block 2<| .loop<|Zr (Zb 26 .lss 25 24 .nil)<| .seq (.cond (.t 26) .skip (.exit 2))<| .seq (.block 3<|Zr (Zm 27 25<|
 Zm 11 27 .nil)<| .seq (Zr (Zm 28 1<|
 Zm 29 10<|
 Zi 30 1 28 29<|
 Zl 31 1 30<|
 Zm 32 1<|
 Zm 33 11<|
 Zi 34 1 32 33<|
 Zl 35 1 34<|
 Zq 36 false 95 [.t 31,.t 35]<|
 Zu 37 36 .nil)<| .cond (.t 37) (Zr (Zo (.mv 6 (.c (.bool false)))<|
 Zc 7 4 .nil) .ret) .skip)<| .rg (Zm 38 9<|
 Zf 39 2 5<|
 Zl 40 1 39<|
 Zm 41 10<|
 Zf 42 1 5<|
 Zl 43 1 42<|
 Zb 44 .mul 41 43<|
 Zm 45 11<|
 Zb 46 .add 44 45<|
 Zi 47 3 40 46<|
 Zh 48 3 47<|
 Zm 49 1<|
 Zm 50 10<|
 Zi 51 1 49 50<|
 Zl 52 1 51<|
 Zm 53 1<|
 Zm 54 11<|
 Zi 55 1 53 54<|
 Zl 56 1 55<|
 Zq 57 true 96 [.t 52,.t 56]<|
 Zo (.bld 58 [.bool false,.nilS,.nilS,.nilS] [(0,3,.t 48),(3,1,.t 57)])<|
 Zo (.bs 59 4 95 [.t 58])<|
 Zo (.app 60 4 80 95 (.t 38) (.t 59))<|
 Zm 9 60 .nil))<| .rg (Zk 61 .add 25 1<|
 Zm 25 61 .nil))<| .rg (Zk 62 .add 20 1<|
 Zm 20 62 .nil))<|Zr (Zm 63 0<|
 Zq 64 false 72 [.t 63]<|
 Zm 65 64<|
 Zg 65 true (.mv 66 (.t 0))<|
 Zg 65 true (.mv 67 (.t 9))<|
 Zg 65 true (.call (some 68) false (.c (.fn 91 [] [])) [.t 67])<|
 Zg 65 true (.call (some 69) false (.c (.fn 97 [] [])) [.t 66,.t 68])<|
 Zo (.pick 70 (.t 65) (.t 69) (.c (.bool false)))<|
 Zm 6 70<|
 Zc 7 0 .nil) .ret⟩
theorem Qaad:Qe Tryz.prog Tryz.f31=some c31:=by kernel_rfl
def c29:SFn:=⟨73,[.t 4,.t 5],Zr (Zo (.box 3 3 24 (.t 1))<|
 Zo (.mv 4 (.c .nilS))<|
 Zc 5 0 .nil)<| .seq (Zr (Zm 16 0<|
 Zh 17 3 3<|
 Zq 18 false 90 [.t 16,.t 17]<|
 Zm 6 18 .nil)<|Zr (Zm 19 6<|
 Zk 20 .neq 19 0 .nil)<| .cond (.t 20) (Zr (Zm 21 6<|
 Zo (.mv 4 (.c .nilS))<|
 Zm 5 21 .nil) .ret) .skip)<|Zr (Zh 23 3 3<|
 Zq 24 false 48 [.t 23]<|
 Zm 22 24<|
 Zo (.ext 25 (.t 22) 0)<|
 Zo (.ext 26 (.t 22) 1)<|
 Zo (.ext 27 (.t 22) 2)<|
 Zo (.alloc 8 3 24 (.agg [Zz 0,Zz 0,.nilS]))<|
 Zm 7 25<|
 Zs 3 8 26<|
 Zm 9 27 .nil)<| .seq (Zr (Zm 28 9<|
 Zk 29 .neq 28 0 .nil)<| .cond (.t 29) (Zr (Zm 30 9<|
 Zo (.mv 4 (.c .nilS))<|
 Zm 5 30 .nil) .ret) .skip)<|Zr (Zo (.mv 10 (.c .nilS)) .nil)<| .seq (Zr (Zm 31 7<|
 Zn 32 31<|
 Zc 33 0 .nil)<| .block 0<| .loop<|Zr (Zb 34 .lss 33 32 .nil)<| .seq (.cond (.t 34) .skip (.exit 0))<| .seq (.block 1<|Zr (Zm 35 33<|
 Zi 36 3 31 33<|
 Zh 37 3 36<|
 Zo (.alloc 12 3 51 (.agg [.bool false,.nilS,.nilS]))<|
 Zm 11 35<|
 Zs 3 12 37 .nil)<| .seq (Zr (Zh 38 3 12<|
 Zq 39 false 38 [.t 38]<|
 Zk 40 .lss 39 0 .nil)<| .cond (.t 40) (Zr (Zo (.mv 4 (.c .nilS))<|
 Zc 5 17 .nil) .ret) .skip)<|Zr (Zo (.mv 13 (.c .nilS)) .nil)<| .seq (Zr (Zm 41 0<|
 Zn 42 41<|
 Zc 43 0 .nil)<| .block 2<| .loop<|Zr (Zb 44 .lss 43 42 .nil)<| .seq (.cond (.t 44) .skip (.exit 2))<| .seq (.block 3<|Zr (Zm 45 43<|
 Zi 46 1 41 43<|
 Zl 47 1 46<|
 Zm 14 45<|
 Zm 15 47 .nil)<| .rg (Zm 48 13<|
 Zf 49 2 8<|
 Zl 50 1 49<|
 Zm 51 11<|
 Zf 52 1 8<|
 Zl 53 1 52<|
 Zb 54 .mul 51 53<|
 Zm 55 14<|
 Zb 56 .add 54 55<|
 Zi 57 3 50 56<|
 Zh 58 3 57<|
 Zm 59 15<|
 Zo (.bld 60 [.bool false,.nilS,.nilS,.nilS] [(0,3,.t 58),(3,1,.t 59)])<|
 Zo (.bs 61 4 95 [.t 60])<|
 Zo (.app 62 4 80 95 (.t 48) (.t 61))<|
 Zm 13 62 .nil))<| .rg (Zk 63 .add 43 1<|
 Zm 43 63 .nil))<| .rg (Zm 64 10<|
 Zh 65 3 12<|
 Zm 66 13<|
 Zq 67 true 91 [.t 66]<|
 Zo (.bld 68 [.bool false,.nilS,.nilS,.nilS] [(0,3,.t 65),(3,1,.t 67)])<|
 Zo (.bs 69 4 65 [.t 68])<|
 Zo (.app 70 4 80 65 (.t 64) (.t 69))<|
 Zm 10 70 .nil))<| .rg (Zk 71 .add 33 1<|
 Zm 33 71 .nil))<|Zr (Zm 72 10<|
 Zm 4 72<|
 Zc 5 0 .nil) .ret⟩
theorem Qap8:Qe Tryz.prog Tryz.f29=some c29:=by kernel_rfl
def c92:SFn:=⟨39,[.t 4],Zr (Zo (.box 3 3 24 (.t 1))<|
 Zc 4 0 .nil)<| .seq (Zr (Zh 8 3 3<|
 Zq 9 false 57 [.t 8]<|
 Zu 10 9 .nil)<| .cond (.t 10) (Zr (Zc 4 1 .nil) .ret) .skip)<| .seq (Zr (Zc 5 0 .nil)<| .block 0<| .loop<| .seq (Zr (Zm 11 5<|
 Zm 12 0<|
 Zn 13 12<|
 Zb 14 .lss 11 13 .nil)<| .cond (.t 14) .skip (.exit 0))<| .seq (.block 1<|Zr (Zm 17 0<|
 Zm 18 5<|
 Zi 19 1 17 18<|
 Zl 20 1 19<|
 Zq 21 false 64 [.t 20]<|
 Zu 22 21 .nil)<| .cond (.t 22) (Zr (Zc 4 1 .nil) .ret) .skip)<| .rg (Zm 15 5<|
 Zk 16 .add 15 1<|
 Zm 5 16 .nil))<|Zr (Zh 24 3 3<|
 Zq 25 false 158 [.t 24]<|
 Zm 23 25<|
 Zo (.ext 26 (.t 23) 0)<|
 Zo (.ext 27 (.t 23) 1)<|
 Zo (.alloc 6 3 24 (.agg [Zz 0,Zz 0,.nilS]))<|
 Zs 3 6 26<|
 Zm 7 27 .nil)<| .seq (Zr (Zf 28 0 3<|
 Zl 29 1 28<|
 Zm 30 0<|
 Zn 31 30<|
 Zb 32 .neq 29 31<|
 Zm 33 32<|
 Zg 33 false (.ld 34 3 true (.t 3))<|
 Zg 33 false (.ld 35 3 true (.t 6))<|
 Zg 33 false (.call (some 36) false (.c (.fn 159 [] [])) [.t 34,.t 35])<|
 Zg 33 false (.un 37 .not (.t 36))<|
 Zo (.pick 38 (.t 33) (.c (.bool true)) (.t 37)) .nil)<| .cond (.t 38) (Zr (Zc 4 16 .nil) .ret) .skip)<|Zr (Zc 4 0 .nil) .ret⟩
theorem Qap9:Qe Tryz.prog Tryz.f92=some c92:=by kernel_rfl
def c32:SFn:=⟨66,[.t 6,.t 7],Zr (Zo (.box 5 3 24 (.t 2))<|
 Zo (.mv 6 (.c (.bool false)))<|
 Zc 7 0 .nil)<| .seq (Zr (Zm 13 1<|
 Zh 14 3 5<|
 Zq 15 false 92 [.t 13,.t 14]<|
 Zm 8 15 .nil)<|Zr (Zm 16 8<|
 Zk 17 .neq 16 0 .nil)<| .cond (.t 17) (Zr (Zm 18 8<|
 Zo (.mv 6 (.c (.bool false)))<|
 Zm 7 18 .nil) .ret) .skip)<|Zr (Zo (.mv 9 (.c .nilS)) .nil)<| .seq (Zr (Zc 10 0 .nil)<| .block 0<| .loop<| .seq (Zr (Zm 19 10<|
 Zf 20 0 5<|
 Zl 21 1 20<|
 Zb 22 .lss 19 21 .nil)<| .cond (.t 22) .skip (.exit 0))<| .seq (.block 1<|Zr (Zc 11 0 .nil)<| .block 2<| .loop<| .seq (Zr (Zm 25 11<|
 Zf 26 1 5<|
 Zl 27 1 26<|
 Zb 28 .lss 25 27 .nil)<| .cond (.t 28) .skip (.exit 2))<| .seq (.block 3<|Zr (Zm 31 1<|
 Zm 32 10<|
 Zi 33 1 31 32<|
 Zl 34 1 33<|
 Zm 35 1<|
 Zm 36 11<|
 Zi 37 1 35 36<|
 Zl 38 1 37<|
 Zq 39 false 98 [.t 34,.t 38]<|
 Zm 12 39 .nil)<| .seq (Zr (Zm 40 12<|
 Zq 41 false 64 [.t 40]<|
 Zu 42 41 .nil)<| .cond (.t 42) (Zr (Zo (.mv 6 (.c (.bool false)))<|
 Zc 7 4 .nil) .ret) .skip)<| .rg (Zm 43 9<|
 Zf 44 2 5<|
 Zl 45 1 44<|
 Zm 46 10<|
 Zf 47 1 5<|
 Zl 48 1 47<|
 Zb 49 .mul 46 48<|
 Zm 50 11<|
 Zb 51 .add 49 50<|
 Zi 52 3 45 51<|
 Zh 53 3 52<|
 Zm 54 12<|
 Zo (.bld 55 [.bool false,.nilS,.nilS,.nilS] [(0,3,.t 53),(3,1,.t 54)])<|
 Zo (.bs 56 4 95 [.t 55])<|
 Zo (.app 57 4 80 95 (.t 43) (.t 56))<|
 Zm 9 57 .nil))<| .rg (Zm 29 11<|
 Zk 30 .add 29 1<|
 Zm 11 30 .nil))<| .rg (Zm 23 10<|
 Zk 24 .add 23 1<|
 Zm 10 24 .nil))<|Zr (Zm 58 0<|
 Zq 59 false 19 [.t 58]<|
 Zm 60 59<|
 Zg 60 true (.mv 61 (.t 9))<|
 Zg 60 true (.call (some 62) false (.c (.fn 94 [] [])) [.t 61])<|
 Zg 60 true (.mv 63 (.t 0))<|
 Zg 60 true (.call (some 64) false (.c (.fn 40 [] [])) [.t 62,.t 63])<|
 Zo (.pick 65 (.t 60) (.t 64) (.c (.bool false)))<|
 Zm 6 65<|
 Zc 7 0 .nil) .ret⟩
theorem Qaae:Qe Tryz.prog Tryz.f32=some c32:=by kernel_rfl
theorem Qaaf{n m:Bool}{a d b c:List Nat}{k:Nat}(hp:Raw k n a d)(hq:Raw k m b c)(hk:k<2^36):Qd Tryz.prog 105 [PV.rr n a d,PV.rr m b c] (· =PV.rat (rv n a d*rv m b c)):=by
 refine Qf Qq Tryz.func105 rfl Qajx (by simp[c105]) fun C hP=> ?_;simp only[c105,Zo,Zg,Zm,Zc,Zf,Zl,Zh,Zs,Zi,Zb,Zk,Zn,Zu,Zq,Zr,Zz]
 simp+decide (disch:=try exact D0) only[go_sem]
 refine Qc8 hP (Qd4 hp.la hp.ld hp.k1 hp.sa hp.sd (by omega)) rfl rfl rfl ?_
 rintro _ ⟨n',a',d',rfl,g1,g2,g3,g4,g5,g6⟩
 simp+decide (disch:=try exact D0) only[go_sem]
 refine Qc8 hP (Qd4 hq.la hq.ld hq.k1 hq.sa hq.sd (by omega)) rfl rfl rfl ?_
 rintro _ ⟨m',b',c',rfl,e1,e2,e3,e4,e5,e6⟩
 simp+decide (disch:=try exact D0) only[go_sem]
 have hza:nl (zv n' a').natAbs<=k:=by rw[Qbu];exact Nat.le_trans (Qaz g1) g3
 have hzb:nl (zv m' b').natAbs<=k:=by rw[Qbu];exact Nat.le_trans (Qaz e1) e3
 have hvd:nl (val d')<=k:=Nat.le_trans (Qaz g2) g4
 have hvc:nl (val c')<=k:=Nat.le_trans (Qaz e2) e4
 have h3:=Qa8 (zv n' a') (zv m' b')
 have h6:=Qgs (val d') (val c')
 refine Qa hP (Qep (n:=n') (m:=m') g1 e1 (by omega) (by omega)) rfl rfl rfl ?_
 simp+decide (disch:=try exact D0) only[go_sem]
 refine Qa hP (Qow g2 e2 (by omega) (by omega)) rfl rfl rfl ?_
 simp+decide (disch:=try exact D0) only[go_sem]
 refine Qa hP (Qk0 (z:=zv n' a'*zv m' b') (Qv _) (by omega) (by show nl _<_;omega)) rfl rfl rfl ?_
 simp+decide (disch:=try exact D0) only[go_sem]
 refine Qba ?_
 simp+decide (disch:=try exact D0) only[go_sem]
 refine Qc ?_ rfl
 rw[Qag,<-g6,<-e6]
 unfold rv
 rw[Rat.mkRat_mul_mkRat]
theorem Qk3{n:Bool}{a d:List Nat}{k:Nat}(hp:Raw k n a d)(hk:k<2^36):Qd Tryz.prog 38 [PV.rr n a d] (· = .int .i64 (Qee (rv n a d))):=by
 refine Qf Qq Tryz.func38 rfl Qaou (by simp[c38]) fun C hP=> ?_;simp only[c38,Zo,Zg,Zm,Zc,Zf,Zl,Zh,Zs,Zi,Zb,Zk,Zn,Zu,Zq,Zr,Zz]
 simp+decide (disch:=try exact D0) only[go_sem]
 refine Qc8 hP (Qd4 hp.la hp.ld hp.k1 hp.sa hp.sd (by omega)) rfl rfl rfl ?_
 rintro _ ⟨n',a',d',rfl,g1,g2,g3,g4,g5,g6⟩
 simp+decide (disch:=try exact D0) only[go_sem]
 refine Qa hP (Qjt g1 (by omega)) rfl rfl rfl ?_
 simp+decide (disch:=try exact D0) only[go_sem]
 exact Qc (by rw[<-g6];unfold rv;rw[Q87 g5]) rfl
theorem Qxx{n m:Bool}{a d b c:List Nat}{k:Nat}(hp:Raw k n a d)(hq:Raw k m b c)(hk:k<2^36):Qd Tryz.prog 204 [PV.rr n a d,PV.rr m b c] (· = .int .i64 (Qjh (rv n a d) (rv m b c))):=by
 refine Qf Qq Tryz.func204 rfl Qajs (by simp[c204]) fun C hP=> ?_;simp only[c204,Zo,Zg,Zm,Zc,Zf,Zl,Zh,Zs,Zi,Zb,Zk,Zn,Zu,Zq,Zr,Zz]
 simp+decide (disch:=try exact D0) only[go_sem]
 refine Qa hP (Qk3 hp hk) rfl rfl rfl ?_
 simp+decide (disch:=try exact D0) only[go_sem]
 refine Qa hP (Qk3 hq hk) rfl rfl rfl ?_
 simp+decide (disch:=try exact D0) only[go_sem]
 refine Qb (fun h1=> ?_) (fun h1=> ?_)
 ·simp+decide (disch:=try exact D0) only[go_sem]
  refine Qb (fun h2=> ?_) (fun h2=> ?_)
  ·simp+decide (disch:=try exact D0) only[go_sem]
   exact Qc (by rw[Qz4 h2]) rfl
  ·simp+decide (disch:=try exact D0) only[go_sem]
   exact Qc (by rw[Qacw (by omega)]) rfl
 simp+decide (disch:=try exact D0) only[go_sem]
 refine Qc8 hP (Qd4 hp.la hp.ld hp.k1 hp.sa hp.sd (by omega)) rfl rfl rfl ?_
 rintro _ ⟨n',a',d',rfl,g1,g2,g3,g4,g5,g6⟩
 simp+decide (disch:=try exact D0) only[go_sem]
 refine Qc8 hP (Qd4 hq.la hq.ld hq.k1 hq.sa hq.sd (by omega)) rfl rfl rfl ?_
 rintro _ ⟨m',b',c',rfl,e1,e2,e3,e4,e5,e6⟩
 have hza:nl (zv n' a').natAbs<=k:=by rw[Qbu];exact Nat.le_trans (Qaz g1) g3
 have hzb:nl (zv m' b').natAbs<=k:=by rw[Qbu];exact Nat.le_trans (Qaz e1) e3
 have hvd:nl (val d')<=k:=Nat.le_trans (Qaz g2) g4
 have hvc:nl (val c')<=k:=Nat.le_trans (Qaz e2) e4
 have h3:=Qa8 (zv n' a') (val c')
 have h4:=Qa8 (zv m' b') (val d')
 rw[Int.natAbs_natCast]at h3 h4
 simp+decide (disch:=try exact D0) only[go_sem]
 refine Qa hP (Qfc _) rfl rfl rfl ?_
 simp+decide (disch:=try exact D0) only[go_sem]
 refine Qa hP (Qep (n:=n') (m:=false) g1 e2 (by omega) (by omega)) rfl rfl rfl ?_
 simp+decide (disch:=try exact D0) only[go_sem]
 refine Qa hP (Qfc _) rfl rfl rfl ?_
 simp+decide (disch:=try exact D0) only[go_sem]
 refine Qa hP (Qep (n:=m') (m:=false) e1 g2 (by omega) (by omega)) rfl rfl rfl ?_
 rw[Qgw,Qgw]
 simp+decide (disch:=try exact D0) only[go_sem]
 refine Qa hP (Qaee (x:=zv n' a'*(val c':Int)) (y:=zv m' b'*(val d':Int)) (by omega) (by omega)) rfl rfl rfl ?_
 simp+decide (disch:=try exact D0) only[go_sem]
 exact Qc (by rw[<-g6,<-e6];unfold rv;rw[Q37 g5 e5]) rfl
theorem Qse{n m:Bool}{a d b c:List Nat}{k:Nat}(hp:Raw k n a d)(hq:Raw k m b c)(hk:k<2^36):Qd Tryz.prog 179 [PV.rr n a d,PV.rr m b c] (· = .bool (decide (rv n a d=rv m b c))):=by
 refine Qf Qq Tryz.func179 rfl Qajt (by simp[c179]) fun C hP=> ?_;simp only[c179,Zo,Zg,Zm,Zc,Zf,Zl,Zh,Zs,Zi,Zb,Zk,Zn,Zu,Zq,Zr,Zz]
 simp+decide (disch:=try exact D0) only[go_sem]
 refine Qa hP (Qxx hp hq hk) rfl rfl rfl ?_
 simp+decide (disch:=try exact D0) only[go_sem]
 exact Qc (congrArg PV.bool (decide_eq_decide.2 Qml)) rfl
theorem Qaag{x:Int}(h1: -9223372036854775808<=x)(h2:x<=9223372036854775807):Qd Tryz.prog 127 [.int .i64 x] (· =PV.zz x):=by
 refine Qf Qq Tryz.func127 rfl Qajg (by simp[c127]) fun C hP=> ?_;simp only[c127,Zo,Zg,Zm,Zc,Zf,Zl,Zh,Zs,Zi,Zb,Zk,Zn,Zu,Zq,Zr,Zz]
 simp+decide (disch:=try exact D0) only[go_sem]
 refine Qb (fun hc=> ?_) (fun hc=> ?_)
 ·obtain⟨y,hy⟩:∃y:Nat,x= -((y:Int)+1):=⟨(-(x+1)).toNat,by omega⟩
  have e1:IntKind.i64.wrap (x+1)= -(y:Int):=by rw[Qh5 (by omega) (by omega)];omega
  have e2:IntKind.i64.wrap (0- -(y:Int))=(y:Int):=by rw[Qh5 (by omega) (by omega)];omega
  have e3:IntKind.u64.wrap (y:Int)=(y:Int):=Qf1 (by omega) (by omega)
  have e4:IntKind.u64.wrap ((y+1:Nat):Int)=((y+1:Nat):Int):=Qf1 (by omega) (by omega)
  simp+decide (disch:=try exact D4 e1 e2 e3 e4) only[go_sem,e1,e2,e3,e4]
  refine Qa hP (Qrl (by omega)) rfl rfl rfl ?_
  simp+decide (disch:=try exact D0) only[go_sem]
  refine Qa hP (Qgd true (y+1)) rfl rfl rfl ?_
  simp+decide (disch:=try exact D0) only[go_sem]
  refine Qba ?_
  simp+decide (disch:=try exact D0) only[go_sem]
  exact Qc (congrArg PV.zz (by simp;omega)) rfl
 ·obtain⟨y,rfl⟩:∃y:Nat,x=y:=⟨x.toNat,by omega⟩
  simp+decide (disch:=try exact D0) only[go_sem]
  refine Qa hP (Qrl (by omega)) rfl rfl rfl ?_
  simp+decide (disch:=try exact D0) only[go_sem]
  refine Qa hP (Qgd false y) rfl rfl rfl ?_
  simp+decide (disch:=try exact D0) only[go_sem]
  refine Qba ?_
  simp+decide (disch:=try exact D0) only[go_sem]
  exact Qc (congrArg PV.zz (by simp)) rfl
theorem Qqt{x:Int}(h1: -9223372036854775808<=x)(h2:x<=9223372036854775807):Qd Tryz.prog 61 [.int .i64 x] (· =PV.rat (x:Rat)):=by
 refine Qf Qq Tryz.func61 rfl Qaot (by simp[c61]) fun C hP=> ?_;simp only[c61,Zo,Zg,Zm,Zc,Zf,Zl,Zh,Zs,Zi,Zb,Zk,Zn,Zu,Zq,Zr,Zz]
 simp+decide (disch:=try exact D0) only[go_sem]
 refine Qa hP (Qaag h1 h2) rfl rfl rfl ?_
 simp+decide (disch:=try exact D0) only[go_sem]
 refine Qa hP Qmo rfl rfl rfl ?_
 simp+decide (disch:=try exact D0) only[go_sem]
 refine Qba ?_
 simp+decide (disch:=try exact D0) only[go_sem]
 exact Qc (by rw[PV.rat,Rat.num_intCast,Rat.den_intCast,PV.num,PV.num,Qha];rfl) rfl
theorem Q05{n:Bool}{a:List Nat}(ha:Qu a)(hla:a.length<2^42):Qd Tryz.prog 185 [PV.zi n a] (· = .bool (Qhc n a)):=by
 refine Qf Qq Tryz.func185 rfl Qaje (by simp[c185]) fun C hP=> ?_;simp only[c185,Zo,Zg,Zm,Zc,Zf,Zl,Zh,Zs,Zi,Zb,Zk,Zn,Zu,Zq,Zr,Zz]
 simp+decide (disch:=try exact D0) only[go_sem]
 refine Qaw (fun h0=> ?_) (fun h0=> ?_)
 ·have:a=[]:=List.length_eq_zero_iff.1 (by omega)
  subst this
  simp+decide (disch:=try exact D0) only[go_sem]
  cases n
  ·simp+decide (disch:=try exact D0) only[go_sem]
   refine Qc (congrArg PV.bool ?_) rfl
   simp[Qhc]
  ·simp+decide (disch:=try exact D0) only[go_sem]
   refine Qc (congrArg PV.bool ?_) rfl
   simp[Qhc]
 ·obtain⟨k,hk⟩:∃k,a.length=k+1:=⟨a.length-1,by omega⟩
  have hne:a≠[]:=fun h=>by rw[h]at hk;simp at hk
  have hl:=Qr2 hk
  have e:((k+1:Nat):Int)-1=k:=by omega
  generalize hx:a[k]'(by omega)=x at *
  simp+decide (disch:=try exact D3 hk e hx) only[go_sem,hk,e,hx]
  refine Qaw (fun h=> ?_) (fun h=>absurd (by omega) h)
  simp+decide (disch:=try exact D3 hk e hx) only[go_sem,hk,e,hx]
  refine Qc (congrArg PV.bool ?_) rfl
  unfold Qhc
  rw[if_neg hne,hl]
  exact decide_eq_decide.2 ⟨fun h h'=>h (by injection h' with h';rw[h'];rfl),fun h h'=>h (by rw[show x=0 by omega])⟩
theorem Qsf{n:Bool}{a d:List Nat}{k:Nat}(hp:Raw k n a d)(hk:k<2^36):Qd Tryz.prog 122 [PV.rr n a d] (· = .bool (Qf3 n a d)):=by
 obtain⟨ha,hd,sa,sd,k1⟩:=hp
 refine Qf Qq Tryz.func122 rfl Qajr (by simp[c122]) fun C hP=> ?_;simp only[c122,Zo,Zg,Zm,Zc,Zf,Zl,Zh,Zs,Zi,Zb,Zk,Zn,Zu,Zq,Zr,Zz]
 simp+decide (disch:=try exact D0) only[go_sem]
 refine Qa hP (Q05 ha (by omega)) rfl rfl rfl ?_
 unfold Qf3
 simp+decide (disch:=try exact D0) only[go_sem]
 cases hio:Qhc n a
 ·simp+decide (disch:=first|omega|rfl|(simp+decide only[go_sem,Bool.not_false]<;>rfl)|fail) only[go_sem,Bool.not_false]
  exact Qc (by simp) rfl
 rw[Bool.true_and]
 simp+decide (disch:=first|omega|rfl|(simp+decide only[go_sem,Bool.not_true]<;>rfl)|fail) only[go_sem,Bool.not_true]
 refine Qal (fun h0=> ?_) (fun h0=> ?_)
 ·have:d=[]:=List.length_eq_zero_iff.1 (by omega)
  subst this
  simp+decide (disch:=try exact D0) only[go_sem]
  exact Qc (by simp) rfl
 obtain⟨k',hk'⟩:∃k,d.length=k+1:=⟨d.length-1,by omega⟩
 have hne:d≠[]:=fun h=>by rw[h]at hk';simp at hk'
 have hl:=Qr2 hk'
 have e:((k'+1:Nat):Int)-1=k':=by omega
 generalize hx:d[k']'(by omega)=x at *
 simp+decide (disch:=try exact D3 hk' e hx) only[go_sem,hk',e,hx]
 refine Qb (fun h1=> ?_) (fun h1=> ?_)
 ·simp+decide (disch:=try exact D0) only[go_sem]
  refine Qc (congrArg PV.bool ?_) rfl
  rw[hl,show x=0 by omega];simp
 have hx0:x≠0:=by omega
 simp+decide (disch:=try exact D0) only[go_sem]
 refine Qa hP (Qoy (by omega)) rfl rfl rfl ?_
 simp+decide (disch:=try exact D0) only[go_sem]
 refine Qal (fun h2=> ?_) (fun h2=> ?_)
 ·subst h2
  simp+decide (disch:=try exact D0) only[go_sem]
  refine Qc (congrArg PV.bool ?_) rfl
  simp[val]
 ·simp+decide (disch:=try exact D0) only[go_sem]
  refine Qa hP (Q0f ha hd (by omega) (by omega)) rfl rfl rfl ?_
  have hD:0<val d:=by
   apply Nat.pos_of_ne_zero
   intro h0
   have hdd:=Qnk hd (by rw[hl];simpa using hx0)
   rw[h0,Qbj]at hdd
   exact hne hdd.symm
  have hgl:(dig (Nat.gcd (val a) (val d))).length<2^43:=by
   have h3:=Qb8 (Nat.gcd_le_right (val a) hD)
   have h4:=Qaz hd
   unfold nl at h3 h4;omega
  simp+decide (disch:=try exact D0) only[go_sem]
  refine Qa hP (Qwg hgl) rfl rfl rfl ?_
  simp+decide (disch:=try exact D0) only[go_sem]
  refine Qc (congrArg PV.bool ?_) rfl
  rw[hl];simp[hne,hx0]
theorem Qsg{a:List Int}(hl:a.length<2^42):Qd Tryz.prog 166 [PV.mono a] (· =PV.mono (Qbb a)):=by
 refine Qf Qq Tryz.func166 rfl Qakt (by simp[c166]) fun C hP=> ?_;simp only[c166,Zo,Zg,Zm,Zc,Zf,Zl,Zh,Zs,Zi,Zb,Zk,Zn,Zu,Zq,Zr,Zz]
 simp+decide (disch:=try exact D0) only[go_sem]
 refine Qz (by repeat (first|exact Qn|exact Qi|exact Qj|exact Qk|exact Ql|apply Qh|apply Qm|apply Qt|apply Qx|apply Qy|apply Qg)) [(3,3),(6,17)] [] (fun n J hp=>n<=a.length/\Qgx a n=Qbb a/\J 3= .int .i64 n/\hp=hp0) a.length ?_ ?_
 ·refine⟨Nat.le_refl _,rfl,?_⟩
  simp+decide (disch:=try exact D0) only[go_sem]
 rintro n J _ ⟨hn,hc,h3,rfl⟩
 simp+decide (disch:=try exact D1 h3) only[go_sem,h3]
 refine Qaw (fun hg=> ?_) (fun hg=> ?_)
 ·obtain _|n:=n
  ·omega
  have e:((n+1:Nat):Int)-1=n:=by omega
  simp only[Qgx]at hc
  simp+decide (disch:=try exact D2 h3 e) only[go_sem,h3,e]
  refine Qb (fun hz=> ?_) (fun hz=> ?_)
  ·rw[if_pos (by simp[hz,show n<a.length by omega])]at hc
   simp+decide (disch:=try exact D2 h3 e) only[go_sem,h3,e]
   refine Qo n (by omega) ⟨by omega,hc,?_⟩
   simp+decide (disch:=try exact D0) only[go_sem]
  ·rw[if_neg (by simpa[show n<a.length by omega]using hz)]at hc
   simp+decide (disch:=try exact D2 h3 e) only[go_sem,h3,e]
   refine Qb (fun h=>by omega) (fun h=> ?_)
   simp+decide (disch:=try exact D2 h3 e) only[go_sem,h3,e]
   exact Qc (congrArg PV.mono hc) rfl
 ·obtain rfl:n=0:=by omega
  simp+decide (disch:=try exact D1 h3) only[go_sem,h3]
  exact Qew (Qqh (by rw[<-hc];rfl)) rfl
theorem Qgz{a:List Int}(hl:a.length<2^42):Qd Tryz.prog 135 [PV.mono a] (· = .bool (Qaj a)):=by
 refine Qf Qq Tryz.func135 rfl Qaku (by simp[c135]) fun C hP=> ?_;simp only[c135,Zo,Zg,Zm,Zc,Zf,Zl,Zh,Zs,Zi,Zb,Zk,Zn,Zu,Zq,Zr,Zz]
 simp+decide (disch:=try exact D0) only[go_sem]
 have bad:(64<a.length∨a.getLast? =some 0∨∃x∈a,x<0∨1048576<x)->Qaj a=false:=fun h=>by
  cases hb:Qaj a with
  |false=>rfl
  |true=>
   have:=MB.ofOk hb
   simp only[Qaj,Bool.and_eq_true,decide_eq_true_eq]at hb
   rcases h with h|h|⟨x,hx,h⟩
   ·omega
   ·exact absurd h hb.2.1
   ·have h5:=this.lo x hx;have h6:=this.hi x hx;omega
 refine Qal (fun h1=> ?_) (fun h1=> ?_)
 ·simp+decide (disch:=try exact D0) only[go_sem]
  exact Qc (by rw[bad (.inl (by omega))]) rfl
 simp+decide (disch:=try exact D0) only[go_sem]
 have fin:a.length<=64->a.getLast? ≠some 0->(∀x∈a,0<=x/\x<=1048576)->Qaj a=true:=fun h1 h2 h3=>by
  simp only[Qaj,Bool.and_eq_true,decide_eq_true_eq,List.all_eq_true];exact⟨h1,h2,h3⟩
 refine Qaw (fun h2=> ?_) (fun h2=> ?_)
 ·obtain⟨k,hk⟩:∃k,a.length=k+1:=⟨a.length-1,by omega⟩
  have hlast:=Qs9 hk
  have e:((k+1:Nat):Int)-1=k:=by omega
  generalize hy:a[k]'(by omega)=y at *
  simp+decide (disch:=try exact D3 hk e hy) only[go_sem,hk,e,hy]
  refine Qb (fun h3=> ?_) (fun h3=> ?_)
  ·simp+decide (disch:=try exact D0) only[go_sem]
   exact Qc (by rw[bad (.inr (.inl (by rw[hlast,h3])))]) rfl
  have hlast:a.getLast? ≠some 0:=by rw[hlast];simpa using h3
  rw[<-hk]at *
  simp+decide (disch:=try exact D0) only[go_sem]
  refine Qz (by repeat (first|exact Qn|exact Qi|exact Qj|exact Qk|exact Ql|apply Qh|apply Qm|apply Qt|apply Qx|apply Qy|apply Qg)) [(2,2),(4,4),(24,34)] [] (fun k J hp=>∃i,k=a.length-i/\i<=a.length/\(∀x∈a.take i,0<=x/\x<=1048576)/\J 24= .int .i64 i/\hp=hp0) a.length ?_ ?_
  ·refine⟨0,rfl,by omega,by simp,?_⟩
   simp+decide (disch:=try exact D0) only[go_sem]
   rfl
  rintro _ J _ ⟨i,rfl,hi,hall,h24,rfl⟩
  simp+decide (disch:=try exact D1 h24) only[go_sem,h24]
  refine Qb (fun hg=> ?_) (fun hg=> ?_)
  ·have hi':i<a.length:=by omega
   have hmem:=List.getElem_mem hi'
   have htk:∀x∈a.take (i+1),x∈a.take i∨x=a[i]:=fun x hx=>by
    rw[List.take_succ_eq_append_getElem hi']at hx
    rcases List.mem_append.1 hx with h|h
    ·exact .inl h
    ·exact .inr (List.mem_singleton.1 h)
   generalize hx:a[i]=x at *
   simp+decide (disch:=try exact D2 h24 hx) only[go_sem,h24,hx]
   refine Qal (fun h5=> ?_) (fun h5=> ?_)
   ·simp+decide (disch:=try exact D0) only[go_sem]
    exact Qc (by rw[bad (.inr (.inr ⟨x,hmem,.inl h5⟩))]) rfl
   ·simp+decide (disch:=try exact D0) only[go_sem]
    refine Qb (fun h6=> ?_) (fun h6=> ?_)
    ·simp+decide (disch:=try exact D0) only[go_sem]
     exact Qc (by rw[bad (.inr (.inr ⟨x,hmem,.inr h6⟩))]) rfl
    ·simp+decide (disch:=try exact D1 h24) only[go_sem,h24]
     refine Qo (a.length-(i+1)) (by omega) ⟨i+1,rfl,by omega,fun y hy=> ?_,?_⟩
     ·rcases htk y hy with h|rfl
      ·exact hall y h
      ·omega
     ·simp+decide (disch:=try exact D0) only[go_sem]
  ·rw[List.take_of_length_le (by omega)]at hall
   simp+decide (disch:=try exact D0) only[go_sem]
   exact Qc (by rw[fin (by omega) hlast hall]) rfl
 ·have hnil:a=[]:=List.length_eq_zero_iff.1 (by omega)
  have hlast:a.getLast? ≠some 0:=by rw[hnil];simp
  simp+decide (disch:=try exact D0) only[go_sem]
  refine Qz (by repeat (first|exact Qn|exact Qi|exact Qj|exact Qk|exact Ql|apply Qh|apply Qm|apply Qt|apply Qx|apply Qy|apply Qg)) [(2,2),(4,4),(24,34)] [] (fun k J hp=>∃i,k=a.length-i/\i<=a.length/\(∀x∈a.take i,0<=x/\x<=1048576)/\J 24= .int .i64 i/\hp=hp0) a.length ?_ ?_
  ·refine⟨0,rfl,by omega,by simp,?_⟩
   simp+decide (disch:=try exact D0) only[go_sem]
   rfl
  rintro _ J _ ⟨i,rfl,hi,hall,h24,rfl⟩
  simp+decide (disch:=try exact D1 h24) only[go_sem,h24]
  refine Qb (fun hg=> ?_) (fun hg=> ?_)
  ·have hi':i<a.length:=by omega
   have hmem:=List.getElem_mem hi'
   have htk:∀x∈a.take (i+1),x∈a.take i∨x=a[i]:=fun x hx=>by
    rw[List.take_succ_eq_append_getElem hi']at hx
    rcases List.mem_append.1 hx with h|h
    ·exact .inl h
    ·exact .inr (List.mem_singleton.1 h)
   generalize hx:a[i]=x at *
   simp+decide (disch:=try exact D2 h24 hx) only[go_sem,h24,hx]
   refine Qal (fun h5=> ?_) (fun h5=> ?_)
   ·simp+decide (disch:=try exact D0) only[go_sem]
    exact Qc (by rw[bad (.inr (.inr ⟨x,hmem,.inl h5⟩))]) rfl
   ·simp+decide (disch:=try exact D0) only[go_sem]
    refine Qb (fun h6=> ?_) (fun h6=> ?_)
    ·simp+decide (disch:=try exact D0) only[go_sem]
     exact Qc (by rw[bad (.inr (.inr ⟨x,hmem,.inr h6⟩))]) rfl
    ·simp+decide (disch:=try exact D1 h24) only[go_sem,h24]
     refine Qo (a.length-(i+1)) (by omega) ⟨i+1,rfl,by omega,fun y hy=> ?_,?_⟩
     ·rcases htk y hy with h|rfl
      ·exact hall y h
      ·omega
     ·simp+decide (disch:=try exact D0) only[go_sem]
  ·rw[List.take_of_length_le (by omega)]at hall
   simp+decide (disch:=try exact D0) only[go_sem]
   exact Qc (by rw[fin (by omega) hlast hall]) rfl
theorem Qsh{a:List Int}(hl:a.length<2^42):Qd Tryz.prog 156 [PV.mono a] (· =PV.mono (if Qaj (Qbb a)then Qbb a else [])):=by
 have ht:=Qe1 a
 refine Qf Qq Tryz.func156 rfl Qakv (by simp[c156]) fun C hP=> ?_;simp only[c156,Zo,Zg,Zm,Zc,Zf,Zl,Zh,Zs,Zi,Zb,Zk,Zn,Zu,Zq,Zr,Zz]
 simp+decide (disch:=try exact D0) only[go_sem]
 refine Qa hP (Qsg hl) rfl rfl rfl ?_
 simp+decide (disch:=try exact D0) only[go_sem]
 refine Qa hP (Qgz (by omega)) rfl rfl rfl ?_
 simp+decide (disch:=try exact D0) only[go_sem]
 cases hok:Qaj (Qbb a)
 ·simp+decide (disch:=first|omega|rfl|(simp+decide only[go_sem,Bool.not_false]<;>rfl)|fail) only[go_sem,Bool.not_false]
  exact Qew (Qqh (by simp)) rfl
 ·have:(Qbb a).length<=64:=(MB.ofOk hok).len
  simp+decide (disch:=first|omega|rfl|(simp+decide only[go_sem,Bool.not_true,Qac,List.contains_cons,List.contains_nil,List.flatMap_cons,List.flatMap_nil,List.append_nil]<;>rfl)|fail) only[go_sem,Bool.not_true,Qac,List.contains_cons,List.contains_nil,List.flatMap_cons,List.flatMap_nil,List.append_nil]
  exact Qc (by simp[List.take_of_length_le]) rfl
theorem Qkq{a:List Int}(hl:a.length<=1048576)(hb:∀x∈a,0<=x/\x<=1099511627776):Qd Tryz.prog 114 [PV.mono a] (· = .int .i64 (Qgi a)):=by
 refine Qf Qq Tryz.func114 rfl Qakw (by simp[c114]) fun C hP=> ?_;simp only[c114,Zo,Zg,Zm,Zc,Zf,Zl,Zh,Zs,Zi,Zb,Zk,Zn,Zu,Zq,Zr,Zz]
 simp+decide (disch:=try exact D0) only[go_sem]
 refine Qz (by repeat (first|exact Qn|exact Qi|exact Qj|exact Qk|exact Ql|apply Qh|apply Qm|apply Qt|apply Qx|apply Qy|apply Qg)) [(3,3),(5,5),(8,15)] [] (fun k J hp=>∃(i:Nat)(s:Int),k=a.length-i/\i<=a.length/\0<=s/\s<=1099511627776*i/\s+(a.drop i).sum=Qgi a/\J 8= .int .i64 (i:Nat)/\J 3= .int .i64 s/\hp=hp0) a.length ?_ ?_
 ·refine⟨0,0,rfl,by omega,by omega,by omega,by simp[Qgi],?_⟩
  simp+decide (disch:=try exact D0) only[go_sem]
  simp
 rintro _ J _ ⟨i,s,rfl,hi,hs0,hs1,hsum,h8,h3,rfl⟩
 simp+decide (disch:=try exact D2 h8 h3) only[go_sem,h8,h3]
 refine Qb (fun hg=> ?_) (fun hg=> ?_)
 ·have hi':i<a.length:=by omega
  have hx:=hb _ (List.getElem_mem hi')
  rw[List.drop_eq_getElem_cons hi',List.sum_cons]at hsum
  generalize hxx:a[i]=x at *
  simp+decide (disch:=try exact D3 h8 h3 hxx) only[go_sem,h8,h3,hxx]
  refine Qo (a.length-(i+1)) (by omega) ⟨i+1,s+x,rfl,by omega,by omega,by push_cast;omega,by omega,?_⟩
  simp+decide (disch:=try exact D0) only[go_sem]
 ·rw[List.drop_of_length_le (by omega),List.sum_nil,Int.add_zero]at hsum
  simp+decide (disch:=try exact D1 h3) only[go_sem,h3]
  exact Qc (by rw[hsum]) rfl
theorem Q6s{a:List Int}{v:Int}(hl:a.length<2^42):Qd Tryz.prog 223 [PV.mono a,.int .i64 v] (· = .int .i64 (if v<0 then 0 else eN a v.toNat)):=by
 refine Qf Qq Tryz.func223 rfl Qakx (by simp[c223]) fun C hP=> ?_;simp only[c223,Zo,Zg,Zm,Zc,Zf,Zl,Zh,Zs,Zi,Zb,Zk,Zn,Zu,Zq,Zr,Zz]
 simp+decide (disch:=try exact D0) only[go_sem]
 refine Qal (fun h1=> ?_) (fun h1=> ?_)
 ·simp+decide (disch:=try exact D0) only[go_sem]
  exact Qc (by rw[if_pos h1]) rfl
 ·obtain⟨n,rfl⟩:∃n:Nat,v=n:=⟨v.toNat,by omega⟩
  rw[if_neg h1]
  simp+decide (disch:=try exact D0) only[go_sem]
  refine Qb (fun h2=> ?_) (fun h2=> ?_)
  ·simp+decide (disch:=try exact D0) only[go_sem]
   exact Qc (by rw[Qed (by omega)]) rfl
  ·have hn:n<a.length:=by omega
   simp+decide (disch:=try exact D0) only[go_sem]
   exact Qc (by rw[Qde hn]) rfl
theorem Qmr{a:List Int}{i:Nat}(hl:a.length<2^42):Qd Tryz.prog 223 [PV.mono a,.int .i64 i] (· = .int .i64 (eN a i)):=by
 have:=Q6s (v:=i) hl
 rwa[if_neg (by omega),Int.toNat_natCast]at this
theorem Qwq{a b:List Int}{f:Nat}{g:Int->Int->Int}(hla:a.length<2^40)(hlb:b.length<2^40)(hf:∀i,Qd Tryz.prog f [.int .i64 (eN a i),.int .i64 (eN b i)] (· = .int .i64 (g (eN a i) (eN b i)))):
  Qd Tryz.prog 167 [PV.mono a,PV.mono b,.fn f [] []] (· =PV.mono (Qgh g a b)):=by
 refine Qf Qq Tryz.func167 rfl Qaks (by simp[c167]) fun C hP=> ?_;simp only[c167,Zo,Zg,Zm,Zc,Zf,Zl,Zh,Zs,Zi,Zb,Zk,Zn,Zu,Zq,Zr,Zz]
 simp+decide (disch:=try exact D0) only[go_sem]
 refine Qz (by repeat (first|exact Qn|exact Qi|exact Qj|exact Qk|exact Ql|apply Qh|apply Qm|apply Qt|apply Qx|apply Qy|apply Qg)) [(8,10),(19,45)] [] (fun k J hp=>∃i,k=max a.length b.length-i/\i<=max a.length b.length/\J 19= .int .i64 (i:Nat)/\hp=Qw hp0 16 ⟨1,3,Qkn ((Qgh g a b).take i++List.replicate (max a.length b.length-i) 0),false⟩) (max a.length b.length) ?_ ?_
 ·refine⟨0,rfl,by omega,?_⟩
  simp+decide (disch:=try exact D0) only[go_sem]
  simp
 rintro _ J _ ⟨i,rfl,hi,h19,rfl⟩
 simp+decide (disch:=try exact D1 h19) only[go_sem,h19]
 refine Qb (fun hg=> ?_) (fun hg=> ?_)
 ·have hi':i<max a.length b.length:=by omega
  have hfi:=hf i
  have htl:((Qgh g a b).take i).length=i:=by rw[List.length_take,Qcy];omega
  have hset:=fun v=>Q88 (v:=v) (z:=(0:Int)) htl (show 0<max a.length b.length-i by omega)
  have hlen:i<((Qgh g a b).take i++List.replicate (max a.length b.length-i) (0:Int)).length:=by rw[List.length_append,htl,List.length_replicate];omega
  have htk:=Qqi (g:=g) hi'
  have fin:∀x y,x=eN a i->y=eN b i->Qd Tryz.prog f [.int .i64 x,.int .i64 y] (· = .int .i64 (g (eN a i) (eN b i))):=by rintro _ _ rfl rfl;exact hfi
  simp+decide (disch:=try exact D1 h19) only[go_sem,h19]
  refine Qb (fun h1=> ?_) (fun h1=> ?_)
  ·have h1':i<a.length:=by omega
   simp+decide (disch:=try exact D1 h19) only[go_sem,h19]
   refine Qb (fun h2=> ?_) (fun h2=> ?_)
   ·have h2':i<b.length:=by omega
    simp+decide (disch:=try exact D1 h19) only[go_sem,h19]
    refine Qa hP (fin _ _ (Qde h1').symm (Qde h2').symm) rfl rfl rfl ?_
    simp+decide (disch:=first|omega|rfl|(simp+decide only[go_sem,h19,hset,<-htk]<;>rfl)|fail) only[go_sem,h19,hset,<-htk]
    refine Qo (max a.length b.length-(i+1)) (by omega) ⟨i+1,rfl,by omega,?_⟩
    simp+decide (disch:=first|omega|rfl|(simp+decide only[go_sem,Nat.sub_sub]<;>rfl)|fail) only[go_sem,Nat.sub_sub]
   ·simp+decide (disch:=try exact D1 h19) only[go_sem,h19]
    refine Qa hP (fin _ _ (Qde h1').symm (Qed (by omega)).symm) rfl rfl rfl ?_
    simp+decide (disch:=first|omega|rfl|(simp+decide only[go_sem,h19,hset,<-htk]<;>rfl)|fail) only[go_sem,h19,hset,<-htk]
    refine Qo (max a.length b.length-(i+1)) (by omega) ⟨i+1,rfl,by omega,?_⟩
    simp+decide (disch:=first|omega|rfl|(simp+decide only[go_sem,Nat.sub_sub]<;>rfl)|fail) only[go_sem,Nat.sub_sub]
  ·simp+decide (disch:=try exact D1 h19) only[go_sem,h19]
   refine Qb (fun h2=> ?_) (fun h2=>by omega)
   have h2':i<b.length:=by omega
   simp+decide (disch:=try exact D1 h19) only[go_sem,h19]
   refine Qa hP (fin _ _ (Qed (by omega)).symm (Qde h2').symm) rfl rfl rfl ?_
   simp+decide (disch:=first|omega|rfl|(simp+decide only[go_sem,h19,hset,<-htk]<;>rfl)|fail) only[go_sem,h19,hset,<-htk]
   refine Qo (max a.length b.length-(i+1)) (by omega) ⟨i+1,rfl,by omega,?_⟩
   simp+decide (disch:=first|omega|rfl|(simp+decide only[go_sem,Nat.sub_sub]<;>rfl)|fail) only[go_sem,Nat.sub_sub]
 ·obtain rfl:i=max a.length b.length:=by omega
  simp+decide (disch:=try exact E0) only[go_sem,Qac,List.contains_cons,List.contains_nil,List.flatMap_cons,List.flatMap_nil,List.append_nil]
  exact Qc (by simp[List.take_of_length_le,Qcy]) rfl
theorem Q25{x y:Int}(h1: -9223372036854775808<=x+y)(h2:x+y<=9223372036854775807):Qd Tryz.prog 168 [.int .i64 x,.int .i64 y] (· = .int .i64 (x+y)):=by
 refine Qf Qq Tryz.func168 rfl Qaky (by simp[c168]) fun C hP=> ?_;simp only[c168,Zo,Zg,Zm,Zc,Zf,Zl,Zh,Zs,Zi,Zb,Zk,Zn,Zu,Zq,Zr,Zz]
 simp+decide (disch:=try exact D0) only[go_sem]
 exact Qc rfl rfl
theorem Qu1{k:Nat}{a b:List Int}(ha:MB k a)(hb:MB k b)(hk:k<=1099511627776):Qd Tryz.prog 96 [PV.mono a,PV.mono b] (· =PV.mono (Qa5 a b)):=by
 have h1:=ha.len
 have h2:=hb.len
 have hz:=Qcy (· + ·) a b
 refine Qf Qq Tryz.func96 rfl Qape (by simp[c96]) fun C hP=> ?_;simp only[c96,Zo,Zg,Zm,Zc,Zf,Zl,Zh,Zs,Zi,Zb,Zk,Zn,Zu,Zq,Zr,Zz]
 simp+decide (disch:=try exact D0) only[go_sem]
 refine Qa hP (Qwq (f:=168) (g:=(· + ·)) (by omega) (by omega) (fun i=>Q25 (by have:=ha.eN i;have:=hb.eN i;omega) (by have:=ha.eN i;have:=hb.eN i;omega))) rfl rfl rfl ?_
 simp+decide (disch:=try exact D0) only[go_sem]
 refine Qa hP (Qsg (by omega)) rfl rfl rfl ?_
 simp+decide (disch:=try exact D0) only[go_sem]
 exact Qc rfl rfl
theorem Qpa{k:Nat}{a b:List Int}{o:Int}(ha:MB k a)(hb:MB k b)(hk:k<=1099511627776):Qd Tryz.prog 193 [PV.mono a,PV.mono b,.int .i64 o] (· = .int .i64 (Qgj o a b)):=by
 have h1:=ha.len
 have h2:=hb.len
 have hda:∀x∈a,0<=x/\x<=1099511627776:=fun x hx=>by have:=ha.lo x hx;have:=ha.hi x hx;omega
 have hdb:∀x∈b,0<=x/\x<=1099511627776:=fun x hx=>by have:=hb.lo x hx;have:=hb.hi x hx;omega
 refine Qf Qq Tryz.func193 rfl Qakz (by simp[c193]) fun C hP=> ?_;simp only[c193,Zo,Zg,Zm,Zc,Zf,Zl,Zh,Zs,Zi,Zb,Zk,Zn,Zu,Zq,Zr,Zz]
 simp+decide (disch:=try exact D0) only[go_sem]
 refine Qb (fun ho=> ?_) (fun ho=> ?_)
 ·simp+decide (disch:=try exact D0) only[go_sem]
  refine Qa hP (Qkq (by omega) hda) rfl rfl rfl ?_
  simp+decide (disch:=try exact D0) only[go_sem]
  refine Qa hP (Qkq (by omega) hdb) rfl rfl rfl ?_
  simp+decide (disch:=try exact D0) only[go_sem]
  refine Qb (fun hd=> ?_) (fun hd=> ?_)
  ·have hord:Qgj o a b=Qcm (Qgi a) (Qgi b):=by unfold Qgj;rw[if_pos ⟨ho,hd⟩]
   simp+decide (disch:=try exact D0) only[go_sem]
   refine Qb (fun h5=> ?_) (fun h5=> ?_)
   ·simp+decide (disch:=try exact D0) only[go_sem]
    exact Qc (by rw[hord,Qcm,if_pos h5]) rfl
   ·simp+decide (disch:=try exact D0) only[go_sem]
    exact Qc (by rw[hord,Qcm,if_neg h5,if_pos (by omega)]) rfl
  have hord:Qgj o a b=Qau a b:=by unfold Qgj;rw[if_neg (fun h=>hd h.2)]
  simp+decide (disch:=try exact D0) only[go_sem]
  refine Qz (by repeat (first|exact Qn|exact Qi|exact Qj|exact Qk|exact Ql|apply Qh|apply Qm|apply Qt|apply Qx|apply Qy|apply Qg)) [(6,6),(9,11),(30,45)] [] (fun n J hp=>n<=max a.length b.length/\Qcw a b n=Qau a b/\J 9= .int .i64 ((n:Int)-1)/\hp=hp0) (max a.length b.length) ?_ ?_
  ·refine⟨by omega,rfl,?_⟩
   simp+decide (disch:=try exact D0) only[go_sem]
  rintro n J _ ⟨hn,hc,h9,rfl⟩
  simp+decide (disch:=try exact D1 h9) only[go_sem,h9]
  refine Qb (fun hg=> ?_) (fun hg=> ?_)
  ·obtain _|n:=n
   ·omega
   have e:((n+1:Nat):Int)-1=n:=by omega
   rw[Qcw]at hc
   simp+decide (disch:=try exact D2 h9 e) only[go_sem,h9,e]
   refine Qa hP (Qmr (by omega)) rfl rfl rfl ?_
   simp+decide (disch:=try exact D2 h9 e) only[go_sem,h9,e]
   refine Qa hP (Qmr (by omega)) rfl rfl rfl ?_
   simp+decide (disch:=try exact D2 h9 e) only[go_sem,h9,e]
   refine Qb (fun h4=> ?_) (fun h4=> ?_)
   ·rw[if_neg h4]at hc
    simp+decide (disch:=try exact D2 h9 e) only[go_sem,h9,e]
    refine Qb (fun h5=> ?_) (fun h5=> ?_)
    ·simp+decide (disch:=try exact D2 h9 e) only[go_sem,h9,e]
     exact Qc (by rw[hord,<-hc,Qcm,if_pos h5]) rfl
    ·simp+decide (disch:=try exact D2 h9 e) only[go_sem,h9,e]
     exact Qc (by rw[hord,<-hc,Qcm,if_neg h5,if_pos (by omega)]) rfl
   ·rw[if_pos (by omega)]at hc
    simp+decide (disch:=try exact D2 h9 e) only[go_sem,h9,e]
    refine Qo n (by omega) ⟨by omega,hc,?_⟩
    simp+decide (disch:=try exact D0) only[go_sem]
  ·obtain rfl:n=0:=by omega
   simp+decide (disch:=try exact D0) only[go_sem]
   exact Qc (by rw[hord,<-hc];rfl) rfl
 ·have hord:Qgj o a b=Qau a b:=by unfold Qgj;rw[if_neg (fun h=>ho h.1)]
  simp+decide (disch:=try exact D0) only[go_sem]
  refine Qz (by repeat (first|exact Qn|exact Qi|exact Qj|exact Qk|exact Ql|apply Qh|apply Qm|apply Qt|apply Qx|apply Qy|apply Qg)) [(6,6),(9,11),(30,45)] [] (fun n J hp=>n<=max a.length b.length/\Qcw a b n=Qau a b/\J 9= .int .i64 ((n:Int)-1)/\hp=hp0) (max a.length b.length) ?_ ?_
  ·refine⟨by omega,rfl,?_⟩
   simp+decide (disch:=try exact D0) only[go_sem]
  rintro n J _ ⟨hn,hc,h9,rfl⟩
  simp+decide (disch:=try exact D1 h9) only[go_sem,h9]
  refine Qb (fun hg=> ?_) (fun hg=> ?_)
  ·obtain _|n:=n
   ·omega
   have e:((n+1:Nat):Int)-1=n:=by omega
   rw[Qcw]at hc
   simp+decide (disch:=try exact D2 h9 e) only[go_sem,h9,e]
   refine Qa hP (Qmr (by omega)) rfl rfl rfl ?_
   simp+decide (disch:=try exact D2 h9 e) only[go_sem,h9,e]
   refine Qa hP (Qmr (by omega)) rfl rfl rfl ?_
   simp+decide (disch:=try exact D2 h9 e) only[go_sem,h9,e]
   refine Qb (fun h4=> ?_) (fun h4=> ?_)
   ·rw[if_neg h4]at hc
    simp+decide (disch:=try exact D2 h9 e) only[go_sem,h9,e]
    refine Qb (fun h5=> ?_) (fun h5=> ?_)
    ·simp+decide (disch:=try exact D2 h9 e) only[go_sem,h9,e]
     exact Qc (by rw[hord,<-hc,Qcm,if_pos h5]) rfl
    ·simp+decide (disch:=try exact D2 h9 e) only[go_sem,h9,e]
     exact Qc (by rw[hord,<-hc,Qcm,if_neg h5,if_pos (by omega)]) rfl
   ·rw[if_pos (by omega)]at hc
    simp+decide (disch:=try exact D2 h9 e) only[go_sem,h9,e]
    refine Qo n (by omega) ⟨by omega,hc,?_⟩
    simp+decide (disch:=try exact D0) only[go_sem]
  ·obtain rfl:n=0:=by omega
   simp+decide (disch:=try exact D0) only[go_sem]
   exact Qc (by rw[hord,<-hc];rfl) rfl
theorem Qyv{a b:Rat}{k:Nat}(ha:rs a<=k)(hb:rs b<=k)(hk:k<2^36):Qd Tryz.prog 107 [PV.rat a,PV.rat b] (· =PV.rat (a+b)):=by
 have:=Qqp (Qbx ha) (Qbx hb) hk
 rwa[Qca,Qca]at this
theorem Qrn{a b:Rat}{k:Nat}(ha:rs a<=k)(hb:rs b<=k)(hk:k<2^36):Qd Tryz.prog 105 [PV.rat a,PV.rat b] (· =PV.rat (a*b)):=by
 have:=Qaaf (Qbx ha) (Qbx hb) hk
 rwa[Qca,Qca]at this
theorem Qar8{a b:Rat}{k:Nat}(ha:rs a<=k)(hb:rs b<=k)(hk:k<2^36):Qd Tryz.prog 204 [PV.rat a,PV.rat b] (· = .int .i64 (Qjh a b)):=by
 have:=Qxx (Qbx ha) (Qbx hb) hk
 rwa[Qca,Qca]at this
theorem Qalq{a b:Rat}{k:Nat}(ha:rs a<=k)(hb:rs b<=k)(hk:k<2^36):Qd Tryz.prog 179 [PV.rat a,PV.rat b] (· = .bool (decide (a=b))):=by
 have:=Qse (Qbx ha) (Qbx hb) hk
 rwa[Qca,Qca]at this
theorem Qg0{a:Rat}(ha:rs a<2^36):Qd Tryz.prog 38 [PV.rat a] (· = .int .i64 (Qee a)):=by
 have:=Qk3 (Qbx (Nat.le_refl (rs a))) ha
 rwa[Qca]at this
theorem Qu2{s t:Tm}{E:Nat}(hs:MB E s.2)(ht:MB E t.2)(hE:E<=2^38):Qd Tryz.prog 136 [PV.term s,PV.term t] (· = .int .i64 (Qau s.2 t.2)):=by
 refine Qf Qq Tryz.func136 rfl Q4m (by simp[Q00]) fun C hP=> ?_;simp only[Q00,Zo,Zg,Zm,Zc,Zf,Zl,Zh,Zs,Zi,Zb,Zk,Zn,Zu,Zq,Zr,Zz]
 simp+decide (disch:=try exact D0) only[go_sem]
 refine Qa hP (Qpa (o:=0) hs ht (by omega)) rfl rfl rfl ?_
 simp+decide (disch:=try exact D0) only[go_sem]
 exact Qc (by rw[Qqk]) rfl
theorem Q06{s t:Tm}{k:Nat}(hs:rs s.1<=k)(ht:rs t.1<=k)(hk:k<2^34):Qd Tryz.prog 207 [PV.term s,PV.term t] (· = .tup [PV.term (s.1+t.1,s.2),.bool (decide (¬s.1+t.1=0))]):=by
 have hr:=Qkd s.1 t.1
 refine Qf Qq Tryz.func207 rfl Qak1 (by simp[c207]) fun C hP=> ?_;simp only[c207,Zo,Zg,Zm,Zc,Zf,Zl,Zh,Zs,Zi,Zb,Zk,Zn,Zu,Zq,Zr,Zz]
 simp+decide (disch:=try exact D0) only[go_sem]
 refine Qa hP (Qyv (a:=s.1) (b:=t.1) hs ht (by omega)) rfl rfl rfl ?_
 simp+decide (disch:=try exact D0) only[go_sem]
 refine Qa hP (Qg0 (a:=s.1+t.1) (by omega)) rfl rfl rfl ?_
 simp+decide (disch:=try exact D0) only[go_sem]
 refine Qhs ?_
 simp+decide (disch:=try exact D0) only[go_sem]
 exact Qd8 rfl rfl rfl (Qab _) (Qgu (congrArg PV.bool (decide_eq_decide.2 (not_congr Qav))))
theorem Qps{c:Rat}{m:List Int}(hc:rs c<2^36):Qd Tryz.prog 155 [PV.rat c,PV.mono m] (· =PV.poly (if c=0 then []else [(c,m)])):=by
 refine Qf Qq Tryz.func155 rfl Qak2 (by simp[c155]) fun C hP=> ?_;simp only[c155,Zo,Zg,Zm,Zc,Zf,Zl,Zh,Zs,Zi,Zb,Zk,Zn,Zu,Zq,Zr,Zz]
 simp+decide (disch:=try exact D0) only[go_sem]
 refine Qa hP (Qg0 (a:=c) hc) rfl rfl rfl ?_
 simp+decide (disch:=try exact D0) only[go_sem]
 refine Qb (fun h0=> ?_) (fun h0=> ?_)
 ·rw[if_pos (Qav.1 h0)]
  simp+decide (disch:=try exact D0) only[go_sem]
  exact Qew Qac1 rfl
 ·rw[if_neg (fun h=>h0 (Qav.2 h))]
  simp+decide (disch:=try exact E0) only[go_sem,Qac,List.contains_cons,List.contains_nil,List.flatMap_cons,List.flatMap_nil,List.append_nil]
  exact Qc rfl rfl
theorem Q07{p q:List Tm}{K E:Nat}(hp:PB K E p)(hq:PB K E q)(hK:K<=2^33)(hE:E<=2^38)(hlp:p.length<=2^36)(hlq:q.length<=2^36):
  Qd Tryz.prog 206 [PV.poly p,PV.poly q,.fn 136 [] [],.fn 207 [] []] (· =PV.poly (Qap p q)):=by
 refine Qf Qq Tryz.func206 rfl Qak0 (by simp[c206]) fun C hP=> ?_;simp only[c206,Zo,Zg,Zm,Zc,Zf,Zl,Zh,Zs,Zi,Zb,Zk,Zn,Zu,Zq,Zr,Zz]
 simp+decide (disch:=try exact D0) only[go_sem]
 refine Qz (by repeat (first|exact Qn|exact Qi|exact Qj|exact Qk|exact Ql|apply Qh|apply Qm|apply Qt|apply Qx|apply Qy|apply Qg)) [(9,14),(21,86)] [13,20,57,58,71,72,83,84] (fun n J hp=>∃i k out,n=(p.length-i)+(q.length-k)/\i<=p.length/\k<=q.length/\out.length<=i+k/\out++Qap (p.drop i) (q.drop k)=Qap p q/\
  J 9= .ms 20 out.length/\J 10= .int .i64 (i:Nat)/\J 11= .int .i64 (k:Nat)/\hp 20=some ⟨4,95,out.map PV.term,false⟩) (p.length+q.length) ?_ ?_
 ·refine⟨0,0,[],by omega,by omega,by omega,by simp,rfl,?_⟩
  simp+decide (disch:=try exact D0) only[go_sem]
  simp
 rintro _ J h ⟨i,k,out,rfl,hi,hk,hol,hpad,h9,h10,h11,hh⟩
 simp+decide (disch:=try exact D3 h9 h10 h11) only[go_sem,h9,h10,h11]
 refine Qaw (fun hg=> ?_) (fun hg=> ?_)
 ·have hi':i<p.length:=by omega
  simp+decide (disch:=try exact D3 h9 h10 h11) only[go_sem,h9,h10,h11]
  refine Qb (fun hg2=> ?_) (fun hg2=> ?_)
  ·have hk':k<q.length:=by omega
   have htp:=hp.get hi'
   have htq:=hq.get hk'
   rw[Qw8 hi' hk']at hpad
   have c1:=htp.c
   have c2:=htq.c
   generalize hx:p[i]=x at *
   generalize hy:q[k]=y at *
   simp+decide (disch:=try exact D5 h9 h10 h11 hx hy) only[go_sem,h9,h10,h11,hx,hy]
   refine Qa hP (Qu2 (s:=x) (t:=y) htp.m htq.m hE) rfl rfl rfl ?_
   simp+decide (disch:=try exact D5 h9 h10 h11 hx hy) only[go_sem,h9,h10,h11,hx,hy]
   refine Qb (fun hc=> ?_) (fun hc=> ?_)
   ·rw[if_pos hc]at hpad
    simp+decide (disch:=try exact D5 h9 h10 h11 hx hy) only[go_sem,h9,h10,h11,hx,hy]
    rw[Qaf (f:=PV.term) (y:=x) (xs:=out) (ty':=95) (fz:=false) (T1 hh) Tr0 (by omega) rfl (by omega) (by omega)]
    simp+decide (disch:=try exact D5 h9 h10 h11 hx hy) only[go_sem,h9,h10,h11,hx,hy]
    refine Qo ((p.length-(i+1))+(q.length-k)) (by omega) ⟨i+1,k,out++[x],rfl,by omega,hk,by simp;omega,by simpa using hpad,?_⟩
    simp+decide (disch:=try exact D3 h9 h10 h11) only[go_sem,h9,h10,h11]
    simp
   rw[if_neg hc]at hpad
   simp+decide (disch:=try exact D5 h9 h10 h11 hx hy) only[go_sem,h9,h10,h11,hx,hy]
   refine Qb (fun hc2=> ?_) (fun hc2=> ?_)
   ·rw[if_pos hc2]at hpad
    simp+decide (disch:=try exact D5 h9 h10 h11 hx hy) only[go_sem,h9,h10,h11,hx,hy]
    rw[Qaf (f:=PV.term) (y:=y) (xs:=out) (ty':=95) (fz:=false) (T1 hh) Tr0 (by omega) rfl (by omega) (by omega)]
    simp+decide (disch:=try exact D5 h9 h10 h11 hx hy) only[go_sem,h9,h10,h11,hx,hy]
    refine Qo ((p.length-i)+(q.length-(k+1))) (by omega) ⟨i,k+1,out++[y],rfl,hi,by omega,by simp;omega,by simpa using hpad,?_⟩
    simp+decide (disch:=try exact D3 h9 h10 h11) only[go_sem,h9,h10,h11]
    simp
   rw[if_neg hc2]at hpad
   simp+decide (disch:=try exact D5 h9 h10 h11 hx hy) only[go_sem,h9,h10,h11,hx,hy]
   refine Qda ?_ ?_
   all_goals
    simp+decide (disch:=try exact D5 h9 h10 h11 hx hy) only[go_sem,h9,h10,h11,hx,hy]
    refine Qa hP (Q06 (s:=x) (t:=y) (k:=2^33) (by omega) (by omega) (by omega)) rfl rfl rfl ?_
    simp+decide (disch:=try exact D5 h9 h10 h11 hx hy) only[go_sem,h9,h10,h11,hx,hy]
    refine Qb (fun hz=> ?_) (fun hz=> ?_)
    ·rw[if_neg hz]at hpad
     simp+decide (disch:=try exact D5 h9 h10 h11 hx hy) only[go_sem,h9,h10,h11,hx,hy]
     rw[Qaf (f:=PV.term) (y:=(x.1+y.1,x.2)) (xs:=out) (ty':=95) (fz:=false) (T1 hh) Tr0 (by omega) rfl (by omega) (by omega)]
     simp+decide (disch:=try exact D5 h9 h10 h11 hx hy) only[go_sem,h9,h10,h11,hx,hy]
     refine Qo ((p.length-(i+1))+(q.length-(k+1))) (by omega) ⟨i+1,k+1,out++[(x.1+y.1,x.2)],rfl,by omega,by omega,by simp;omega,by simpa using hpad,?_⟩
     simp+decide (disch:=try exact D3 h9 h10 h11) only[go_sem,h9,h10,h11]
     simp
    ·rw[if_pos (Decidable.not_not.1 hz)]at hpad
     simp+decide (disch:=try exact D5 h9 h10 h11 hx hy) only[go_sem,h9,h10,h11,hx,hy]
     refine Qo ((p.length-(i+1))+(q.length-(k+1))) (by omega) ⟨i+1,k+1,out,rfl,by omega,by omega,by omega,hpad,?_⟩
     simp+decide (disch:=try exact D4 h9 h10 h11 hh) only[go_sem,h9,h10,h11,hh]
  ·have hfin:(out++p.drop i++q.drop k).take (out.length+(p.drop i).length+(q.drop k).length)=Qap p q:=by
    rw[List.take_of_length_le (by simp;omega),<-hpad,List.drop_of_length_le (by omega:q.length<=k),Qdn,List.append_nil]
   simp+decide (disch:=try exact D3 h9 h10 h11) only[go_sem,h9,h10,h11]
   rw[Qd0 (f:=PV.term) (xs:=out) (ys:=p.drop i) (T1 hh) rfl (by omega) (by simp;omega) (by simp;omega)]
   simp+decide (disch:=try exact D3 h9 h10 h11) only[go_sem,h9,h10,h11]
   rw[Qd0 (f:=PV.term) (xs:=out++p.drop i) (ys:=q.drop k) T0 (by simp) (by omega) (by simp;omega) (by simp;omega)]
   simp+decide (disch:=try exact E3 h9 h10 h11) only[go_sem,h9,h10,h11,Qac,List.contains_cons,List.contains_nil,List.flatMap_cons,List.flatMap_nil,List.append_nil]
   exact Qc (by rw[<-List.map_take,hfin]) rfl
 ·have hfin:(out++p.drop i++q.drop k).take (out.length+(p.drop i).length+(q.drop k).length)=Qap p q:=by
   rw[List.take_of_length_le (by simp;omega),<-hpad,List.drop_of_length_le (by omega:p.length<=i),Qh7,List.append_nil]
  simp+decide (disch:=try exact D3 h9 h10 h11) only[go_sem,h9,h10,h11]
  rw[Qd0 (f:=PV.term) (xs:=out) (ys:=p.drop i) (T1 hh) rfl (by omega) (by simp;omega) (by simp;omega)]
  simp+decide (disch:=try exact D3 h9 h10 h11) only[go_sem,h9,h10,h11]
  rw[Qd0 (f:=PV.term) (xs:=out++p.drop i) (ys:=q.drop k) T0 (by simp) (by omega) (by simp;omega) (by simp;omega)]
  simp+decide (disch:=try exact E3 h9 h10 h11) only[go_sem,h9,h10,h11,Qac,List.contains_cons,List.contains_nil,List.flatMap_cons,List.flatMap_nil,List.append_nil]
  exact Qc (by rw[<-List.map_take,hfin]) rfl
theorem Q6t{p q:List Tm}{K E:Nat}(hp:PB K E p)(hq:PB K E q)(hK:K<=2^33)(hE:E<=2^38)(hlp:p.length<=2^36)(hlq:q.length<=2^36):
  Qd Tryz.prog 170 [PV.poly p,PV.poly q] (· =PV.poly (Qap p q)):=by
 refine Qf Qq Tryz.func170 rfl Qak5 (by simp[c170]) fun C hP=> ?_;simp only[c170,Zo,Zg,Zm,Zc,Zf,Zl,Zh,Zs,Zi,Zb,Zk,Zn,Zu,Zq,Zr,Zz]
 simp+decide (disch:=try exact D0) only[go_sem]
 refine Qa hP (Q07 hp hq hK hE hlp hlq) rfl rfl rfl ?_
 simp+decide (disch:=try exact D0) only[go_sem]
 exact Qc rfl rfl
theorem Q6u{K E:Nat}(hE:E<=2^38):∀(n:Nat)(l:List (List Tm)),l.length<=n->(∀p∈l,PB K E p)->l.length*K<=2^33->l.length<=2^36->Qm2 l<=2^36->Qd Tryz.prog 157 [PV.polys l] (· =PV.poly (Qc5 l)):=by
 intro n
 induction n with
 |zero=>
  intro l hl _ _ _ _
  have:l=[]:=List.length_eq_zero_iff.1 (by omega)
  subst this
  refine Qf Qq Tryz.func157 rfl Q4n (by simp[Q01]) fun C hP=> ?_;simp only[Q01,Zo,Zg,Zm,Zc,Zf,Zl,Zh,Zs,Zi,Zb,Zk,Zn,Zu,Zq,Zr,Zz]
  simp+decide (disch:=first|omega|rfl|(simp+decide only[go_sem,List.map_nil,List.length_nil]<;>rfl)|fail) only[go_sem,List.map_nil,List.length_nil]
  exact Qew (Qw9 (by rw[Qc5])) rfl
 | succ n ih=>
  intro l hl hb hK hll hpl
  refine Qf Qq Tryz.func157 rfl Q4n (by simp[Q01]) fun C hP=> ?_;simp only[Q01,Zo,Zg,Zm,Zc,Zf,Zl,Zh,Zs,Zi,Zb,Zk,Zn,Zu,Zq,Zr,Zz]
  simp+decide (disch:=try exact D0) only[go_sem]
  refine Qb (fun h0=> ?_) (fun h0=> ?_)
  ·have:l=[]:=List.length_eq_zero_iff.1 (by omega)
   subst this
   simp+decide (disch:=try exact D0) only[go_sem]
   exact Qew (Qw9 (by rw[Qc5])) rfl
  simp+decide (disch:=try exact D0) only[go_sem]
  refine Qb (fun h1=> ?_) (fun h1=> ?_)
  ·obtain⟨p,rfl⟩:∃p,l=[p]:=List.length_eq_one_iff.1 (by omega)
   simp+decide (disch:=first|omega|rfl|(simp+decide only[go_sem,List.map_cons,List.map_nil]<;>rfl)|fail) only[go_sem,List.map_cons,List.map_nil]
   exact Qc (by rw[Qc5];rfl) rfl
  have h2:2<=l.length:=by omega
  have hs:=Qui l (l.length/2)
  have e:(2:Int)=((2:Nat):Int):=rfl
  have hq:∀d fr hp K,Qbi .quo false (.int .i64 (l.length:Int)) (.int .i64 2) d fr hp K=K (upd fr d (.int .i64 ((l.length/2:Nat):Int))) hp:=fun d fr hp K=>by
   rw[e,Qv7 (by omega) (by omega)]
  have b1:=Qoo (K:=K) (E:=E) _ (l.take (l.length/2)) (Nat.le_refl _) (fun p hp=>hb p (List.mem_of_mem_take hp))
  have b2:=Qoo (K:=K) (E:=E) _ (l.drop (l.length/2)) (Nat.le_refl _) (fun p hp=>hb p (List.mem_of_mem_drop hp))
  have l1:(l.take (l.length/2)).length*K<=l.length*K:=Nat.mul_le_mul_right _ (by rw[List.length_take];omega)
  have l2:(l.drop (l.length/2)).length*K<=l.length*K:=Nat.mul_le_mul_right _ (by rw[List.length_drop];omega)
  simp+decide (disch:=try exact D1 hq) only[go_sem,hq]
  refine Qa hP (ih (l.take (l.length/2)) (by rw[List.length_take];omega) (fun p hp=>hb p (List.mem_of_mem_take hp)) (by omega) (by rw[List.length_take];omega) (by omega)) rfl rfl rfl ?_
  simp+decide (disch:=try exact D1 hq) only[go_sem,hq]
  refine Qa hP (ih (l.drop (l.length/2)) (by rw[List.length_drop];omega) (fun p hp=>hb p (List.mem_of_mem_drop hp)) (by omega) (by rw[List.length_drop];omega) (by omega)) rfl rfl rfl ?_
  simp+decide (disch:=try exact D1 hq) only[go_sem,hq]
  refine Qa hP (Q6t (b1.1.mono (K':=l.length*K) l1 (Nat.le_refl _)) (b2.1.mono l2 (Nat.le_refl _)) hK hE (by omega) (by omega)) rfl rfl rfl ?_
  simp+decide (disch:=try exact D0) only[go_sem]
  exact Qc (by rw[Qkf h2]) rfl
theorem Qsi{p:List Tm}{t:Tm}{i:Nat}(h:i<p.length):Qa6 (p.take (i+1)) t=Qa6 (p.take i) t++(if p[i].1*t.1=0 then []else [(p[i].1*t.1,Qa5 p[i].2 t.2)]):=by
 rw[List.take_succ_eq_append_getElem h,Qa6,List.filterMap_append,Qa6]
 congr 1
 simp only[List.filterMap_cons,List.filterMap_nil]
 split<;>split<;>simp_all
theorem Qu3{n:Bool}{a d:List Nat}{k:Nat}(hp:Raw k n a d)(hk:k<2^36):Qd Tryz.prog 107 [PV.rr n a d,PV.rat ((0:Int):Rat)] (· =PV.rat (rv n a d)):=by
 have h0:rs ((0:Int):Rat)<=k:=by have:=Qz8;have:=hp.k1;have e:((0:Int):Rat)=0:=rfl;rw[e];omega
 have:=Qqp hp (Qbx h0) hk
 rw[Qca]at this
 have e:rv n a d+((0:Int):Rat)=rv n a d:=Rat.add_zero _
 rwa[e]at this
theorem Q26{s t:Tm}{K E:Nat}(hs:TB K E s)(ht:TB K E t)(hK:K<=2^33)(hE:E<=2^38):Qd Tryz.prog 203 [PV.term s,PV.term t] (· = .int .i64 (Qix s t)):=by
 have c1:=hs.c
 have c2:=ht.c
 refine Qf Qq Tryz.func203 rfl Qak4 (by simp[c203]) fun C hP=> ?_;simp only[c203,Zo,Zg,Zm,Zc,Zf,Zl,Zh,Zs,Zi,Zb,Zk,Zn,Zu,Zq,Zr,Zz]
 simp+decide (disch:=try exact D0) only[go_sem]
 refine Qa hP (Qu2 (s:=s) (t:=t) hs.m ht.m hE) rfl rfl rfl ?_
 simp+decide (disch:=try exact D0) only[go_sem]
 refine Qb (fun h=> ?_) (fun h=> ?_)
 ·simp+decide (disch:=try exact D0) only[go_sem]
  exact Qc (by rw[Qix,if_pos h]) rfl
 ·simp+decide (disch:=try exact D0) only[go_sem]
  refine Qa hP (Qar8 (a:=s.1) (b:=t.1) (k:=2^33) (by omega) (by omega) (by omega)) rfl rfl rfl ?_
  simp+decide (disch:=try exact D0) only[go_sem]
  exact Qc (by rw[Qix,if_neg h]) rfl
theorem Qqu{p q:List Tm}{K E:Nat}(hp:PB K E p)(hq:PB K E q)(hK:K<=2^33)(hE:E<=2^38)(hlp:p.length<=2^36)(hlq:q.length<=2^36):
  Qd Tryz.prog 205 [PV.poly p,PV.poly q,.fn 203 [] []] (· = .int .i64 (Qfo p q)):=by
 refine Qf Qq Tryz.func205 rfl Qak6 (by simp[c205]) fun C hP=> ?_;simp only[c205,Zo,Zg,Zm,Zc,Zf,Zl,Zh,Zs,Zi,Zb,Zk,Zn,Zu,Zq,Zr,Zz]
 simp+decide (disch:=try exact D0) only[go_sem]
 refine Qz (by repeat (first|exact Qn|exact Qi|exact Qj|exact Qk|exact Ql|apply Qh|apply Qm|apply Qt|apply Qx|apply Qy|apply Qg)) [(6,10),(13,33)] [8,9] (fun n J hp=>∃i,n=p.length-i/\i<=p.length/\(i<=q.length)/\Qfo (p.drop i) (q.drop i)=Qfo p q/\J 13= .int .i64 (i:Nat)) p.length ?_ ?_
 ·refine⟨0,rfl,by omega,by omega,rfl,?_⟩
  simp+decide (disch:=try exact D0) only[go_sem]
  rfl
 rintro _ J h ⟨i,rfl,hi,hi2,hpc,h13⟩
 simp+decide (disch:=try exact D1 h13) only[go_sem,h13]
 refine Qb (fun hg=> ?_) (fun hg=> ?_)
 ·have hi':i<p.length:=by omega
  have htp:=hp.get hi'
  have hdp:p.drop i=p[i]::p.drop (i+1):=List.drop_eq_getElem_cons hi'
  have hpcd:=fun hk=>Qxa (q:=q) hi' hk
  generalize hx:p[i]=x at *
  simp+decide (disch:=try exact D2 h13 hx) only[go_sem,h13,hx]
  refine Qb (fun hk=> ?_) (fun hk=> ?_)
  ·rw[hdp,List.drop_of_length_le (show q.length<=i by omega),Qfo]at hpc
   simp+decide (disch:=try exact D0) only[go_sem]
   exact Qc (by rw[hpc]) rfl
  ·have hk':i<q.length:=by omega
   have htq:=hq.get hk'
   have hpcd:=hpcd hk'
   generalize hy:q[i]=y at *
   rw[hpcd]at hpc
   simp+decide (disch:=try exact D3 h13 hx hy) only[go_sem,h13,hx,hy]
   refine Qa hP (Q26 (s:=x) (t:=y) htp htq hK hE) rfl rfl rfl ?_
   simp+decide (disch:=try exact D3 h13 hx hy) only[go_sem,h13,hx,hy]
   refine Qb (fun hc=> ?_) (fun hc=> ?_)
   ·rw[if_pos hc]at hpc
    simp+decide (disch:=try exact D0) only[go_sem]
    exact Qc (by rw[hpc]) rfl
   ·rw[if_neg hc]at hpc
    simp+decide (disch:=try exact D1 h13) only[go_sem,h13]
    refine Qo (p.length-(i+1)) (by omega) ⟨i+1,rfl,by omega,by omega,hpc,?_⟩
    simp+decide (disch:=try exact D0) only[go_sem]
 ·obtain rfl:i=p.length:=by omega
  rw[List.drop_of_length_le (Nat.le_refl _),Ql0]at hpc
  simp+decide (disch:=try exact D0) only[go_sem]
  refine Qb (fun hk=> ?_) (fun hk=> ?_)
  ·rw[if_neg (by rw[List.length_drop];omega)]at hpc
   simp+decide (disch:=try exact D0) only[go_sem]
   exact Qc (by rw[hpc]) rfl
  ·rw[if_pos (by rw[List.length_drop];omega)]at hpc
   simp+decide (disch:=try exact D0) only[go_sem]
   exact Qc (by rw[hpc]) rfl
theorem Q6v{p q:List Tm}{K E:Nat}(hp:PB K E p)(hq:PB K E q)(hK:K<=2^33)(hE:E<=2^38)(hlp:p.length<=2^36)(hlq:q.length<=2^36):Qd Tryz.prog 169 [PV.poly p,PV.poly q] (· = .int .i64 (Qfo p q)):=by
 refine Qf Qq Tryz.func169 rfl Qak3 (by simp[c169]) fun C hP=> ?_;simp only[c169,Zo,Zg,Zm,Zc,Zf,Zl,Zh,Zs,Zi,Zb,Zk,Zn,Zu,Zq,Zr,Zz]
 simp+decide (disch:=try exact D0) only[go_sem]
 refine Qa hP (Qqu hp hq hK hE hlp hlq) rfl rfl rfl ?_
 simp+decide (disch:=try exact D0) only[go_sem]
 exact Qc rfl rfl
theorem Q08{p q:List Tm}{K E:Nat}(hp:PB K E p)(hq:PB K E q)(hK:K<=2^33)(hE:E<=2^38)(hlp:p.length<=2^36)(hlq:q.length<=2^36):Qd Tryz.prog 97 [PV.poly p,PV.poly q] (· = .bool (decide (p=q))):=by
 refine Qf Qq Tryz.func97 rfl Qaph (by simp[c97]) fun C hP=> ?_;simp only[c97,Zo,Zg,Zm,Zc,Zf,Zl,Zh,Zs,Zi,Zb,Zk,Zn,Zu,Zq,Zr,Zz]
 simp+decide (disch:=try exact D0) only[go_sem]
 refine Qa hP (Q6v hp hq hK hE hlp hlq) rfl rfl rfl ?_
 simp+decide (disch:=try exact D0) only[go_sem]
 exact Qc (congrArg PV.bool (decide_eq_decide.2 (Qwd hp.last hq.last))) rfl
theorem RB.raw{k:Nat}{t:RTm}(h:RB k t)(hk:1<=k):Raw k t.n t.a t.d:=⟨h.r.1,h.r.2.1,h.r.2.2.1,h.r.2.2.2,hk⟩
theorem Qalr{s t:RTm}{E:Nat}(hs:MB E s.m)(ht:MB E t.m)(hE:E<=2^38):Qd Tryz.prog 136 [PV.rterm s,PV.rterm t] (· = .int .i64 (Qau s.m t.m)):=by
 refine Qf Qq Tryz.func136 rfl Q4m (by simp[Q00]) fun C hP=> ?_;simp only[Q00,Zo,Zg,Zm,Zc,Zf,Zl,Zh,Zs,Zi,Zb,Zk,Zn,Zu,Zq,Zr,Zz]
 simp+decide (disch:=try exact D0) only[go_sem]
 refine Qa hP (Qpa (o:=0) hs ht (by omega)) rfl rfl rfl ?_
 simp+decide (disch:=try exact D0) only[go_sem]
 exact Qc (by rw[Qqk]) rfl
theorem Qsj{l:List RTm}{k:Nat}(hb:∀t∈l,RB k t)(hk1:1<=k)(hk:k<2^36)(hll:l.length<2^40):Qd Tryz.prog 72 [PV.rpoly l] (· = .bool (Qcx l)):=by
 have hiff:=Qtb l
 have bad:∀ {b:Bool},(b=true->False)->b=false:=fun {b} h=>by cases b<;>simp_all
 refine Qf Qq Tryz.func72 rfl Qapf (by simp[c72]) fun C hP=> ?_;simp only[c72,Zo,Zg,Zm,Zc,Zf,Zl,Zh,Zs,Zi,Zb,Zk,Zn,Zu,Zq,Zr,Zz]
 simp+decide (disch:=try exact D0) only[go_sem]
 refine Qz (by repeat (first|exact Qn|exact Qi|exact Qj|exact Qk|exact Ql|apply Qh|apply Qm|apply Qt|apply Qx|apply Qy|apply Qg)) [(2,4),(7,42)] [4] (fun n J hp=>∃i,n=l.length-i/\i<=l.length/\(∀j (h:j<l.length),j<i->rOk l[j]=true)/\(∀j (h:j+1<l.length),j+1<i->0<Qau l[j].m l[j+1].m)/\J 7= .int .i64 (i:Nat)) l.length ?_ ?_
 ·refine⟨0,rfl,by omega,by omega,by omega,?_⟩
  simp+decide (disch:=try exact D0) only[go_sem]
  rfl
 rintro _ J h ⟨i,rfl,hi,h1,h2,h7⟩
 simp+decide (disch:=try exact D1 h7) only[go_sem,h7]
 refine Qb (fun hg=> ?_) (fun hg=> ?_)
 ·have hi':i<l.length:=by omega
  have hbt:=hb _ (List.getElem_mem hi')
  have hr:=(RB.raw hbt hk1).rs
  have hml:=hbt.l
  have hbadt:Qcx l=true->rOk l[i]=true:=fun h=>(hiff.1 h).1 i hi'
  have hbadc:∀(j:Nat)(hj:j+1=i),Qcx l=true->0<Qau (l[j]'(by omega)).m l[i].m:=fun j hj h=>by subst hj;exact(hiff.1 h).2 j hi'
  have hadd1:rOk l[i]=true->∀j (h:j<l.length),j<i+1->rOk l[j]=true:=fun h j hj hji=>by
   by_cases e:j=i
   ·subst e;exact h
   ·exact h1 j hj (by omega)
  have hprev:∀(j:Nat)(hj:j+1=i),MB 1048576 (l[j]'(by omega)).m:=fun j hj=>by
   have:=h1 j (by omega) (by omega)
   simp only[rOk,Bool.and_eq_true]at this
   exact MB.ofOk this.2.2
  have hadd2:(∀(j:Nat)(hj:j+1=i),0<Qau (l[j]'(by omega)).m l[i].m)->∀j (h:j+1<l.length),j+1<i+1->0<Qau l[j].m l[j+1].m:=fun h j hj hji=>by
   by_cases e:j+1=i
   ·subst e;exact h j rfl
   ·exact h2 j hj (by omega)
  generalize hx:l[i]=x at *
  have hr':rs (rv x.n x.a x.d)<2^36:=by omega
  simp+decide (disch:=try exact D2 h7 hx) only[go_sem,h7,hx]
  refine Qa hP (Qsf (RB.raw hbt hk1) hk) rfl rfl rfl ?_
  simp+decide (disch:=try exact D1 h7) only[go_sem,h7]
  cases hok:Qf3 x.n x.a x.d
  ·have hf:Qcx l=false:=bad fun h=>by have:=hbadt h;simp[rOk,hok]at this
   simp+decide (disch:=first|omega|rfl|(simp+decide only[go_sem,h7,Bool.not_false]<;>rfl)|fail) only[go_sem,h7,Bool.not_false]
   exact Qc (by rw[hf]) rfl
  simp+decide (disch:=first|omega|rfl|(simp+decide only[go_sem,h7,Bool.not_true]<;>rfl)|fail) only[go_sem,h7,Bool.not_true]
  refine Qa hP (Qk3 (RB.raw hbt hk1) hk) rfl rfl rfl ?_
  simp+decide (disch:=try exact D1 h7) only[go_sem,h7]
  refine Qal (fun hz=> ?_) (fun hz=> ?_)
  ·have hf:Qcx l=false:=bad fun h=>by have:=hbadt h;simp[rOk,RTm.q,Qav.1 hz]at this
   simp+decide (disch:=try exact D1 h7) only[go_sem,h7]
   exact Qc (by rw[hf]) rfl
  simp+decide (disch:=try exact D1 h7) only[go_sem,h7]
  refine Qa hP (Qgz (by omega)) rfl rfl rfl ?_
  simp+decide (disch:=try exact D1 h7) only[go_sem,h7]
  cases hmo:Qaj x.m
  ·have hf:Qcx l=false:=bad fun h=>by have:=hbadt h;simp[rOk,hmo]at this
   simp+decide (disch:=first|omega|rfl|(simp+decide only[go_sem,h7,Bool.not_false]<;>rfl)|fail) only[go_sem,h7,Bool.not_false]
   exact Qc (by rw[hf]) rfl
  have hrok:rOk x=true:=by
   simp only[rOk,hok,hmo,Bool.true_and,Bool.and_true,decide_eq_true_eq]
   exact fun h=>hz (Qav.2 h)
  simp+decide (disch:=first|omega|rfl|(simp+decide only[go_sem,h7,Bool.not_true]<;>rfl)|fail) only[go_sem,h7,Bool.not_true]
  refine Qaw (fun hi0=> ?_) (fun hi0=> ?_)
  ·obtain⟨j,rfl⟩:∃j,i=j+1:=⟨i-1,by omega⟩
   have e:((j+1:Nat):Int)-1=j:=by omega
   have hjl:j<l.length:=by omega
   have hpj:=hprev j rfl
   have hbadj:=hbadc j rfl
   have hadd2':0<Qau (l[j]'(by omega)).m x.m->∀j2 (h:j2+1<l.length),j2+1<j+1+1->0<Qau l[j2].m l[j2+1].m:=fun h=>hadd2 (fun j' hj'=>by
    obtain rfl:j'=j:=by omega
    exact h)
   generalize hy:l[j]'(by omega)=y at *
   simp+decide (disch:=try exact D3 h7 e hy) only[go_sem,h7,e,hy]
   refine Qa hP (Qalr (s:=y) (t:=x) hpj (MB.ofOk hmo) (by omega)) rfl rfl rfl ?_
   simp+decide (disch:=try exact D2 h7 e) only[go_sem,h7,e]
   refine Qb (fun hc=> ?_) (fun hc=> ?_)
   ·have hf:Qcx l=false:=bad fun h=>by have:=hbadj h;omega
    simp+decide (disch:=try exact D1 h7) only[go_sem,h7]
    exact Qc (by rw[hf]) rfl
   ·simp+decide (disch:=try exact D1 h7) only[go_sem,h7]
    refine Qo (l.length-(j+1+1)) (by omega) ⟨j+1+1,rfl,by omega,hadd1 hrok,hadd2' (by omega),?_⟩
    simp+decide (disch:=try exact D0) only[go_sem]
  ·obtain rfl:i=0:=by omega
   simp+decide (disch:=try exact D1 h7) only[go_sem,h7]
   refine Qo (l.length-1) (by omega) ⟨1,rfl,by omega,hadd1 hrok,hadd2 (fun j hj=>by omega),?_⟩
   simp+decide (disch:=try exact D0) only[go_sem]
 ·obtain rfl:i=l.length:=by omega
  have hf:Qcx l=true:=hiff.2 ⟨fun j hj=>h1 j hj hj,fun j hj=>h2 j hj hj⟩
  simp+decide (disch:=try exact D0) only[go_sem]
  exact Qc (by rw[hf]) rfl
def c146:SFn:=⟨24,[.t 2],Zr (Zo (.mv 2 (.c .nilS)) .nil)<|Zr (Zm 5 0<|
 Zn 6 5<|
 Zm 3 6 .nil)<| .seq (.block 0<| .loop<| .seq (Zr (Zm 7 3<|
 Zk 8 .gtr 7 0<|
 Zm 9 8<|
 Zg 9 true (.mv 10 (.t 0))<|
 Zg 9 true (.mv 11 (.t 3))<|
 Zg 9 true (.bin 12 .sub false (.t 11) (.c (Zz 1)))<|
 Zg 9 true (.idx 13 1 (.t 10) (.t 12))<|
 Zg 9 true (.ld 14 1 false (.t 13))<|
 Zg 9 true (.bin 15 .eql false (.t 14) (.c (.int .u16 0)))<|
 Zo (.pick 16 (.t 9) (.t 15) (.c (.bool false))) .nil)<| .cond (.t 16) .skip (.exit 0))<| .block 1<| .rg (Zm 17 3<|
 Zk 18 .sub 17 1<|
 Zm 3 18 .nil))<|Zr (Zo (.mv 4 (.c .nilS)) .nil)<|Zr (Zm 19 4<|
 Zm 20 0<|
 Zm 21 3<|
 Zo (.sl 22 1 (.t 20) none (some (.t 21)) none)<|
 Zo (.app 23 1 2 155 (.t 19) (.t 22))<|
 Zm 2 23 .nil) .ret⟩
theorem Qals:Qe Tryz.prog Tryz.f146=some c146:=by kernel_rfl
def c84:SFn:=⟨15,[.t 2],Zr (Zo (.mv 2 (.c .nilS)) .nil)<|Zr (Zo (.mv 3 (.c .nilS)) .nil)<| .seq (.block 0<| .loop<| .seq (Zr (Zm 4 0<|
 Zo (.bin 5 .gtr false (.t 4) (.c (.int .u64 0))) .nil)<| .cond (.t 5) .skip (.exit 0))<| .block 1<|Zr (Zm 6 3<|
 Zm 7 0<|
 Zo (.bin 8 .rem false (.t 7) (.c (.int .u64 65536)))<|
 Zo (.conv 9 .u16 (.t 8))<|
 Zo (.bs 10 1 155 [.t 9])<|
 Zo (.app 11 1 2 155 (.t 6) (.t 10))<|
 Zm 3 11 .nil)<| .rg (Zm 12 0<|
 Zo (.bin 13 .quo false (.t 12) (.c (.int .u64 65536)))<|
 Zm 0 13 .nil))<|Zr (Zm 14 3<|
 Zm 2 14 .nil) .ret⟩
theorem Qaqa:Qe Tryz.prog Tryz.f84=some c84:=by kernel_rfl
def c197:SFn:=⟨21,[.t 2],Zr (Zo (.mv 2 (.c (.int .u64 0))) .nil)<|Zr (Zo (.mv 3 (.c (.int .u64 0))) .nil)<| .seq (Zr (Zm 5 0<|
 Zn 6 5<|
 Zk 7 .sub 6 1<|
 Zm 4 7 .nil)<| .block 0<| .loop<| .seq (Zr (Zm 8 4<|
 Zk 9 .geq 8 0 .nil)<| .cond (.t 9) .skip (.exit 0))<| .seq (.block 1<| .rg (Zm 12 3<|
 Zo (.bin 13 .mul false (.t 12) (.c (.int .u64 65536)))<|
 Zm 14 0<|
 Zm 15 4<|
 Zi 16 1 14 15<|
 Zl 17 1 16<|
 Zo (.conv 18 .u64 (.t 17))<|
 Zb 19 .add 13 18<|
 Zm 3 19 .nil))<| .rg (Zm 10 4<|
 Zk 11 .sub 10 1<|
 Zm 4 11 .nil))<|Zr (Zm 20 3<|
 Zm 2 20 .nil) .ret⟩
theorem Qalt:Qe Tryz.prog Tryz.f197=some c197:=by kernel_rfl
def c200:SFn:=⟨14,[.t 4],Zr (Zc 4 0 .nil)<| .seq (Zr (Zm 5 1<|
 Zm 6 0<|
 Zn 7 6<|
 Zb 8 .lss 5 7 .nil)<| .cond (.t 8) (Zr (Zm 9 0<|
 Zm 10 1<|
 Zi 11 1 9 10<|
 Zl 12 1 11<|
 Zo (.conv 13 .i64 (.t 12))<|
 Zm 4 13 .nil) .ret) .skip)<|Zr (Zc 4 0 .nil) .ret⟩
theorem Qalu:Qe Tryz.prog Tryz.f200=some c200:=by kernel_rfl
def c215:SFn:=⟨30,[.t 4],Zr (Zc 4 0 .nil)<| .seq (Zr (Zm 6 0<|
 Zn 7 6<|
 Zm 8 1<|
 Zn 9 8<|
 Zo (.mx 10 (.t 7) (.t 9))<|
 Zk 11 .sub 10 1<|
 Zm 5 11 .nil)<| .block 0<| .loop<| .seq (Zr (Zm 12 5<|
 Zk 13 .geq 12 0 .nil)<| .cond (.t 13) .skip (.exit 0))<| .seq (.block 1<| .seq (Zr (Zm 16 0<|
 Zm 17 5<|
 Zq 18 false 200 [.t 16,.t 17]<|
 Zm 19 1<|
 Zm 20 5<|
 Zq 21 false 200 [.t 19,.t 20]<|
 Zb 22 .lss 18 21 .nil)<| .cond (.t 22) (Zr (Zc 4 (-1) .nil) .ret) .skip)<|Zr (Zm 23 0<|
 Zm 24 5<|
 Zq 25 false 200 [.t 23,.t 24]<|
 Zm 26 1<|
 Zm 27 5<|
 Zq 28 false 200 [.t 26,.t 27]<|
 Zb 29 .gtr 25 28 .nil)<| .cond (.t 29) (Zr (Zc 4 1 .nil) .ret) .skip)<| .rg (Zm 14 5<|
 Zk 15 .sub 14 1<|
 Zm 5 15 .nil))<|Zr (Zc 4 0 .nil) .ret⟩
theorem Qalv:Qe Tryz.prog Tryz.f215=some c215:=by kernel_rfl
def c184:SFn:=⟨44,[.t 4],Zr (Zo (.mv 4 (.c .nilS)) .nil)<|Zr (Zo (.mv 5 (.c .nilS)) .nil)<|Zr (Zc 6 0 .nil)<| .seq (Zr (Zc 7 0 .nil)<| .block 0<| .loop<| .seq (Zr (Zm 9 7<|
 Zm 10 0<|
 Zn 11 10<|
 Zb 12 .lss 9 11<|
 Zm 13 12<|
 Zg 13 false (.mv 14 (.t 7))<|
 Zg 13 false (.mv 15 (.t 1))<|
 Zg 13 false (.len 16 (.t 15))<|
 Zg 13 false (.bin 17 .lss false (.t 14) (.t 16))<|
 Zo (.pick 18 (.t 13) (.c (.bool true)) (.t 17))<|
 Zm 19 18<|
 Zg 19 false (.mv 20 (.t 6))<|
 Zg 19 false (.bin 21 .gtr false (.t 20) (.c (Zz 0)))<|
 Zo (.pick 22 (.t 19) (.c (.bool true)) (.t 21)) .nil)<| .cond (.t 22) .skip (.exit 0))<| .seq (.block 1<|Zr (Zm 25 0<|
 Zm 26 7<|
 Zq 27 false 200 [.t 25,.t 26]<|
 Zm 28 1<|
 Zm 29 7<|
 Zq 30 false 200 [.t 28,.t 29]<|
 Zb 31 .add 27 30<|
 Zm 32 6<|
 Zb 33 .add 31 32<|
 Zm 8 33 .nil)<|Zr (Zm 34 5<|
 Zm 35 8<|
 Zk 36 .rem 35 65536<|
 Zo (.conv 37 .u16 (.t 36))<|
 Zo (.bs 38 1 155 [.t 37])<|
 Zo (.app 39 1 2 155 (.t 34) (.t 38))<|
 Zm 5 39 .nil)<| .rg (Zm 40 8<|
 Zk 41 .quo 40 65536<|
 Zm 6 41 .nil))<| .rg (Zm 23 7<|
 Zk 24 .add 23 1<|
 Zm 7 24 .nil))<|Zr (Zm 42 5<|
 Zq 43 false 146 [.t 42]<|
 Zm 4 43 .nil) .ret⟩
theorem Qalw:Qe Tryz.prog Tryz.f184=some c184:=by kernel_rfl
def c199:SFn:=⟨40,[.t 4,.t 5],Zr (Zo (.mv 4 (.c .nilS))<|
 Zc 5 0 .nil)<| .seq (Zr (Zm 10 0<|
 Zm 11 1<|
 Zq 12 false 215 [.t 10,.t 11]<|
 Zk 13 .lss 12 0 .nil)<| .cond (.t 13) (Zr (Zo (.mv 4 (.c .nilS))<|
 Zc 5 2 .nil) .ret) .skip)<|Zr (Zo (.mv 6 (.c .nilS)) .nil)<|Zr (Zc 7 0 .nil)<| .seq (Zr (Zc 8 0 .nil)<| .block 0<| .loop<| .seq (Zr (Zm 14 8<|
 Zm 15 0<|
 Zn 16 15<|
 Zb 17 .lss 14 16 .nil)<| .cond (.t 17) .skip (.exit 0))<| .seq (.block 1<|Zr (Zm 20 0<|
 Zm 21 8<|
 Zq 22 false 200 [.t 20,.t 21]<|
 Zm 23 1<|
 Zm 24 8<|
 Zq 25 false 200 [.t 23,.t 24]<|
 Zb 26 .sub 22 25<|
 Zm 27 7<|
 Zb 28 .sub 26 27<|
 Zm 9 28 .nil)<|Zr (Zc 7 0 .nil)<| .seq (Zr (Zm 29 9<|
 Zk 30 .lss 29 0 .nil)<| .cond (.t 30) (Zr (Zm 31 9<|
 Zk 32 .add 31 65536<|
 Zm 9 32 .nil)<| .rg (Zc 7 1 .nil)) .skip)<| .rg (Zm 33 6<|
 Zm 34 9<|
 Zo (.conv 35 .u16 (.t 34))<|
 Zo (.bs 36 1 155 [.t 35])<|
 Zo (.app 37 1 2 155 (.t 33) (.t 36))<|
 Zm 6 37 .nil))<| .rg (Zm 18 8<|
 Zk 19 .add 18 1<|
 Zm 8 19 .nil))<|Zr (Zm 38 6<|
 Zq 39 false 146 [.t 38]<|
 Zm 4 39<|
 Zc 5 0 .nil) .ret⟩
theorem Qalx:Qe Tryz.prog Tryz.f199=some c199:=by kernel_rfl
def c149:SFn:=⟨65,[.t 4],Zr (Zo (.mv 4 (.c .nilS)) .nil)<|Zr (Zm 10 0<|
 Zn 11 10<|
 Zm 12 1<|
 Zn 13 12<|
 Zb 14 .add 11 13<|
 Zk 15 .add 14 1<|
 Zo (.mk 16 1 2 155 (.int .u16 0) (.t 15) (.t 15))<|
 Zm 5 16 .nil)<| .seq (Zr (Zc 6 0 .nil)<| .block 0<| .loop<| .seq (Zr (Zm 17 6<|
 Zm 18 0<|
 Zn 19 18<|
 Zb 20 .lss 17 19 .nil)<| .cond (.t 20) .skip (.exit 0))<| .seq (.block 1<|Zr (Zo (.mv 7 (.c (.int .u64 0))) .nil)<|Zr (Zc 8 0 .nil)<| .block 2<| .loop<| .seq (Zr (Zm 23 8<|
 Zm 24 1<|
 Zn 25 24<|
 Zb 26 .lss 23 25<|
 Zm 27 26<|
 Zg 27 false (.mv 28 (.t 7))<|
 Zg 27 false (.bin 29 .gtr false (.t 28) (.c (.int .u64 0)))<|
 Zo (.pick 30 (.t 27) (.c (.bool true)) (.t 29)) .nil)<| .cond (.t 30) .skip (.exit 2))<| .seq (.block 3<|Zr (Zm 33 5<|
 Zm 34 6<|
 Zm 35 8<|
 Zb 36 .add 34 35<|
 Zi 37 1 33 36<|
 Zl 38 1 37<|
 Zo (.conv 39 .u64 (.t 38))<|
 Zm 40 0<|
 Zm 41 6<|
 Zi 42 1 40 41<|
 Zl 43 1 42<|
 Zo (.conv 44 .u64 (.t 43))<|
 Zm 45 1<|
 Zm 46 8<|
 Zm 51 7<|
 Zq 47 true 200 [.t 45,.t 46]<|
 Zo (.conv 48 .u64 (.t 47))<|
 Zb 49 .mul 44 48<|
 Zb 50 .add 39 49<|
 Zb 52 .add 50 51<|
 Zm 9 52 .nil)<|Zr (Zm 53 5<|
 Zm 54 6<|
 Zm 55 8<|
 Zb 56 .add 54 55<|
 Zm 57 9<|
 Zo (.bin 58 .rem false (.t 57) (.c (.int .u64 65536)))<|
 Zo (.conv 59 .u16 (.t 58))<|
 Zi 60 1 53 56<|
 Zs 1 60 59 .nil)<| .rg (Zm 61 9<|
 Zo (.bin 62 .quo false (.t 61) (.c (.int .u64 65536)))<|
 Zm 7 62 .nil))<| .rg (Zm 31 8<|
 Zk 32 .add 31 1<|
 Zm 8 32 .nil))<| .rg (Zm 21 6<|
 Zk 22 .add 21 1<|
 Zm 6 22 .nil))<|Zr (Zm 63 5<|
 Zq 64 false 146 [.t 63]<|
 Zm 4 64 .nil) .ret⟩
theorem Qaly:Qe Tryz.prog Tryz.f149=some c149:=by kernel_rfl
def c198:SFn:=⟨27,[.t 4],Zr (Zo (.mv 4 (.c (.int .u64 0))) .nil)<|Zr (Zo (.mv 5 (.c (.int .u64 0)))<|
 Zo (.mv 6 (.c (.int .u64 65535))) .nil)<| .seq (.block 0<| .loop<| .seq (Zr (Zm 8 5<|
 Zm 9 6<|
 Zb 10 .lss 8 9 .nil)<| .cond (.t 10) .skip (.exit 0))<| .block 1<|Zr (Zm 11 5<|
 Zm 12 6<|
 Zb 13 .add 11 12<|
 Zo (.bin 14 .add false (.t 13) (.c (.int .u64 1)))<|
 Zo (.bin 15 .quo false (.t 14) (.c (.int .u64 2)))<|
 Zm 7 15 .nil)<|Zr (Zm 16 1<|
 Zm 17 7<|
 Zq 18 false 84 [.t 17]<|
 Zq 19 false 149 [.t 16,.t 18]<|
 Zm 20 0<|
 Zq 21 false 215 [.t 19,.t 20]<|
 Zk 22 .leq 21 0 .nil)<| .cond (.t 22) (.rg (Zm 23 7<|
 Zm 5 23 .nil)) (.rg (Zm 24 7<|
 Zo (.bin 25 .sub false (.t 24) (.c (.int .u64 1)))<|
 Zm 6 25 .nil)))<|Zr (Zm 26 5<|
 Zm 4 26 .nil) .ret⟩
theorem Qalz:Qe Tryz.prog Tryz.f198=some c198:=by kernel_rfl
def c147:SFn:=⟨73,[.t 4,.t 5,.t 6],Zr (Zo (.mv 4 (.c .nilS))<|
 Zo (.mv 5 (.c .nilS))<|
 Zc 6 0 .nil)<|Zr (Zm 11 0<|
 Zq 12 false 146 [.t 11]<|
 Zm 13 1<|
 Zq 14 false 146 [.t 13]<|
 Zm 0 12<|
 Zm 1 14 .nil)<| .seq (Zr (Zm 15 1<|
 Zn 16 15<|
 Zk 17 .eql 16 0 .nil)<| .cond (.t 17) (Zr (Zo (.mv 4 (.c .nilS))<|
 Zo (.mv 5 (.c .nilS))<|
 Zc 6 3 .nil) .ret) .skip)<| .seq (Zr (Zm 18 0<|
 Zn 19 18<|
 Zk 20 .leq 19 4<|
 Zm 21 20<|
 Zg 21 true (.mv 22 (.t 1))<|
 Zg 21 true (.len 23 (.t 22))<|
 Zg 21 true (.bin 24 .leq false (.t 23) (.c (Zz 4)))<|
 Zo (.pick 25 (.t 21) (.t 24) (.c (.bool false))) .nil)<| .cond (.t 25) (Zr (Zm 26 0<|
 Zq 27 false 197 [.t 26]<|
 Zm 28 1<|
 Zq 29 false 197 [.t 28]<|
 Zb 30 .quo 27 29<|
 Zq 31 false 84 [.t 30]<|
 Zm 32 0<|
 Zq 33 false 197 [.t 32]<|
 Zm 34 1<|
 Zq 35 false 197 [.t 34]<|
 Zb 36 .rem 33 35<|
 Zq 37 false 84 [.t 36]<|
 Zm 4 31<|
 Zm 5 37<|
 Zc 6 0 .nil) .ret) .skip)<|Zr (Zo (.mv 7 (.c .nilS))<|
 Zo (.mv 8 (.c .nilS)) .nil)<| .seq (Zr (Zm 38 0<|
 Zn 39 38<|
 Zk 40 .sub 39 1<|
 Zm 9 40 .nil)<| .block 0<| .loop<| .seq (Zr (Zm 41 9<|
 Zk 42 .geq 41 0 .nil)<| .cond (.t 42) .skip (.exit 0))<| .seq (.block 1<|Zr (Zm 45 0<|
 Zm 46 9<|
 Zi 47 1 45 46<|
 Zl 48 1 47<|
 Zo (.bs 49 1 155 [.t 48])<|
 Zm 50 8<|
 Zo (.app 51 1 2 155 (.t 49) (.t 50))<|
 Zq 52 false 146 [.t 51]<|
 Zm 8 52 .nil)<|Zr (Zm 53 8<|
 Zm 54 1<|
 Zq 55 false 198 [.t 53,.t 54]<|
 Zm 10 55 .nil)<|Zr (Zm 56 10<|
 Zo (.conv 57 .u16 (.t 56))<|
 Zo (.bs 58 1 155 [.t 57])<|
 Zm 59 7<|
 Zo (.app 60 1 2 155 (.t 58) (.t 59))<|
 Zm 7 60 .nil)<| .rg (Zm 62 8<|
 Zm 63 1<|
 Zm 64 10<|
 Zq 65 false 84 [.t 64]<|
 Zq 66 false 149 [.t 63,.t 65]<|
 Zq 67 false 199 [.t 62,.t 66]<|
 Zm 61 67<|
 Zo (.ext 68 (.t 61) 0)<|
 Zo (.ext 69 (.t 61) 1)<|
 Zm 8 68 .nil))<| .rg (Zm 43 9<|
 Zk 44 .sub 43 1<|
 Zm 9 44 .nil))<|Zr (Zm 70 7<|
 Zq 71 false 146 [.t 70]<|
 Zm 72 8<|
 Zm 4 71<|
 Zm 5 72<|
 Zc 6 0 .nil) .ret⟩
theorem Qal0:Qe Tryz.prog Tryz.f147=some c147:=by kernel_rfl
def c83:SFn:=⟨25,[.t 4],Zr (Zo (.mv 4 (.c .nilS)) .nil)<|Zr (Zm 8 0<|
 Zq 9 false 146 [.t 8]<|
 Zm 10 1<|
 Zq 11 false 146 [.t 10]<|
 Zm 0 9<|
 Zm 1 11 .nil)<| .seq (.block 0<| .loop<| .seq (Zr (Zm 12 1<|
 Zn 13 12<|
 Zk 14 .gtr 13 0 .nil)<| .cond (.t 14) .skip (.exit 0))<| .block 1<|Zr (Zm 16 0<|
 Zm 17 1<|
 Zq 18 false 147 [.t 16,.t 17]<|
 Zm 15 18<|
 Zo (.ext 19 (.t 15) 0)<|
 Zo (.ext 20 (.t 15) 1)<|
 Zo (.ext 21 (.t 15) 2)<|
 Zm 5 19<|
 Zm 6 20<|
 Zm 7 21 .nil)<| .rg (Zm 22 1<|
 Zm 23 6<|
 Zm 0 22<|
 Zm 1 23 .nil))<|Zr (Zm 24 0<|
 Zm 4 24 .nil) .ret⟩
theorem Qaqb:Qe Tryz.prog Tryz.f83=some c83:=by kernel_rfl
def c81:SFn:=⟨15,[.t 2],Zr (Zo (.mv 2 (.c (.bool false))) .nil)<|Zr (Zm 3 0<|
 Zn 4 3<|
 Zk 5 .eql 4 0<|
 Zm 6 5<|
 Zg 6 false (.mv 7 (.t 0))<|
 Zg 6 false (.mv 8 (.t 0))<|
 Zg 6 false (.len 9 (.t 8))<|
 Zg 6 false (.bin 10 .sub false (.t 9) (.c (Zz 1)))<|
 Zg 6 false (.idx 11 1 (.t 7) (.t 10))<|
 Zg 6 false (.ld 12 1 false (.t 11))<|
 Zg 6 false (.bin 13 .neq false (.t 12) (.c (.int .u16 0)))<|
 Zo (.pick 14 (.t 6) (.c (.bool true)) (.t 13))<|
 Zm 2 14 .nil) .ret⟩
theorem Qaqc:Qe Tryz.prog Tryz.f81=some c81:=by kernel_rfl
def c82:SFn:=⟨26,[.t 4],Zr (Zo (.mv 4 (.c (.bool false))) .nil)<| .seq (Zr (Zm 6 0<|
 Zn 7 6<|
 Zm 8 1<|
 Zn 9 8<|
 Zb 10 .neq 7 9 .nil)<| .cond (.t 10) (Zr (Zo (.mv 4 (.c (.bool false))) .nil) .ret) .skip)<| .seq (Zr (Zc 5 0 .nil)<| .block 0<| .loop<| .seq (Zr (Zm 11 5<|
 Zm 12 0<|
 Zn 13 12<|
 Zb 14 .lss 11 13 .nil)<| .cond (.t 14) .skip (.exit 0))<| .seq (.block 1<|Zr (Zm 17 0<|
 Zm 18 5<|
 Zi 19 1 17 18<|
 Zl 20 1 19<|
 Zm 21 1<|
 Zm 22 5<|
 Zi 23 1 21 22<|
 Zl 24 1 23<|
 Zb 25 .neq 20 24 .nil)<| .cond (.t 25) (Zr (Zo (.mv 4 (.c (.bool false))) .nil) .ret) .skip)<| .rg (Zm 15 5<|
 Zk 16 .add 15 1<|
 Zm 5 16 .nil))<|Zr (Zo (.mv 4 (.c (.bool true))) .nil) .ret⟩
theorem Qaqd:Qe Tryz.prog Tryz.f82=some c82:=by kernel_rfl
def c80:SFn:=⟨17,[.t 2],Zr (Zo (.box 1 2 49 (.t 0))<|
 Zo (.mv 2 (.c (.bool false))) .nil)<|Zr (Zf 3 1 1<|
 Zl 4 1 3<|
 Zq 5 false 81 [.t 4]<|
 Zm 6 5<|
 Zg 6 true (.fld 7 0 (.t 1))<|
 Zg 6 true (.ld 8 1 false (.t 7))<|
 Zg 6 true (.mv 9 (.t 8))<|
 Zg 9 true (.fld 10 1 (.t 1))<|
 Zg 9 true (.ld 11 1 false (.t 10))<|
 Zg 9 true (.len 12 (.t 11))<|
 Zg 9 true (.bin 13 .eql false (.t 12) (.c (Zz 0)))<|
 Zg 6 true (.pick 14 (.t 9) (.t 13) (.c (.bool false)))<|
 Zg 6 true (.un 15 .not (.t 14))<|
 Zo (.pick 16 (.t 6) (.t 15) (.c (.bool false)))<|
 Zm 2 16 .nil) .ret⟩
theorem Qaqe:Qe Tryz.prog Tryz.f80=some c80:=by kernel_rfl
def c183:SFn:=⟨15,[.cell 4 2 true],Zr (Zo (.alloc 4 2 49 (.agg [.bool false,.nilS])) .nil)<|Zr (Zm 5 1<|
 Zq 6 false 146 [.t 5]<|
 Zm 1 6 .nil)<|Zr (Zm 7 0<|
 Zm 8 7<|
 Zg 8 true (.mv 9 (.t 1))<|
 Zg 8 true (.len 10 (.t 9))<|
 Zg 8 true (.bin 11 .gtr false (.t 10) (.c (Zz 0)))<|
 Zo (.pick 12 (.t 8) (.t 11) (.c (.bool false)))<|
 Zm 13 1<|
 Zo (.bld 14 [.bool false,.nilS] [(0,1,.t 12),(1,1,.t 13)])<|
 Zs 2 4 14 .nil) .ret⟩
theorem Qal1:Qe Tryz.prog Tryz.f183=some c183:=by kernel_rfl
def c152:SFn:=⟨8,[.cell 2 2 true],Zr (Zo (.box 1 2 49 (.t 0))<|
 Zo (.alloc 2 2 49 (.agg [.bool false,.nilS])) .nil)<|Zr (Zf 3 0 1<|
 Zl 4 1 3<|
 Zf 5 1 1<|
 Zl 6 1 5<|
 Zq 7 false 183 [.t 4,.t 6]<|
 Zs 2 2 7 .nil) .ret⟩
theorem Qal2:Qe Tryz.prog Tryz.f152=some c152:=by kernel_rfl
def c120:SFn:=⟨17,[.cell 2 2 true],Zr (Zo (.alloc 2 2 49 (.agg [.bool false,.nilS])) .nil)<| .seq (Zr (Zm 3 0<|
 Zk 4 .lss 3 0 .nil)<| .cond (.t 4) (Zr (Zm 5 0<|
 Zk 6 .add 5 1<|
 Zo (.un 7 .neg (.t 6))<|
 Zo (.conv 8 .u64 (.t 7))<|
 Zq 9 false 84 [.t 8]<|
 Zq 10 false 84 [.c (.int .u64 1)]<|
 Zq 11 false 184 [.t 9,.t 10]<|
 Zq 12 false 183 [.c (.bool true),.t 11]<|
 Zs 2 2 12 .nil) .ret) .skip)<|Zr (Zm 13 0<|
 Zo (.conv 14 .u64 (.t 13))<|
 Zq 15 false 84 [.t 14]<|
 Zq 16 false 183 [.c (.bool false),.t 15]<|
 Zs 2 2 16 .nil) .ret⟩
theorem Qal3:Qe Tryz.prog Tryz.f120=some c120:=by kernel_rfl
def c88:SFn:=⟨11,[.t 2],Zr (Zo (.box 1 2 49 (.t 0))<|
 Zc 2 0 .nil)<|Zr (Zh 3 2 1<|
 Zq 4 false 152 [.t 3]<|
 Zs 2 1 4 .nil)<| .seq (Zr (Zf 5 1 1<|
 Zl 6 1 5<|
 Zn 7 6<|
 Zk 8 .eql 7 0 .nil)<| .cond (.t 8) (Zr (Zc 2 0 .nil) .ret) .skip)<| .seq (Zr (Zf 9 0 1<|
 Zl 10 1 9 .nil)<| .cond (.t 10) (Zr (Zc 2 (-1) .nil) .ret) .skip)<|Zr (Zc 2 1 .nil) .ret⟩
theorem Qaqf:Qe Tryz.prog Tryz.f88=some c88:=by kernel_rfl
def c182:SFn:=⟨38,[.t 4],Zr (Zo (.box 2 2 49 (.t 0))<|
 Zo (.box 3 2 49 (.t 1))<|
 Zc 4 0 .nil)<|Zr (Zh 5 2 2<|
 Zh 7 2 3<|
 Zq 6 true 152 [.t 5]<|
 Zq 8 true 152 [.t 7]<|
 Zs 2 2 6<|
 Zs 2 3 8 .nil)<| .seq (.block 0<|Zr (Zf 10 0 2<|
 Zl 11 1 10<|
 Zm 12 11<|
 Zg 12 true (.fld 13 0 (.t 3))<|
 Zg 12 true (.ld 14 1 false (.t 13))<|
 Zg 12 true (.un 15 .not (.t 14))<|
 Zo (.pick 16 (.t 12) (.t 15) (.c (.bool false)))<|
 Zm 9 16 .nil)<| .cond (.t 9) (Zr (Zc 4 (-1) .nil) .ret) (Zr (Zf 18 0 3<|
 Zl 19 1 18<|
 Zm 20 19<|
 Zg 20 true (.fld 21 0 (.t 2))<|
 Zg 20 true (.ld 22 1 false (.t 21))<|
 Zg 20 true (.un 23 .not (.t 22))<|
 Zo (.pick 24 (.t 20) (.t 23) (.c (.bool false)))<|
 Zm 17 24 .nil)<| .cond (.t 17) (Zr (Zc 4 1 .nil) .ret) (Zr (Zf 26 0 2<|
 Zl 27 1 26<|
 Zm 25 27 .nil)<| .cond (.t 25) (Zr (Zf 28 1 3<|
 Zl 29 1 28<|
 Zf 30 1 2<|
 Zl 31 1 30<|
 Zq 32 false 215 [.t 29,.t 31]<|
 Zm 4 32 .nil) .ret) .skip)))<|Zr (Zf 33 1 2<|
 Zl 34 1 33<|
 Zf 35 1 3<|
 Zl 36 1 35<|
 Zq 37 false 215 [.t 34,.t 36]<|
 Zm 4 37 .nil) .ret⟩
theorem Qal4:Qe Tryz.prog Tryz.f182=some c182:=by kernel_rfl
def c130:SFn:=⟨9,[.cell 2 2 true],Zr (Zo (.box 1 2 49 (.t 0))<|
 Zo (.alloc 2 2 49 (.agg [.bool false,.nilS])) .nil)<|Zr (Zf 3 0 1<|
 Zl 4 1 3<|
 Zu 5 4<|
 Zf 6 1 1<|
 Zl 7 1 6<|
 Zq 8 false 183 [.t 5,.t 7]<|
 Zs 2 2 8 .nil) .ret⟩
theorem Qal5:Qe Tryz.prog Tryz.f130=some c130:=by kernel_rfl
def c150:SFn:=⟨48,[.cell 4 2 true],Zr (Zo (.box 2 2 49 (.t 0))<|
 Zo (.box 3 2 49 (.t 1))<|
 Zo (.alloc 4 2 49 (.agg [.bool false,.nilS])) .nil)<| .seq (Zr (Zf 9 0 2<|
 Zl 10 1 9<|
 Zf 11 0 3<|
 Zl 12 1 11<|
 Zo (.bin 13 .eql true (.t 10) (.t 12)) .nil)<| .cond (.t 13) (Zr (Zf 14 0 2<|
 Zl 15 1 14<|
 Zf 16 1 2<|
 Zl 17 1 16<|
 Zf 18 1 3<|
 Zl 19 1 18<|
 Zq 20 true 184 [.t 17,.t 19]<|
 Zq 21 true 183 [.t 15,.t 20]<|
 Zs 2 4 21 .nil) .ret) .skip)<| .seq (Zr (Zf 23 1 2<|
 Zl 24 1 23<|
 Zf 25 1 3<|
 Zl 26 1 25<|
 Zq 27 false 199 [.t 24,.t 26]<|
 Zm 22 27<|
 Zo (.ext 28 (.t 22) 0)<|
 Zo (.ext 29 (.t 22) 1)<|
 Zm 5 28<|
 Zm 6 29 .nil)<|Zr (Zm 30 6<|
 Zk 31 .eql 30 0 .nil)<| .cond (.t 31) (Zr (Zf 32 0 2<|
 Zl 33 1 32<|
 Zm 34 5<|
 Zq 35 false 183 [.t 33,.t 34]<|
 Zs 2 4 35 .nil) .ret) .skip)<|Zr (Zf 37 1 3<|
 Zl 38 1 37<|
 Zf 39 1 2<|
 Zl 40 1 39<|
 Zq 41 false 199 [.t 38,.t 40]<|
 Zm 36 41<|
 Zo (.ext 42 (.t 36) 0)<|
 Zo (.ext 43 (.t 36) 1)<|
 Zm 7 42<|
 Zm 8 43 .nil)<|Zr (Zf 44 0 3<|
 Zl 45 1 44<|
 Zm 46 7<|
 Zq 47 false 183 [.t 45,.t 46]<|
 Zs 2 4 47 .nil) .ret⟩
theorem Qal6:Qe Tryz.prog Tryz.f150=some c150:=by kernel_rfl
def c148:SFn:=⟨16,[.cell 4 2 true],Zr (Zo (.box 2 2 49 (.t 0))<|
 Zo (.box 3 2 49 (.t 1))<|
 Zo (.alloc 4 2 49 (.agg [.bool false,.nilS])) .nil)<|Zr (Zf 5 0 2<|
 Zl 6 1 5<|
 Zf 7 0 3<|
 Zl 8 1 7<|
 Zo (.bin 9 .neq true (.t 6) (.t 8))<|
 Zf 10 1 2<|
 Zl 11 1 10<|
 Zf 12 1 3<|
 Zl 13 1 12<|
 Zq 14 true 149 [.t 11,.t 13]<|
 Zq 15 true 183 [.t 9,.t 14]<|
 Zs 2 4 15 .nil) .ret⟩
theorem Qal7:Qe Tryz.prog Tryz.f148=some c148:=by kernel_rfl
def c25:SFn:=⟨27,[.t 2],Zr (Zo (.box 1 3 51 (.t 0))<|
 Zo (.mv 2 (.c (.bool false))) .nil)<|Zr (Zf 3 0 1<|
 Zh 4 2 3<|
 Zq 5 false 80 [.t 4]<|
 Zm 6 5<|
 Zg 6 true (.fld 7 2 (.t 1))<|
 Zg 6 true (.ld 8 1 false (.t 7))<|
 Zg 6 true (.call (some 9) false (.c (.fn 81 [] [])) [.t 8])<|
 Zo (.pick 10 (.t 6) (.t 9) (.c (.bool false)))<|
 Zm 11 10<|
 Zg 11 true (.fld 12 0 (.t 1))<|
 Zg 11 true (.fld 13 1 (.t 12))<|
 Zg 11 true (.ld 14 1 false (.t 13))<|
 Zg 11 true (.fld 15 2 (.t 1))<|
 Zg 11 true (.ld 16 1 false (.t 15))<|
 Zg 11 true (.call (some 17) false (.c (.fn 83 [] [])) [.t 14,.t 16])<|
 Zg 11 true (.call (some 18) false (.c (.fn 84 [] [])) [.c (.int .u64 1)])<|
 Zg 11 true (.call (some 19) false (.c (.fn 82 [] [])) [.t 17,.t 18])<|
 Zo (.pick 20 (.t 11) (.t 19) (.c (.bool false)))<|
 Zm 21 20<|
 Zg 21 true (.fld 22 2 (.t 1))<|
 Zg 21 true (.ld 23 1 false (.t 22))<|
 Zg 21 true (.len 24 (.t 23))<|
 Zg 21 true (.bin 25 .gtr false (.t 24) (.c (Zz 0)))<|
 Zo (.pick 26 (.t 21) (.t 25) (.c (.bool false)))<|
 Zm 2 26 .nil) .ret⟩
theorem Qaqg:Qe Tryz.prog Tryz.f25=some c25:=by kernel_rfl
def c119:SFn:=⟨44,[.cell 4 3 true],Zr (Zo (.box 2 2 49 (.t 0))<|
 Zo (.alloc 4 3 51 (.agg [.bool false,.nilS,.nilS])) .nil)<| .seq (Zr (Zm 12 1<|
 Zq 13 false 146 [.t 12]<|
 Zn 14 13<|
 Zk 15 .eql 14 0 .nil)<| .cond (.t 15) (Zr (Zq 16 false 84 [.c (.int .u64 1)]<|
 Zo (.bld 17 [.bool false,.nilS,.nilS] [(2,1,.t 16)])<|
 Zs 3 4 17 .nil) .ret) .skip)<|Zr (Zf 18 1 2<|
 Zl 19 1 18<|
 Zm 20 1<|
 Zq 21 false 83 [.t 19,.t 20]<|
 Zm 5 21 .nil)<|Zr (Zf 23 1 2<|
 Zl 24 1 23<|
 Zm 25 5<|
 Zq 26 false 147 [.t 24,.t 25]<|
 Zm 22 26<|
 Zo (.ext 27 (.t 22) 0)<|
 Zo (.ext 28 (.t 22) 1)<|
 Zo (.ext 29 (.t 22) 2)<|
 Zm 6 27<|
 Zm 7 28<|
 Zm 8 29 .nil)<|Zr (Zm 31 1<|
 Zm 32 5<|
 Zq 33 false 147 [.t 31,.t 32]<|
 Zm 30 33<|
 Zo (.ext 34 (.t 30) 0)<|
 Zo (.ext 35 (.t 30) 1)<|
 Zo (.ext 36 (.t 30) 2)<|
 Zm 9 34<|
 Zm 10 35<|
 Zm 11 36 .nil)<|Zr (Zf 37 0 2<|
 Zl 38 1 37<|
 Zm 39 6<|
 Zo (.bld 40 [.bool false,.nilS] [(0,1,.t 38),(1,1,.t 39)])<|
 Zq 41 false 152 [.t 40]<|
 Zm 42 9<|
 Zo (.bld 43 [.bool false,.nilS,.nilS] [(0,2,.t 41),(2,1,.t 42)])<|
 Zs 3 4 43 .nil) .ret⟩
theorem Qal8:Qe Tryz.prog Tryz.f119=some c119:=by kernel_rfl
def c89:SFn:=⟨8,[.cell 2 3 true],Zr (Zo (.box 1 3 51 (.t 0))<|
 Zo (.alloc 2 3 51 (.agg [.bool false,.nilS,.nilS])) .nil)<|Zr (Zf 3 0 1<|
 Zh 4 2 3<|
 Zf 5 2 1<|
 Zl 6 1 5<|
 Zq 7 false 119 [.t 4,.t 6]<|
 Zs 3 2 7 .nil) .ret⟩
theorem Qaqh:Qe Tryz.prog Tryz.f89=some c89:=by kernel_rfl
def c121:SFn:=⟨18,[.cell 4 3 true,.t 5],Zr (Zo (.box 2 2 49 (.t 0))<|
 Zo (.box 3 2 49 (.t 1))<|
 Zo (.alloc 4 3 51 (.agg [.bool false,.nilS,.nilS]))<|
 Zc 5 0 .nil)<| .seq (Zr (Zh 6 2 3<|
 Zq 7 false 88 [.t 6]<|
 Zk 8 .eql 7 0 .nil)<| .cond (.t 8) (Zr (Zo (.bld 9 [.bool false,.nilS,.nilS] [])<|
 Zs 3 4 9<|
 Zc 5 3 .nil) .ret) .skip)<| .seq (Zr (Zf 10 0 3<|
 Zl 11 1 10 .nil)<| .cond (.t 11) (.rg (Zh 12 2 2<|
 Zq 13 false 130 [.t 12]<|
 Zs 2 2 13 .nil)) .skip)<|Zr (Zh 14 2 2<|
 Zf 15 1 3<|
 Zl 16 1 15<|
 Zq 17 false 119 [.t 14,.t 16]<|
 Zs 3 4 17<|
 Zc 5 0 .nil) .ret⟩
theorem Qal9:Qe Tryz.prog Tryz.f121=some c121:=by kernel_rfl
def c50:SFn:=⟨7,[.cell 2 3 true],Zr (Zo (.alloc 2 3 51 (.agg [.bool false,.nilS,.nilS])) .nil)<|Zr (Zm 3 0<|
 Zq 4 false 120 [.t 3]<|
 Zq 5 false 84 [.c (.int .u64 1)]<|
 Zq 6 false 119 [.t 4,.t 5]<|
 Zs 3 2 6 .nil) .ret⟩
theorem Qaqi:Qe Tryz.prog Tryz.f50=some c50:=by kernel_rfl
def c151:SFn:=⟨5,[.cell 2 2 true],Zr (Zo (.alloc 2 2 49 (.agg [.bool false,.nilS])) .nil)<|Zr (Zm 3 0<|
 Zo (.bld 4 [.bool false,.nilS] [(1,1,.t 3)])<|
 Zs 2 2 4 .nil) .ret⟩
theorem Qama:Qe Tryz.prog Tryz.f151=some c151:=by kernel_rfl
def c27:SFn:=⟨7,[.t 2],Zr (Zo (.box 1 3 51 (.t 0))<|
 Zc 2 0 .nil)<|Zr (Zh 3 3 1<|
 Zq 4 false 89 [.t 3]<|
 Zo (.fldv 5 0 2 true (.t 4))<|
 Zq 6 false 88 [.t 5]<|
 Zm 2 6 .nil) .ret⟩
theorem Qaqj:Qe Tryz.prog Tryz.f27=some c27:=by kernel_rfl
def c118:SFn:=⟨22,[.t 4],Zr (Zo (.box 2 3 51 (.t 0))<|
 Zo (.box 3 3 51 (.t 1))<|
 Zc 4 0 .nil)<|Zr (Zh 5 3 2<|
 Zh 7 3 3<|
 Zq 6 true 89 [.t 5]<|
 Zq 8 true 89 [.t 7]<|
 Zs 3 2 6<|
 Zs 3 3 8 .nil)<|Zr (Zf 9 0 2<|
 Zh 10 2 9<|
 Zf 11 2 3<|
 Zl 12 1 11<|
 Zf 15 0 3<|
 Zh 16 2 15<|
 Zf 17 2 2<|
 Zl 18 1 17<|
 Zq 13 true 151 [.t 12]<|
 Zq 14 true 148 [.t 10,.t 13]<|
 Zq 19 true 151 [.t 18]<|
 Zq 20 true 148 [.t 16,.t 19]<|
 Zq 21 true 182 [.t 14,.t 20]<|
 Zm 4 21 .nil) .ret⟩
theorem Qamb:Qe Tryz.prog Tryz.f118=some c118:=by kernel_rfl
def c49:SFn:=⟨9,[.t 4],Zr (Zo (.box 2 3 51 (.t 0))<|
 Zo (.box 3 3 51 (.t 1))<|
 Zo (.mv 4 (.c (.bool false))) .nil)<|Zr (Zh 5 3 2<|
 Zh 6 3 3<|
 Zq 7 false 118 [.t 5,.t 6]<|
 Zk 8 .eql 7 0<|
 Zm 4 8 .nil) .ret⟩
theorem Qaqk:Qe Tryz.prog Tryz.f49=some c49:=by kernel_rfl
def c63:SFn:=⟨9,[.cell 2 3 true],Zr (Zo (.box 1 3 51 (.t 0))<|
 Zo (.alloc 2 3 51 (.agg [.bool false,.nilS,.nilS])) .nil)<|Zr (Zf 3 0 1<|
 Zh 4 2 3<|
 Zf 6 2 1<|
 Zl 7 1 6<|
 Zq 5 true 130 [.t 4]<|
 Zq 8 true 119 [.t 5,.t 7]<|
 Zs 3 2 8 .nil) .ret⟩
theorem Qaql:Qe Tryz.prog Tryz.f63=some c63:=by kernel_rfl
def c87:SFn:=⟨28,[.cell 4 3 true],Zr (Zo (.box 2 3 51 (.t 0))<|
 Zo (.box 3 3 51 (.t 1))<|
 Zo (.alloc 4 3 51 (.agg [.bool false,.nilS,.nilS])) .nil)<|Zr (Zh 5 3 2<|
 Zh 7 3 3<|
 Zq 6 true 89 [.t 5]<|
 Zq 8 true 89 [.t 7]<|
 Zs 3 2 6<|
 Zs 3 3 8 .nil)<|Zr (Zf 9 0 2<|
 Zh 10 2 9<|
 Zf 11 2 3<|
 Zl 12 1 11<|
 Zf 15 0 3<|
 Zh 16 2 15<|
 Zf 17 2 2<|
 Zl 18 1 17<|
 Zf 22 2 2<|
 Zl 23 1 22<|
 Zf 24 2 3<|
 Zl 25 1 24<|
 Zq 13 true 151 [.t 12]<|
 Zq 14 true 148 [.t 10,.t 13]<|
 Zq 19 true 151 [.t 18]<|
 Zq 20 true 148 [.t 16,.t 19]<|
 Zq 21 true 150 [.t 14,.t 20]<|
 Zq 26 true 149 [.t 23,.t 25]<|
 Zq 27 true 119 [.t 21,.t 26]<|
 Zs 3 4 27 .nil) .ret⟩
theorem Qaqm:Qe Tryz.prog Tryz.f87=some c87:=by kernel_rfl
def c145:SFn:=⟨9,[.cell 4 3 true],Zr (Zo (.box 2 3 51 (.t 0))<|
 Zo (.box 3 3 51 (.t 1))<|
 Zo (.alloc 4 3 51 (.agg [.bool false,.nilS,.nilS])) .nil)<|Zr (Zh 5 3 2<|
 Zh 6 3 3<|
 Zq 7 true 63 [.t 6]<|
 Zq 8 true 87 [.t 5,.t 7]<|
 Zs 3 4 8 .nil) .ret⟩
theorem Qamc:Qe Tryz.prog Tryz.f145=some c145:=by kernel_rfl
def c85:SFn:=⟨16,[.cell 4 3 true],Zr (Zo (.box 2 3 51 (.t 0))<|
 Zo (.box 3 3 51 (.t 1))<|
 Zo (.alloc 4 3 51 (.agg [.bool false,.nilS,.nilS])) .nil)<|Zr (Zf 5 0 2<|
 Zh 6 2 5<|
 Zf 7 0 3<|
 Zh 8 2 7<|
 Zf 10 2 2<|
 Zl 11 1 10<|
 Zf 12 2 3<|
 Zl 13 1 12<|
 Zq 9 true 148 [.t 6,.t 8]<|
 Zq 14 true 149 [.t 11,.t 13]<|
 Zq 15 true 119 [.t 9,.t 14]<|
 Zs 3 4 15 .nil) .ret⟩
theorem Qaqn:Qe Tryz.prog Tryz.f85=some c85:=by kernel_rfl
def c143:SFn:=⟨25,[.cell 4 3 true,.t 5],Zr (Zo (.box 2 3 51 (.t 0))<|
 Zo (.box 3 3 51 (.t 1))<|
 Zo (.alloc 4 3 51 (.agg [.bool false,.nilS,.nilS]))<|
 Zc 5 0 .nil)<|Zr (Zh 6 3 2<|
 Zh 8 3 3<|
 Zq 7 true 89 [.t 6]<|
 Zq 9 true 89 [.t 8]<|
 Zs 3 2 7<|
 Zs 3 3 9 .nil)<|Zr (Zf 10 0 2<|
 Zh 11 2 10<|
 Zf 12 2 3<|
 Zl 13 1 12<|
 Zf 16 0 3<|
 Zh 17 2 16<|
 Zf 18 2 2<|
 Zl 19 1 18<|
 Zq 14 true 151 [.t 13]<|
 Zq 15 true 148 [.t 11,.t 14]<|
 Zq 20 true 151 [.t 19]<|
 Zq 21 true 148 [.t 17,.t 20]<|
 Zq 22 true 121 [.t 15,.t 21]<|
 Zo (.ext 23 (.t 22) 0)<|
 Zo (.ext 24 (.t 22) 1)<|
 Zs 3 4 23<|
 Zm 5 24 .nil) .ret⟩
theorem Qamd:Qe Tryz.prog Tryz.f143=some c143:=by kernel_rfl
theorem Qcf{l:List Nat}(hv:Qu l)(hl:l.length<2^42):Qd Tryz.prog 146 [PV.nat l] (· =PV.num (val l)):=by
 have hcut:=Qnl hv
 refine Qf Qq Tryz.func146 rfl Qals (by simp[c146]) fun C hP=> ?_;simp only[c146,Zo,Zg,Zm,Zc,Zf,Zl,Zh,Zs,Zi,Zb,Zk,Zn,Zu,Zq,Zr,Zz]
 simp+decide (disch:=try exact D0) only[go_sem]
 refine Qz (by repeat (first|exact Qn|exact Qi|exact Qj|exact Qk|exact Ql|apply Qh|apply Qm|apply Qt|apply Qx|apply Qy|apply Qg|apply Qr)) [(3,3),(7,18)] [] (fun m J hp=>m<=l.length/\cut l m=dig (val l)/\J 3= .int .i64 m/\hp=hp0) l.length ?_ ?_
 ·refine⟨Nat.le_refl _,hcut,?_⟩
  simp+decide (disch:=try exact D0) only[go_sem]
 rintro n J _ ⟨hn,hc,h3,rfl⟩
 simp+decide (disch:=try exact D1 h3) only[go_sem,h3]
 refine Qaw (fun hg=> ?_) (fun hg=> ?_)
 ·obtain _|n:=n
  ·omega
  have e:((n+1:Nat):Int)-1=n:=by omega
  simp only[cut]at hc
  simp+decide (disch:=try exact D2 h3 e) only[go_sem,h3,e]
  refine Qb (fun hz=> ?_) (fun hz=> ?_)
  ·rw[if_pos (by grind)]at hc
   simp+decide (disch:=try exact D2 h3 e) only[go_sem,h3,e]
   refine Qo n (by omega) ⟨by omega,hc,?_⟩
   simp+decide (disch:=try exact D0) only[go_sem]
  ·rw[if_neg (by grind)]at hc
   have hlt:(l.take (n+1)).length<2^42:=by rw[List.length_take];omega
   simp+decide (disch:=try exact E2 h3 e) only[go_sem,h3,e,Qac,List.contains_cons,List.contains_nil,List.flatMap_cons,List.flatMap_nil,List.append_nil]
   exact Qc (by rw[List.take_of_length_le (by simp),hc]) rfl
 ·obtain rfl:n=0:=by omega
  simp+decide (disch:=first|omega|rfl|(simp+decide only[go_sem,h3,List.take_zero,List.map_nil,List.length_nil]<;>rfl)|fail) only[go_sem,h3,List.take_zero,List.map_nil,List.length_nil]
  rw[Qky (ys:=[]) rfl (by omega) (by simp) (by simp)]
  simp+decide (disch:=try exact E0) only[go_sem,Qac,List.contains_cons,List.contains_nil,List.flatMap_cons,List.flatMap_nil,List.append_nil]
  exact Qc (by show _=PV.nat (dig (val l));rw[<-hc];rfl) rfl
theorem Qdp{n:Nat}(hn:n<18446744073709551616):Qd Tryz.prog 84 [.int .u64 n] (· =PV.num n):=by
 have hlen:=Qe0 hn
 unfold nl at hlen
 refine Qf Qq Tryz.func84 rfl Qaqa (by simp[c84]) fun C hP=> ?_;simp only[c84,Zo,Zg,Zm,Zc,Zf,Zl,Zh,Zs,Zi,Zb,Zk,Zn,Zu,Zq,Zr,Zz]
 simp+decide (disch:=try exact D0) only[go_sem]
 refine Qce 3 900 1 155 (by omega) T0 ?_
 refine Qz (by repeat (first|exact Qn|exact Qi|exact Qj|exact Qk|exact Ql|apply Qh|apply Qm|apply Qt|apply Qx|apply Qy|apply Qg|apply Qr)) [(0,0),(3,13)] [10,11,900] (fun m J hp=>∃done:List Nat,dig n=done++dig m/\m<=n/\J 0= .int .u64 m/\J 3= .ms 900 done.length/\hp 900=some ⟨1,155,Qbk done,false⟩) n ?_ ?_
 ·refine⟨[],rfl,Nat.le_refl _,?_⟩
  simp+decide (disch:=try exact D0) only[go_sem]
 rintro m J hp ⟨done,hd,hm,h0,h3,hh⟩
 rw[hd,List.length_append]at hlen
 simp+decide (disch:=try exact D2 h0 h3) only[go_sem,h0,h3]
 refine Qb (fun hz=> ?_) (fun hz=> ?_)
 ·have hne:m≠0:=by omega
  have hd2:dig n=(done++[m%65536])++dig (m/65536):=by rw[hd,Qic hne];simp
  simp+decide (disch:=first|omega|rfl|(simp+decide only[go_sem,h0,h3,Nat.mod_mod]<;>rfl)|fail) only[go_sem,h0,h3,Nat.mod_mod]
  rw[Qaf (f:=fun(x:Nat)=> .int .u16 x) (y:=m%65536) (xs:=done) (ty':=155) (fz:=false) (T1 hh) Tr0 (by omega) rfl (by omega) (by omega)]
  simp+decide (disch:=try exact D2 h0 h3) only[go_sem,h0,h3]
  refine Qo (m/65536) (by omega) ⟨done++[m%65536],hd2,by omega,?_⟩
  simp+decide (disch:=try exact D2 h0 h3) only[go_sem,h0,h3]
  simp
 ·obtain rfl:m=0:=by omega
  rw[Qbj,List.append_nil]at hd
  simp+decide (disch:=try exact E2 h3 hh) only[go_sem,h3,hh,Qac,List.contains_cons,List.contains_nil,List.flatMap_cons,List.flatMap_nil,List.append_nil]
  exact Qc (by show _=PV.nat (dig n);rw[hd,List.take_of_length_le (by simp)]) rfl
theorem Qb5{a:List Nat}{i:Nat}(ha:Qu a)(hl:a.length<2^43):Qd Tryz.prog 200 [PV.nat a,.int .i64 i] (· = .int .i64 (dg a i:Nat)):=by
 refine Qf Qq Tryz.func200 rfl Qalu (by simp[c200]) fun C hP=> ?_;simp only[c200,Zo,Zg,Zm,Zc,Zf,Zl,Zh,Zs,Zi,Zb,Zk,Zn,Zu,Zq,Zr,Zz]
 simp+decide (disch:=try exact D0) only[go_sem]
 refine Qb (fun hi=> ?_) (fun hi=> ?_)
 ·have hi':i<a.length:=by omega
  have hai:=Qax ha hi'
  have hg:dg a i=a[i]:=Qbz hi'
  simp+decide (disch:=try exact D0) only[go_sem]
  exact Qc (by rw[hg]) rfl
 ·simp+decide (disch:=try exact D0) only[go_sem]
  exact Qc (by rw[dg,Qb0 (by omega)];rfl) rfl
theorem Qhy{a:List Nat}(ha:Qu a)(hl:a.length<=4):Qd Tryz.prog 197 [PV.nat a] (· = .int .u64 (val a:Nat)):=by
 have hlt:∀k,val (a.drop k)<18446744073709551616:=fun k=>by
  have h1:=Qf8 (Qio ha k)
  have:65536^(a.drop k).length<=65536^4:=Nat.pow_le_pow_right (by omega) (by rw[List.length_drop];omega)
  omega
 refine Qf Qq Tryz.func197 rfl Qalt (by simp[c197]) fun C hP=> ?_;simp only[c197,Zo,Zg,Zm,Zc,Zf,Zl,Zh,Zs,Zi,Zb,Zk,Zn,Zu,Zq,Zr,Zz]
 simp+decide (disch:=try exact D0) only[go_sem]
 refine Qz (by repeat (first|exact Qn|exact Qi|exact Qj|exact Qk|exact Ql|apply Qh|apply Qm|apply Qt|apply Qx|apply Qy|apply Qg|apply Qr)) [(3,4),(8,19)] [] (fun k J hp=>k<=a.length/\J 3= .int .u64 (val (a.drop k):Nat)/\J 4= .int .i64 ((k:Int)-1)) a.length ?_ ?_
 ·refine⟨Nat.le_refl _,?_⟩
  simp+decide (disch:=try exact D0) only[go_sem]
  simp[val]
 rintro k J h ⟨hk,h3,h4⟩
 simp+decide (disch:=try exact D2 h3 h4) only[go_sem,h3,h4]
 refine Qb (fun hg=> ?_) (fun hg=> ?_)
 ·obtain _|n:=k
  ·omega
  have hn:n<a.length:=by omega
  have han:=Qax ha hn
  have e:((n+1:Nat):Int)-1=n:=by omega
  have hv:=Qc9 hn
  have h1:=hlt n
  generalize hxx:a[n]=x at *
  have e2:val (a.drop (n+1))*65536+x=val (a.drop n):=by omega
  simp+decide (disch:=try exact D5 h3 h4 e hxx e2) only[go_sem,h3,h4,e,hxx,e2]
  refine Qo n (by omega) ⟨by omega,?_⟩
  simp+decide (disch:=try exact D0) only[go_sem]
 ·obtain rfl:k=0:=by omega
  simp+decide (disch:=first|omega|rfl|(simp+decide only[go_sem,h3,List.drop_zero]<;>rfl)|fail) only[go_sem,h3,List.drop_zero]
  exact Qc rfl rfl
theorem Qjy{a b:List Nat}(ha:Qu a)(hb:Qu b)(hla:a.length<2^42)(hlb:b.length<2^42):Qd Tryz.prog 215 [PV.nat a,PV.nat b] (· = .int .i64 (Qeo (val a) (val b))):=by
 refine Qf Qq Tryz.func215 rfl Qalv (by simp[c215]) fun C hP=> ?_;simp only[c215,Zo,Zg,Zm,Zc,Zf,Zl,Zh,Zs,Zi,Zb,Zk,Zn,Zu,Zq,Zr,Zz]
 simp+decide (disch:=first|omega|rfl|(simp+decide only[go_sem,Qwc]<;>rfl)|fail) only[go_sem,Qwc]
 refine Qz (by repeat (first|exact Qn|exact Qi|exact Qj|exact Qk|exact Ql|apply Qh|apply Qm|apply Qt|apply Qx|apply Qy|apply Qg|apply Qr)) [(4,5),(12,29)] [] (fun k J hp=>k<=max a.length b.length/\val (a.drop k)=val (b.drop k)/\J 5= .int .i64 ((k:Int)-1)) (max a.length b.length) ?_ ?_
 ·refine⟨Nat.le_refl _,?_,?_⟩
  ·rw[List.drop_of_length_le (by omega),List.drop_of_length_le (by omega)]
  ·simp+decide (disch:=try exact D0) only[go_sem]
 rintro k J h ⟨hk,hv,h5⟩
 simp+decide (disch:=try exact D1 h5) only[go_sem,h5]
 refine Qb (fun hg=> ?_) (fun hg=> ?_)
 ·obtain _|n:=k
  ·omega
  have e:((n+1:Nat):Int)-1=n:=by omega
  have e1:=Qif a n
  have e2:=Qif b n
  have d1:=Qor ha n
  have d2:=Qor hb n
  simp+decide (disch:=try exact D2 h5 e) only[go_sem,h5,e]
  refine Qa hP (Qb5 ha (by omega)) rfl rfl rfl ?_
  simp+decide (disch:=try exact D2 h5 e) only[go_sem,h5,e]
  refine Qa hP (Qb5 hb (by omega)) rfl rfl rfl ?_
  simp+decide (disch:=try exact D2 h5 e) only[go_sem,h5,e]
  refine Qb (fun hc=> ?_) (fun hc=> ?_)
  ·have hlt:=Qr5 (a:=a) (b:=b) ha (i:=n) (by omega)
   simp+decide (disch:=try exact D0) only[go_sem]
   exact Qc (by rw[Qv2 hlt]) rfl
  simp+decide (disch:=try exact D2 h5 e) only[go_sem,h5,e]
  refine Qa hP (Qb5 ha (by omega)) rfl rfl rfl ?_
  simp+decide (disch:=try exact D2 h5 e) only[go_sem,h5,e]
  refine Qa hP (Qb5 hb (by omega)) rfl rfl rfl ?_
  simp+decide (disch:=try exact D2 h5 e) only[go_sem,h5,e]
  refine Qb (fun hc2=> ?_) (fun hc2=> ?_)
  ·have hlt:=Qr5 (a:=b) (b:=a) hb (i:=n) (by omega)
   simp+decide (disch:=try exact D0) only[go_sem]
   exact Qc (by rw[Qv3 hlt]) rfl
  ·simp+decide (disch:=try exact D2 h5 e) only[go_sem,h5,e]
   refine Qo n (by omega) ⟨by omega,by omega,?_⟩
   simp+decide (disch:=try exact D0) only[go_sem]
 ·obtain rfl:k=0:=by omega
  simp+decide (disch:=try exact D0) only[go_sem]
  exact Qc (by rw[Q30 (by simpa using hv)]) rfl
theorem Qpt{a:List Nat}(ha:Qu a)(hl:a.length<2^43):Qd Tryz.prog 81 [PV.nat a] (· = .bool (decide (a.getLast? ≠some 0))):=by
 refine Qf Qq Tryz.func81 rfl Qaqc (by simp[c81]) fun C hP=> ?_;simp only[c81,Zo,Zg,Zm,Zc,Zf,Zl,Zh,Zs,Zi,Zb,Zk,Zn,Zu,Zq,Zr,Zz]
 simp+decide (disch:=try exact D0) only[go_sem]
 refine Qal (fun h0=> ?_) (fun h0=> ?_)
 ·have:a=[]:=List.length_eq_zero_iff.1 (by omega)
  subst this
  simp+decide (disch:=try exact D0) only[go_sem]
  exact Qc (by simp) rfl
 ·obtain⟨k,hk⟩:∃k,a.length=k+1:=⟨a.length-1,by omega⟩
  have hlast:=Qs9 hk
  have e:((k+1:Nat):Int)-1=k:=by omega
  generalize hy:a[k]'(by omega)=y at *
  simp+decide (disch:=try exact D3 hk e hy) only[go_sem,hk,e,hy]
  refine Qc (congrArg PV.bool ?_) rfl
  rw[hlast]
  exact decide_eq_decide.2 ⟨fun h h'=>h (by injection h' with h';rw[h'];rfl),fun h h'=>h (by rw[show y=0 by omega])⟩
theorem Q09{a b:List Nat}(hla:a.length<2^43)(hlb:b.length<2^43):Qd Tryz.prog 82 [PV.nat a,PV.nat b] (· = .bool (decide (a=b))):=by
 refine Qf Qq Tryz.func82 rfl Qaqd (by simp[c82]) fun C hP=> ?_;simp only[c82,Zo,Zg,Zm,Zc,Zf,Zl,Zh,Zs,Zi,Zb,Zk,Zn,Zu,Zq,Zr,Zz]
 simp+decide (disch:=try exact D0) only[go_sem]
 refine Qb (fun h0=> ?_) (fun h0=> ?_)
 ·simp+decide (disch:=try exact D0) only[go_sem]
  exact Qc (congrArg PV.bool (by rw[decide_eq_false];rintro rfl;exact h0 rfl)) rfl
 have hlen:a.length=b.length:=by omega
 simp+decide (disch:=try exact D0) only[go_sem]
 refine Qz (by repeat (first|exact Qn|exact Qi|exact Qj|exact Qk|exact Ql|apply Qh|apply Qm|apply Qt|apply Qx|apply Qy|apply Qg|apply Qr)) [(4,5),(11,25)] [] (fun n J hp=>∃i,n=a.length-i/\i<=a.length/\a.take i=b.take i/\J 5= .int .i64 (i:Nat)) a.length ?_ ?_
 ·refine⟨0,rfl,by omega,by simp,?_⟩
  simp+decide (disch:=try exact D0) only[go_sem]
  rfl
 rintro _ J h ⟨i,rfl,hi,he,h5⟩
 simp+decide (disch:=try exact D1 h5) only[go_sem,h5]
 refine Qb (fun hg=> ?_) (fun hg=> ?_)
 ·have hi':i<a.length:=by omega
  have hib:i<b.length:=by omega
  have ta:=List.take_succ_eq_append_getElem hi'
  have tb:=List.take_succ_eq_append_getElem hib
  have hne:a=b->a[i]=b[i]:=fun h=>by subst h;rfl
  generalize hx:a[i]=x at *
  generalize hy:b[i]=y at *
  simp+decide (disch:=try exact D3 h5 hx hy) only[go_sem,h5,hx,hy]
  refine Qb (fun hc=> ?_) (fun hc=> ?_)
  ·simp+decide (disch:=try exact D0) only[go_sem]
   exact Qc (congrArg PV.bool (by rw[decide_eq_false];intro h;exact hc (by rw[hne h]))) rfl
  ·simp+decide (disch:=try exact D1 h5) only[go_sem,h5]
   refine Qo (a.length-(i+1)) (by omega) ⟨i+1,rfl,by omega,by rw[ta,tb,he,show x=y by omega],?_⟩
   simp+decide (disch:=try exact D0) only[go_sem]
 ·obtain rfl:i=a.length:=by omega
  rw[List.take_length,hlen,List.take_length]at he
  simp+decide (disch:=try exact D0) only[go_sem]
  exact Qc (congrArg PV.bool (by rw[he];simp)) rfl
theorem Qsk{a b:List Nat}(ha:Qu a)(hb:Qu b)(hla:a.length<2^40)(hlb:b.length<2^40):Qd Tryz.prog 184 [PV.nat a,PV.nat b] (· =PV.num (val a+val b)):=by
 refine Qf Qq Tryz.func184 rfl Qalw (by simp[c184]) fun C hP=> ?_;simp only[c184,Zo,Zg,Zm,Zc,Zf,Zl,Zh,Zs,Zi,Zb,Zk,Zn,Zu,Zq,Zr,Zz]
 simp+decide (disch:=try exact D0) only[go_sem]
 refine Qce 5 900 1 155 (by omega) T0 ?_
 refine Qz (by repeat (first|exact Qn|exact Qi|exact Qj|exact Qk|exact Ql|apply Qh|apply Qm|apply Qt|apply Qx|apply Qy|apply Qg|apply Qr)) [(5,41)] [38,39,900] (fun m J hp=>∃(i c:Nat)(out:List Nat),m=2*(max a.length b.length-i)+c/\c<=1/\i<=max a.length b.length+1/\(i<=max a.length b.length∨c=0)/\out.length=i/\Qu out/\val out+65536^i*(c+val (a.drop i)+val (b.drop i))=val a+val b/\J 5= .ms 900 out.length/\J 6= .int .i64 c/\J 7= .int .i64 i/\hp 900=some ⟨1,155,Qbk out,false⟩) (2*max a.length b.length) ?_ ?_
 ·refine⟨0,0,[],rfl,by omega,by omega,by omega,rfl,Qdb,by simp[val],?_⟩
  simp+decide (disch:=try exact D0) only[go_sem]
  simp
 rintro _ J h ⟨i,c,out,rfl,hc,hi,hi2,hol,hout,hv,h5,h6,h7,hh⟩
 have e1:=Qif a i
 have e2:=Qif b i
 have d1:=Qor ha i
 have d2:=Qor hb i
 simp+decide (disch:=try exact D3 h5 h6 h7) only[go_sem,h5,h6,h7]
 refine Qal (fun hg=> ?_) (fun hg=> ?_)
 ·have hlt:i<max a.length b.length:=by omega
  have hs1:(dg a i+dg b i+c)/65536<=1:=by omega
  have hstep:val (out++[(dg a i+dg b i+c)%65536])+65536^(i+1)*((dg a i+dg b i+c)/65536+val (a.drop (i+1))+val (b.drop (i+1)))=val a+val b:=by
   rw[Qot,hol,Nat.pow_succ,<-hv,e1,e2]
   have:=Nat.div_add_mod (dg a i+dg b i+c) 65536
   generalize 65536^i=P at *
   generalize(dg a i+dg b i+c)/65536=q at *
   generalize(dg a i+dg b i+c)%65536=r at *
   have e:c+(dg a i+65536*val (a.drop (i+1)))+(dg b i+65536*val (b.drop (i+1)))=r+65536*(q+val (a.drop (i+1))+val (b.drop (i+1))):=by omega
   rw[e,Nat.mul_add P,Nat.mul_assoc];omega
  simp+decide (disch:=try exact D3 h5 h6 h7) only[go_sem,h5,h6,h7]
  refine Qa hP (Qb5 ha (by omega)) rfl rfl rfl ?_
  simp+decide (disch:=try exact D3 h5 h6 h7) only[go_sem,h5,h6,h7]
  refine Qa hP (Qb5 hb (by omega)) rfl rfl rfl ?_
  simp+decide (disch:=first|omega|rfl|(simp+decide only[go_sem,h5,h6,h7,Nat.mod_mod]<;>rfl)|fail) only[go_sem,h5,h6,h7,Nat.mod_mod]
  rw[Qaf (f:=fun(x:Nat)=> .int .u16 x) (y:=(dg a i+dg b i+c)%65536) (xs:=out) (ty':=155) (fz:=false) (T1 hh) Tr0 (by omega) rfl (by omega) (by omega)]
  simp+decide (disch:=try exact D3 h5 h6 h7) only[go_sem,h5,h6,h7]
  refine Qo (2*(max a.length b.length-(i+1))+(dg a i+dg b i+c)/65536) ?_ ⟨i+1,(dg a i+dg b i+c)/65536,out++[(dg a i+dg b i+c)%65536],rfl,hs1,by omega,?_,by simp[hol],?_,hstep,?_⟩
  ·by_cases hlt:i<max a.length b.length
   ·omega
   ·have z1:dg a i=0:=by rw[dg,Qb0 (by omega)]
    have z2:dg b i=0:=by rw[dg,Qb0 (by omega)]
    rw[z1,z2];omega
  ·by_cases hlt:i<max a.length b.length
   ·omega
   ·have z1:dg a i=0:=by rw[dg,Qb0 (by omega)]
    have z2:dg b i=0:=by rw[dg,Qb0 (by omega)]
    rw[z1,z2];omega
  ·rw[Qcd];exact⟨hout,by intro z hz;simp at hz;omega⟩
  ·simp+decide (disch:=try exact D0) only[go_sem]
   simp
 simp+decide (disch:=try exact D3 h5 h6 h7) only[go_sem,h5,h6,h7]
 refine Qal (fun hg2=> ?_) (fun hg2=> ?_)
 ·have hlt:i<max a.length b.length:=by omega
  have hs1:(dg a i+dg b i+c)/65536<=1:=by omega
  have hstep:val (out++[(dg a i+dg b i+c)%65536])+65536^(i+1)*((dg a i+dg b i+c)/65536+val (a.drop (i+1))+val (b.drop (i+1)))=val a+val b:=by
   rw[Qot,hol,Nat.pow_succ,<-hv,e1,e2]
   have:=Nat.div_add_mod (dg a i+dg b i+c) 65536
   generalize 65536^i=P at *
   generalize(dg a i+dg b i+c)/65536=q at *
   generalize(dg a i+dg b i+c)%65536=r at *
   have e:c+(dg a i+65536*val (a.drop (i+1)))+(dg b i+65536*val (b.drop (i+1)))=r+65536*(q+val (a.drop (i+1))+val (b.drop (i+1))):=by omega
   rw[e,Nat.mul_add P,Nat.mul_assoc];omega
  simp+decide (disch:=try exact D3 h5 h6 h7) only[go_sem,h5,h6,h7]
  refine Qa hP (Qb5 ha (by omega)) rfl rfl rfl ?_
  simp+decide (disch:=try exact D3 h5 h6 h7) only[go_sem,h5,h6,h7]
  refine Qa hP (Qb5 hb (by omega)) rfl rfl rfl ?_
  simp+decide (disch:=first|omega|rfl|(simp+decide only[go_sem,h5,h6,h7,Nat.mod_mod]<;>rfl)|fail) only[go_sem,h5,h6,h7,Nat.mod_mod]
  rw[Qaf (f:=fun(x:Nat)=> .int .u16 x) (y:=(dg a i+dg b i+c)%65536) (xs:=out) (ty':=155) (fz:=false) (T1 hh) Tr0 (by omega) rfl (by omega) (by omega)]
  simp+decide (disch:=try exact D3 h5 h6 h7) only[go_sem,h5,h6,h7]
  refine Qo (2*(max a.length b.length-(i+1))+(dg a i+dg b i+c)/65536) ?_ ⟨i+1,(dg a i+dg b i+c)/65536,out++[(dg a i+dg b i+c)%65536],rfl,hs1,by omega,?_,by simp[hol],?_,hstep,?_⟩
  ·by_cases hlt:i<max a.length b.length
   ·omega
   ·have z1:dg a i=0:=by rw[dg,Qb0 (by omega)]
    have z2:dg b i=0:=by rw[dg,Qb0 (by omega)]
    rw[z1,z2];omega
  ·by_cases hlt:i<max a.length b.length
   ·omega
   ·have z1:dg a i=0:=by rw[dg,Qb0 (by omega)]
    have z2:dg b i=0:=by rw[dg,Qb0 (by omega)]
    rw[z1,z2];omega
  ·rw[Qcd];exact⟨hout,by intro z hz;simp at hz;omega⟩
  ·simp+decide (disch:=try exact D0) only[go_sem]
   simp
 simp+decide (disch:=try exact D3 h5 h6 h7) only[go_sem,h5,h6,h7]
 refine Qb (fun hg3=> ?_) (fun hg3=> ?_)
 ·have hib:i<=max a.length b.length:=by omega
  have hs1:(dg a i+dg b i+c)/65536<=1:=by omega
  have hstep:val (out++[(dg a i+dg b i+c)%65536])+65536^(i+1)*((dg a i+dg b i+c)/65536+val (a.drop (i+1))+val (b.drop (i+1)))=val a+val b:=by
   rw[Qot,hol,Nat.pow_succ,<-hv,e1,e2]
   have:=Nat.div_add_mod (dg a i+dg b i+c) 65536
   generalize 65536^i=P at *
   generalize(dg a i+dg b i+c)/65536=q at *
   generalize(dg a i+dg b i+c)%65536=r at *
   have e:c+(dg a i+65536*val (a.drop (i+1)))+(dg b i+65536*val (b.drop (i+1)))=r+65536*(q+val (a.drop (i+1))+val (b.drop (i+1))):=by omega
   rw[e,Nat.mul_add P,Nat.mul_assoc];omega
  simp+decide (disch:=try exact D3 h5 h6 h7) only[go_sem,h5,h6,h7]
  refine Qa hP (Qb5 ha (by omega)) rfl rfl rfl ?_
  simp+decide (disch:=try exact D3 h5 h6 h7) only[go_sem,h5,h6,h7]
  refine Qa hP (Qb5 hb (by omega)) rfl rfl rfl ?_
  simp+decide (disch:=first|omega|rfl|(simp+decide only[go_sem,h5,h6,h7,Nat.mod_mod]<;>rfl)|fail) only[go_sem,h5,h6,h7,Nat.mod_mod]
  rw[Qaf (f:=fun(x:Nat)=> .int .u16 x) (y:=(dg a i+dg b i+c)%65536) (xs:=out) (ty':=155) (fz:=false) (T1 hh) Tr0 (by omega) rfl (by omega) (by omega)]
  simp+decide (disch:=try exact D3 h5 h6 h7) only[go_sem,h5,h6,h7]
  refine Qo (2*(max a.length b.length-(i+1))+(dg a i+dg b i+c)/65536) ?_ ⟨i+1,(dg a i+dg b i+c)/65536,out++[(dg a i+dg b i+c)%65536],rfl,hs1,by omega,?_,by simp[hol],?_,hstep,?_⟩
  ·by_cases hlt:i<max a.length b.length
   ·omega
   ·have z1:dg a i=0:=by rw[dg,Qb0 (by omega)]
    have z2:dg b i=0:=by rw[dg,Qb0 (by omega)]
    rw[z1,z2];omega
  ·by_cases hlt:i<max a.length b.length
   ·omega
   ·have z1:dg a i=0:=by rw[dg,Qb0 (by omega)]
    have z2:dg b i=0:=by rw[dg,Qb0 (by omega)]
    rw[z1,z2];omega
  ·rw[Qcd];exact⟨hout,by intro z hz;simp at hz;omega⟩
  ·simp+decide (disch:=try exact D0) only[go_sem]
   simp
 ·obtain rfl:c=0:=by omega
  rw[List.drop_of_length_le (by omega),List.drop_of_length_le (by omega)]at hv
  simp only[val,Nat.add_zero,Nat.mul_zero]at hv
  simp+decide (disch:=try exact D2 h5 hh) only[go_sem,h5,hh]
  refine Qgt hP (Qcf hout (by omega)) (by simp+decide (disch:=try exact E1 hh) only[go_sem,hh,Qac,List.contains_cons,List.contains_nil,List.flatMap_cons,List.flatMap_nil,List.append_nil];simp[List.take_of_length_le]) rfl fun hp'=> ?_
  simp+decide (disch:=try exact D0) only[go_sem]
  exact Qc (by rw[hv]) rfl
theorem Qm8{a b:List Nat}(ha:Qu a)(hb:Qu b)(hla:a.length<2^40)(hlb:b.length<2^40):Qd Tryz.prog 199 [PV.nat a,PV.nat b] (· =if val a<val b then .tup [PV.num 0,.int .i64 2]else .tup [PV.num (val a-val b),.int .i64 0]):=by
 refine Qf Qq Tryz.func199 rfl Qalx (by simp[c199]) fun C hP=> ?_;simp only[c199,Zo,Zg,Zm,Zc,Zf,Zl,Zh,Zs,Zi,Zb,Zk,Zn,Zu,Zq,Zr,Zz]
 simp+decide (disch:=try exact D0) only[go_sem]
 refine Qa hP (Qjy ha hb (by omega) (by omega)) rfl rfl rfl ?_
 simp+decide (disch:=try exact D0) only[go_sem]
 refine Qb (fun hc=> ?_) (fun hc=> ?_)
 ·rw[if_pos (Qoj.1 hc)]
  simp+decide (disch:=try exact D0) only[go_sem]
  exact Qd8 rfl rfl rfl Qje (Qab _)
 have hge:¬val a<val b:=fun h=>hc (Qoj.2 h)
 rw[if_neg hge]
 simp+decide (disch:=try exact D0) only[go_sem]
 refine Qce 6 900 1 155 (by omega) T0 ?_
 refine Qz (by repeat (first|exact Qn|exact Qi|exact Qj|exact Qk|exact Ql|apply Qh|apply Qm|apply Qt|apply Qx|apply Qy|apply Qg|apply Qr)) [(6,9),(14,37)] [36,37,900] (fun m J hp=>∃(i c:Nat)(out:List Nat),m=a.length-i/\c<=1/\i<=a.length/\out.length=i/\Qu out/\val (a.take i)+65536^i*c=val out+val (b.take i)/\J 6= .ms 900 out.length/\J 7= .int .i64 c/\J 8= .int .i64 i/\hp 900=some ⟨1,155,Qbk out,false⟩) a.length ?_ ?_
 ·refine⟨0,0,[],rfl,by omega,by omega,rfl,Qdb,by simp[val],?_⟩
  simp+decide (disch:=try exact D0) only[go_sem]
  simp
 rintro _ J h ⟨i,c,out,rfl,hc1,hi,hol,hout,hv,h6,h7,h8,hh⟩
 simp+decide (disch:=try exact D3 h6 h7 h8) only[go_sem,h6,h7,h8]
 refine Qb (fun hg=> ?_) (fun hg=> ?_)
 ·have hi':i<a.length:=by omega
  have e1:=Qns a i
  have e2:=Qns b i
  have d1:=Qor ha i
  have d2:=Qor hb i
  simp+decide (disch:=try exact D3 h6 h7 h8) only[go_sem,h6,h7,h8]
  refine Qa hP (Qb5 ha (by omega)) rfl rfl rfl ?_
  simp+decide (disch:=try exact D3 h6 h7 h8) only[go_sem,h6,h7,h8]
  refine Qa hP (Qb5 hb (by omega)) rfl rfl rfl ?_
  simp+decide (disch:=try exact D3 h6 h7 h8) only[go_sem,h6,h7,h8]
  have step:∀(d c':Nat),d<65536->c'<=1->dg a i+65536*c'=d+dg b i+c->val (a.take (i+1))+65536^(i+1)*c'=val (out++[d])+val (b.take (i+1)):=fun d c' _ _ h3=>by
   rw[Qot,hol,e1,e2,Nat.pow_succ]
   generalize 65536^i=P at *
   have:P*(dg a i+65536*c')=P*(d+dg b i+c):=by rw[h3]
   rw[Nat.mul_add,<-Nat.mul_assoc,Nat.mul_add,Nat.mul_add]at this
   omega
  refine Qb (fun hd=> ?_) (fun hd=> ?_)
  ·obtain⟨d,hd1⟩:∃d:Nat,(dg a i:Int)-(dg b i:Int)-(c:Int)+65536=d:=⟨((dg a i:Int)-(dg b i:Int)-(c:Int)+65536).toNat,by omega⟩
   have hst:=step d 1 (by omega) (by omega) (by omega)
   simp+decide (disch:=try exact D4 h6 h7 h8 hd1) only[go_sem,h6,h7,h8,hd1]
   rw[Qaf (f:=fun(x:Nat)=> .int .u16 x) (y:=d) (xs:=out) (ty':=155) (fz:=false) (T1 hh) (by simp+decide (disch:=first|omega|rfl|(simp+decide only[go_sem,Nat.mod_eq_of_lt (by omega:d<65536)]<;>rfl)|fail) only[go_sem,Nat.mod_eq_of_lt (by omega:d<65536)]) (by omega) rfl (by omega) (by omega)]
   simp+decide (disch:=try exact D3 h6 h7 h8) only[go_sem,h6,h7,h8]
   refine Qo (a.length-(i+1)) (by omega) ⟨i+1,1,out++[d],rfl,by omega,by omega,by simp[hol],?_,hst,?_⟩
   ·rw[Qcd];exact⟨hout,by intro z hz;simp at hz;omega⟩
   ·simp+decide (disch:=try exact D0) only[go_sem]
    simp
  ·obtain⟨d,hd1⟩:∃d:Nat,(dg a i:Int)-(dg b i:Int)-(c:Int)=d:=⟨((dg a i:Int)-(dg b i:Int)-(c:Int)).toNat,by omega⟩
   have hst:=step d 0 (by omega) (by omega) (by omega)
   simp+decide (disch:=try exact D4 h6 h7 h8 hd1) only[go_sem,h6,h7,h8,hd1]
   rw[Qaf (f:=fun(x:Nat)=> .int .u16 x) (y:=d) (xs:=out) (ty':=155) (fz:=false) (T1 hh) (by simp+decide (disch:=first|omega|rfl|(simp+decide only[go_sem,Nat.mod_eq_of_lt (by omega:d<65536)]<;>rfl)|fail) only[go_sem,Nat.mod_eq_of_lt (by omega:d<65536)]) (by omega) rfl (by omega) (by omega)]
   simp+decide (disch:=try exact D3 h6 h7 h8) only[go_sem,h6,h7,h8]
   refine Qo (a.length-(i+1)) (by omega) ⟨i+1,0,out++[d],rfl,by omega,by omega,by simp[hol],?_,hst,?_⟩
   ·rw[Qcd];exact⟨hout,by intro z hz;simp at hz;omega⟩
   ·simp+decide (disch:=try exact D0) only[go_sem]
    simp
 ·obtain rfl:i=a.length:=by omega
  have hbz:val (b.drop a.length)=0:=Qjs (by have:=Qf8 ha;omega)
  have hbs:=Qos b a.length
  rw[hbz,Nat.mul_zero,Nat.add_zero]at hbs
  rw[List.take_length,<-hbs]at hv
  have hvo:=Qf8 hout
  rw[hol]at hvo
  have hc0:c=0:=by
   match c,hc1 with
   |0,_=>rfl
   |1,_=>exfalso;have:=Qf8 ha;omega
  subst hc0
  simp+decide (disch:=try exact D2 h6 hh) only[go_sem,h6,hh]
  refine Qgt hP (Qcf hout (by omega)) (by simp+decide (disch:=try exact E1 hh) only[go_sem,hh,Qac,List.contains_cons,List.contains_nil,List.flatMap_cons,List.flatMap_nil,List.append_nil];simp[List.take_of_length_le]) rfl fun hp'=> ?_
  simp+decide (disch:=try exact D0) only[go_sem]
  exact Qd8 rfl rfl rfl (Qgu (congrArg PV.num (by omega))) (Qab _)
theorem Qm9{a b:List Nat}(ha:Qu a)(hb:Qu b)(hla:a.length<2^40)(hlb:b.length<2^40):Qd Tryz.prog 149 [PV.nat a,PV.nat b] (· =PV.num (val a*val b)):=by
 refine Qf Qq Tryz.func149 rfl Qaly (by simp[c149]) fun C hP=> ?_;simp only[c149,Zo,Zg,Zm,Zc,Zf,Zl,Zh,Zs,Zi,Zb,Zk,Zn,Zu,Zq,Zr,Zz]
 simp+decide (disch:=try exact D0) only[go_sem]
 refine Qz (by repeat (first|exact Qn|exact Qi|exact Qj|exact Qk|exact Ql|apply Qh|apply Qm|apply Qt|apply Qx|apply Qy|apply Qg|apply Qr)) [(6,9),(17,62)] [] (fun m J hp=>∃(i:Nat)(L:List Nat),m=a.length-i/\i<=a.length/\L.length=a.length+b.length+1/\Qu L/\val L=val (a.take i)*val b/\J 6= .int .i64 i/\hp=Qw hp0 16 ⟨1,155,Qbk L,false⟩) a.length ?_ ?_
 ·refine⟨0,List.replicate (a.length+b.length+1) 0,rfl,by omega,by simp,?_,by simp[val,Qw0],?_⟩
  ·intro z hz;rw[List.eq_of_mem_replicate hz];omega
  ·simp+decide (disch:=try exact D0) only[go_sem]
   simp
 rintro _ J _ ⟨i,L,rfl,hi,hLl,hL,hv,h6,rfl⟩
 simp+decide (disch:=try exact D1 h6) only[go_sem,h6]
 refine Qb (fun hg=> ?_) (fun hg=> ?_)
 ·have hi':i<a.length:=by omega
  have hai:=Qax ha hi'
  have hts:=Qf9 hi'
  have hz0:dg L (i+b.length)=0:=by
   apply Q54
   apply Qjs
   rw[hv,Nat.pow_add]
   have h1:=Qes ha i (by omega)
   have h2:=Qf8 hb
   exact Nat.mul_lt_mul'' h1 h2
  generalize hxx:a[i]=ai at *
  simp+decide (disch:=try exact D2 h6 hxx) only[go_sem,h6,hxx]
  refine Qz (by repeat (first|exact Qn|exact Qi|exact Qj|exact Qk|exact Ql|apply Qh|apply Qm|apply Qt|apply Qx|apply Qy|apply Qg|apply Qr)) [(7,9),(23,62)] [] (fun m J hp=>∃(k c:Nat)(M:List Nat),m=b.length+1-k/\k<=b.length+1/\(k<=b.length∨c=0)/\c<65536/\M.length=L.length/\Qu M/\val M+65536^(i+k)*(c+ai*val (b.drop k))=val L+65536^i*(ai*val b)/\(∀j,i+k<=j->dg M j=dg L j)/\J 7= .int .u64 c/\J 8= .int .i64 k/\hp=Qw hp0 16 ⟨1,155,Qbk M,false⟩) (b.length+1) ?_ ?_
  ·refine⟨0,0,L,rfl,by omega,by omega,by omega,rfl,hL,by simp,fun _ _=>rfl,?_⟩
   simp+decide (disch:=try exact D1 h6) only[go_sem,h6]
   simp
  rintro _ J2 _ ⟨k,c,M,rfl,hk,hk2,hc,hMl,hM,hw,hsame,h7,h8,rfl⟩
  have e2:=Qif b k
  have d2:=Qor hb k
  simp+decide (disch:=try exact D3 h6 h7 h8) only[go_sem,h6,h7,h8]
  refine Qal (fun hkb=> ?_) (fun hkb=> ?_)
  ·have hkb':k<=b.length:=by omega
   have hj:i+k<M.length:=by omega
   have hx:=Qax hM hj
   have hset:=fun v=>Q4b (v:=v) hj
   have hmx:=Qfy hai d2
   have hdx:dg M (i+k)=M[i+k]:=Qbz hj
   generalize hxm:M[i+k]=x at *
   have hdm:=Nat.div_add_mod (x+ai*dg b k+c) 65536
   have hnew:=Qxb (T:=val L+65536^i*(ai*val b)) (hset ((x+ai*dg b k+c)%65536)) (by rw[<-e2];exact hw) hdm
   have hr:=Nat.mod_lt (x+ai*dg b k+c) (show 0<65536 by omega)
   have hq:(x+ai*dg b k+c)/65536<65536:=by omega
   have hq0:¬k<b.length->(x+ai*dg b k+c)/65536=0:=fun h=>by
    have z1:dg b k=0:=by rw[dg,Qb0 (by omega)]
    have z2:x=0:=by rw[<-hdx,hsame _ (Nat.le_refl _),show i+k=i+b.length by omega,hz0]
    rw[z1,z2];omega
   have hlims:Qu (M.set (i+k) ((x+ai*dg b k+c)%65536)):=fun z hz=>by
    rcases List.mem_or_eq_of_mem_set hz with h|h
    ·exact hM z h
    ·omega
   have e5:IntKind.u64.wrap ((ai*dg b k:Nat):Int)=((ai*dg b k:Nat):Int):=Qf1 (by omega) (by omega)
   simp+decide (disch:=try exact D5 h6 h7 h8 hxx hxm) only[go_sem,h6,h7,h8,hxx,hxm]
   refine Qa hP (Qb5 hb (by omega)) rfl rfl rfl ?_
   simp+decide (disch:=first|omega|rfl|(simp+decide only[go_sem,h6,h7,h8,hxx,hxm,e5,Nat.mod_mod]<;>rfl)|fail) only[go_sem,h6,h7,h8,hxx,hxm,e5,Nat.mod_mod]
   refine Qo (b.length+1-(k+1)) (by omega) ⟨k+1,(x+ai*dg b k+c)/65536,M.set (i+k) ((x+ai*dg b k+c)%65536),rfl,by omega,?_,hq,by rw[List.length_set];exact hMl,hlims,?_,?_,?_⟩
   ·by_cases h:k<b.length
    ·omega
    ·exact .inr (hq0 h)
   ·rw[<-Nat.add_assoc,Nat.pow_succ];exact hnew
   ·intro j hj2
    rw[Qxc (by omega)];exact hsame j (by omega)
   ·simp+decide (disch:=try exact D3 h6 h7 h8) only[go_sem,h6,h7,h8]
  simp+decide (disch:=try exact D3 h6 h7 h8) only[go_sem,h6,h7,h8]
  refine Qb (fun hc0=> ?_) (fun hc0=> ?_)
  ·have hkb':k<=b.length:=by omega
   have hj:i+k<M.length:=by omega
   have hx:=Qax hM hj
   have hset:=fun v=>Q4b (v:=v) hj
   have hmx:=Qfy hai d2
   have hdx:dg M (i+k)=M[i+k]:=Qbz hj
   generalize hxm:M[i+k]=x at *
   have hdm:=Nat.div_add_mod (x+ai*dg b k+c) 65536
   have hnew:=Qxb (T:=val L+65536^i*(ai*val b)) (hset ((x+ai*dg b k+c)%65536)) (by rw[<-e2];exact hw) hdm
   have hr:=Nat.mod_lt (x+ai*dg b k+c) (show 0<65536 by omega)
   have hq:(x+ai*dg b k+c)/65536<65536:=by omega
   have hq0:¬k<b.length->(x+ai*dg b k+c)/65536=0:=fun h=>by
    have z1:dg b k=0:=by rw[dg,Qb0 (by omega)]
    have z2:x=0:=by rw[<-hdx,hsame _ (Nat.le_refl _),show i+k=i+b.length by omega,hz0]
    rw[z1,z2];omega
   have hlims:Qu (M.set (i+k) ((x+ai*dg b k+c)%65536)):=fun z hz=>by
    rcases List.mem_or_eq_of_mem_set hz with h|h
    ·exact hM z h
    ·omega
   have e5:IntKind.u64.wrap ((ai*dg b k:Nat):Int)=((ai*dg b k:Nat):Int):=Qf1 (by omega) (by omega)
   simp+decide (disch:=try exact D5 h6 h7 h8 hxx hxm) only[go_sem,h6,h7,h8,hxx,hxm]
   refine Qa hP (Qb5 hb (by omega)) rfl rfl rfl ?_
   simp+decide (disch:=first|omega|rfl|(simp+decide only[go_sem,h6,h7,h8,hxx,hxm,e5,Nat.mod_mod]<;>rfl)|fail) only[go_sem,h6,h7,h8,hxx,hxm,e5,Nat.mod_mod]
   refine Qo (b.length+1-(k+1)) (by omega) ⟨k+1,(x+ai*dg b k+c)/65536,M.set (i+k) ((x+ai*dg b k+c)%65536),rfl,by omega,?_,hq,by rw[List.length_set];exact hMl,hlims,?_,?_,?_⟩
   ·by_cases h:k<b.length
    ·omega
    ·exact .inr (hq0 h)
   ·rw[<-Nat.add_assoc,Nat.pow_succ];exact hnew
   ·intro j hj2
    rw[Qxc (by omega)];exact hsame j (by omega)
   ·simp+decide (disch:=try exact D3 h6 h7 h8) only[go_sem,h6,h7,h8]
  ·obtain rfl:c=0:=by omega
   rw[List.drop_of_length_le (by omega)]at hw
   simp only[val,Nat.mul_zero,Nat.add_zero]at hw
   simp+decide (disch:=try exact D3 h6 h7 h8) only[go_sem,h6,h7,h8]
   simp (disch:=decide) only[Qa3,Qbg]
   refine Qo (a.length-(i+1)) (by omega) ⟨i+1,M,rfl,by omega,by omega,hM,?_,?_⟩
   ·rw[hw,hv,hts,Nat.add_mul,Nat.mul_assoc]
   ·simp+decide (disch:=try exact D0) only[go_sem]
 ·obtain rfl:i=a.length:=by omega
  rw[List.take_length]at hv
  simp+decide (disch:=try exact D0) only[go_sem]
  refine Qgt hP (Qcf hL (by omega)) (by simp+decide (disch:=try exact E0) only[go_sem,Qac,List.contains_cons,List.contains_nil,List.flatMap_cons,List.flatMap_nil,List.append_nil];simp[List.take_of_length_le,hLl]) rfl fun hp'=> ?_
  simp+decide (disch:=try exact D0) only[go_sem]
  exact Qc (by rw[hv]) rfl
theorem Qk4{x y:Nat}(hx:nl x<2^40)(hy:nl y<2^40):Qd Tryz.prog 149 [PV.num x,PV.num y] (· =PV.num (x*y)):=by
 have:=Qm9 (Qv x) (Qv y) hx hy
 rwa[Qag,Qag]at this
theorem Q6w{x y:Nat}(hx:nl x<2^42)(hy:nl y<2^42):Qd Tryz.prog 215 [PV.num x,PV.num y] (· = .int .i64 (Qeo x y)):=by
 have:=Qjy (Qv x) (Qv y) hx hy
 rwa[Qag,Qag]at this
theorem Qu4{x y:Nat}(hx:nl x<2^40)(hy:nl y<2^40)(h:y<=x):Qd Tryz.prog 199 [PV.num x,PV.num y] (· = .tup [PV.num (x-y),.int .i64 0]):=by
 have:=Qm8 (Qv x) (Qv y) hx hy
 rwa[Qag,Qag,if_neg (by omega)]at this
theorem Q4r{x y:Nat}:Qeo x y<=0↔x<=y:=by unfold Qeo;split<;>(try split)<;>omega
theorem Qpu{x y:Nat}(hx:nl x<2^38)(hy:nl y<2^38)(hy0:0<y):Qd Tryz.prog 198 [PV.num x,PV.num y] (· = .int .u64 (min 65535 (x/y):Nat)):=by
 have hq2:∀(n d:Nat) fr hp K,n<18446744073709551616->Qbi .quo false (.int .u64 (n:Int)) (.int .u64 2) d fr hp K=K (upd fr d (.int .u64 ((n/2:Nat):Int))) hp:=fun n d fr hp K h=>by
  rw[show(2:Int)=((2:Nat):Int)from rfl,Qk9 (by omega) h]
 refine Qf Qq Tryz.func198 rfl Qalz (by simp[c198]) fun C hP=> ?_;simp only[c198,Zo,Zg,Zm,Zc,Zf,Zl,Zh,Zs,Zi,Zb,Zk,Zn,Zu,Zq,Zr,Zz]
 simp+decide (disch:=try exact D0) only[go_sem]
 refine Qz (by repeat (first|exact Qn|exact Qi|exact Qj|exact Qk|exact Ql|apply Qh|apply Qm|apply Qt|apply Qx|apply Qy|apply Qg|apply Qr)) [(5,25)] [] (fun m J hp=>∃lo hi:Nat,m=hi-lo/\lo<=hi/\hi<=65535/\y*lo<=x/\(hi=65535∨x<y*(hi+1))/\J 5= .int .u64 lo/\J 6= .int .u64 hi) 65535 ?_ ?_
 ·refine⟨0,65535,rfl,by omega,by omega,by omega,.inl rfl,?_⟩
  simp+decide (disch:=try exact D0) only[go_sem]
  simp
 rintro _ J h ⟨lo,hi,rfl,h1,h2,h3,h4,h5,h6⟩
 simp+decide (disch:=try exact D2 h5 h6) only[go_sem,h5,h6]
 refine Qb (fun hg=> ?_) (fun hg=> ?_)
 ·have hsz:nl ((lo+hi+1)/2)<=4:=Qe0 (by omega)
  have hm:=Qgs y ((lo+hi+1)/2)
  generalize hmid:(lo+hi+1)/2=mid at *
  simp+decide (disch:=try exact D4 h5 h6 hq2 hmid) only[go_sem,h5,h6,hq2,hmid]
  refine Qa hP (Qdp (n:=mid) (by omega)) rfl rfl rfl ?_
  simp+decide (disch:=try exact D2 h5 h6) only[go_sem,h5,h6]
  refine Qa hP (Qk4 (x:=y) (y:=mid) (by omega) (by omega)) rfl rfl rfl ?_
  simp+decide (disch:=try exact D2 h5 h6) only[go_sem,h5,h6]
  refine Qa hP (Q6w (x:=y*mid) (y:=x) (by omega) (by omega)) rfl rfl rfl ?_
  simp+decide (disch:=try exact D2 h5 h6) only[go_sem,h5,h6]
  refine Qb (fun hc=> ?_) (fun hc=> ?_)
  ·rw[Q4r]at hc
   simp+decide (disch:=try exact D2 h5 h6) only[go_sem,h5,h6]
   refine Qo (hi-mid) (by omega) ⟨mid,hi,rfl,by omega,h2,hc,h4,?_⟩
   simp+decide (disch:=try exact D1 h6) only[go_sem,h6]
  ·rw[Q4r]at hc
   obtain⟨n,rfl⟩:∃n,mid=n+1:=⟨mid-1,by omega⟩
   have e:((n+1:Nat):Int)-1=n:=by omega
   simp+decide (disch:=try exact D3 h5 h6 e) only[go_sem,h5,h6,e]
   refine Qo (n-lo) (by omega) ⟨lo,n,rfl,by omega,by omega,h3,.inr (by omega),?_⟩
   simp+decide (disch:=try exact D1 h5) only[go_sem,h5]
 ·obtain rfl:lo=hi:=by omega
  simp+decide (disch:=try exact D1 h5) only[go_sem,h5]
  refine Qc ?_ rfl
  have hle:lo<=x/y:=(Nat.le_div_iff_mul_le hy0).2 (by rw[Nat.mul_comm];exact h3)
  rcases h4 with rfl|h4
  ·rw[Nat.min_eq_left hle]
  ·have:x/y<lo+1:=(Nat.div_lt_iff_lt_mul hy0).2 (by rw[Nat.mul_comm];exact h4)
   congr 2;omega
theorem Qnv{a b:List Nat}(ha:Qu a)(hb:Qu b)(hla:a.length<2^36)(hlb:b.length<2^36):Qd Tryz.prog 147 [PV.nat a,PV.nat b]
  (· =if val b=0 then .tup [PV.num 0,PV.num 0,.int .i64 3]else .tup [PV.num (val a/val b),PV.num (val a%val b),.int .i64 0]):=by
 have hda:=Qaz ha
 have hdb:=Qaz hb
 refine Qf Qq Tryz.func147 rfl Qal0 (by simp[c147]) fun C hP=> ?_;simp only[c147,Zo,Zg,Zm,Zc,Zf,Zl,Zh,Zs,Zi,Zb,Zk,Zn,Zu,Zq,Zr,Zz]
 simp+decide (disch:=try exact D0) only[go_sem]
 refine Qa hP (Qcf ha (by omega)) rfl rfl rfl ?_
 simp+decide (disch:=try exact D0) only[go_sem]
 refine Qa hP (Qcf hb (by omega)) rfl rfl rfl ?_
 simp+decide (disch:=try exact D0) only[go_sem]
 generalize val a=x at *
 generalize val b=y at *
 unfold nl at hda hdb
 refine Qb (fun hz=> ?_) (fun hz=> ?_)
 ·have hy0:y=0:=Qb3.1 (Qdl (by omega))
  simp+decide (disch:=try exact D0) only[go_sem]
  rw[if_pos hy0]
  exact Qhi rfl rfl rfl rfl Qje Qje (Qab _)
 have hy0:y≠0:=fun h=>by rw[h,Qbj]at hz;simp at hz
 rw[if_neg hy0]
 have hyp:0<y:=Nat.pos_of_ne_zero hy0
 have hxl:=Qv x
 have hyl:=Qv y
 have hxv:=Qag x
 have hyv:=Qag y
 simp+decide (disch:=try exact D0) only[go_sem]
 refine Qaw (fun h1=> ?_) (fun h1=> ?_)
 ·simp+decide (disch:=try exact D0) only[go_sem]
  refine Qb (fun h2=> ?_) (fun h2=> ?_)
  ·have hx64:=Qmd.1 (show nl x<=4 by unfold nl;omega)
   have hy64:=Qmd.1 (show nl y<=4 by unfold nl;omega)
   have hq:=Nat.div_le_self x y
   have hr:=Nat.mod_lt x hyp
   simp+decide (disch:=try exact D0) only[go_sem]
   refine Qa hP (Qhy hxl (by omega)) rfl rfl rfl ?_
   simp+decide (disch:=try exact D1 hxv) only[go_sem,hxv]
   refine Qa hP (Qhy hyl (by omega)) rfl rfl rfl ?_
   simp+decide (disch:=first|omega|rfl|(simp+decide only[go_sem,hxv,hyv,Qk9]<;>rfl)|fail) only[go_sem,hxv,hyv,Qk9]
   refine Qa hP (Qdp (n:=x/y) (by omega)) rfl rfl rfl ?_
   simp+decide (disch:=try exact D0) only[go_sem]
   refine Qa hP (Qhy hxl (by omega)) rfl rfl rfl ?_
   simp+decide (disch:=try exact D1 hxv) only[go_sem,hxv]
   refine Qa hP (Qhy hyl (by omega)) rfl rfl rfl ?_
   simp+decide (disch:=first|omega|rfl|(simp+decide only[go_sem,hxv,hyv,Qex]<;>rfl)|fail) only[go_sem,hxv,hyv,Qex]
   refine Qa hP (Qdp (n:=x%y) (by omega)) rfl rfl rfl ?_
   simp+decide (disch:=try exact D0) only[go_sem]
   exact Qhi rfl rfl rfl rfl (Qab _) (Qab _) (Qab _)
  ·have hsep:=trivial
   simp+decide (disch:=try exact D0) only[go_sem]
   refine Qld 7 1 T0 ?_
   refine Qld 8 1 T0 ?_
   refine Qz9 (by repeat (first|exact Qn|exact Qi|exact Qj|exact Qk|exact Ql|apply Qh|apply Qm|apply Qt|apply Qx|apply Qy|apply Qg|apply Qr)) [(7,10),(41,69)] [49,51,58,60] (fun k J hp=>∃qs,k<=(dig x).length/\qs.length=(dig x).length-k/\Qu qs/\val qs=val ((dig x).drop k)/y/\J 7= .sl 1 (Qbk qs)/\J 8=PV.num (val ((dig x).drop k)%y)/\J 9= .int .i64 ((k:Int)-1)) (dig x).length ?_ ?_
   ·refine⟨[],Nat.le_refl _,by simp,Qdb,by simp[val],?_⟩
    simp+decide (disch:=try exact D0) only[go_sem]
    simp[val,Qbj]
   rintro k J h ⟨qs,hk,hql,hqs,hqv,h7,h8,h9⟩
   simp+decide (disch:=try exact D3 h7 h8 h9) only[go_sem,h7,h8,h9]
   have hr:=Nat.mod_lt (val ((dig x).drop k)) hyp
   refine Qb (fun hg=> ?_) (fun hg=> ?_)
   ·obtain _|n:=k
    ·omega
    have hn:n<(dig x).length:=by omega
    have han:=Qax hxl hn
    have e:((n+1:Nat):Int)-1=n:=by omega
    have hst:=Quk (x:=(dig x)[n]) hyp hqv
    rw[<-Qc9 hn]at hst
    generalize hV:val ((dig x).drop (n+1))%y=r at *
    generalize hxx:(dig x)[n]=xi at *
    have hrl:(dig r).length<=(dig y).length:=Qb8 (Nat.le_of_lt hr)
    have hlim:Qu ([xi]++dig r):=by rw[Qcd];exact⟨by intro z hz;simp at hz;omega,Qv r⟩
    have hvl:val ([xi]++dig r)=r*65536+xi:=by rw[Qcq,Qag];simp[val];omega
    have hlt:(r*65536+xi)/y<65536:=by
     rw[Nat.div_lt_iff_lt_mul hyp]
     have:(r+1)*65536<=y*65536:=Nat.mul_le_mul_right _ hr
     omega
    have hnR:nl (r*65536+xi)<=(dig y).length+1:=by
     have:=Qaz hlim
     rw[hvl,List.length_append]at this
     simp at this;omega
    have hdm:=Nat.div_add_mod (r*65536+xi) y
    have hnm:nl (y*((r*65536+xi)/y))<=(dig y).length+1:=Nat.le_trans (Qb8 (by omega)) hnR
    have hn4:nl ((r*65536+xi)/y)<=4:=Qe0 (by omega)
    have hsub:r*65536+xi-y*((r*65536+xi)/y)=(r*65536+xi)%y:=by omega
    simp+decide (disch:=try exact D5 h7 h8 h9 e hxx) only[go_sem,h7,h8,h9,e,hxx]
    rw[Qd0 (f:=fun(x:Nat)=> .int .u16 x) (xs:=[xi]) (ys:=dig r) (n:=1) Tr0 rfl (by omega) (by omega) (by omega)]
    simp+decide (disch:=try exact D5 h7 h8 h9 e hxx) only[go_sem,h7,h8,h9,e,hxx]
    refine Qdr hP (Qcf (l:=[xi]++dig r) hlim (by simp;omega)) (by simp+decide (disch:=try exact E0) only[go_sem,Qac,List.contains_cons,List.contains_nil,List.flatMap_cons,List.flatMap_nil,List.append_nil];simp[Nat.add_comm 1,List.take_of_length_le]) rfl ?_
    rw[hvl]
    simp+decide (disch:=try exact D5 h7 h8 h9 e hxx) only[go_sem,h7,h8,h9,e,hxx]
    refine Qa hP (Qpu (x:=r*65536+xi) (y:=y) (by omega) (by unfold nl;omega) hyp) rfl rfl rfl ?_
    rw[Nat.min_eq_right (by omega:(r*65536+xi)/y<=65535)]
    generalize hD:(r*65536+xi)/y=D at *
    simp+decide (disch:=first|omega|rfl|(simp+decide only[go_sem,h7,h8,h9,e,hxx,Nat.mod_eq_of_lt hlt]<;>rfl)|fail) only[go_sem,h7,h8,h9,e,hxx,Nat.mod_eq_of_lt hlt]
    rw[Qd0 (f:=fun(x:Nat)=> .int .u16 x) (xs:=[D]) (ys:=qs) (n:=1) Tr0 rfl (by omega) (by omega) (by omega)]
    simp+decide (disch:=try exact D5 h7 h8 h9 e hxx) only[go_sem,h7,h8,h9,e,hxx]
    refine Qa hP (Qdp (n:=D) (by omega)) rfl rfl rfl ?_
    simp+decide (disch:=try exact D4 h7 h8 h9 e) only[go_sem,h7,h8,h9,e]
    refine Qa hP (Qk4 (x:=y) (y:=D) (by unfold nl;omega) (by omega)) rfl rfl rfl ?_
    simp+decide (disch:=try exact D4 h7 h8 h9 e) only[go_sem,h7,h8,h9,e]
    refine Qa hP (Qu4 (x:=r*65536+xi) (y:=y*D) (by omega) (by omega) (by omega)) rfl rfl rfl ?_
    rw[hsub]
    simp+decide (disch:=try exact D4 h7 h8 h9 e) only[go_sem,h7,h8,h9,e]
    refine Quj 7 n rfl ?_ (by omega) ⟨D::qs,by omega,by simp;omega,?_,?_,?_⟩
    ·simp+decide (disch:=try exact E0) only[go_sem,Qac,List.contains_cons,List.contains_nil,List.flatMap_cons,List.flatMap_nil,List.append_nil]
    ·rw[Qbe];exact⟨hlt,hqs⟩
    ·rw[val,hst.1]
    ·simp+decide (disch:=try exact E1 hst.2) only[go_sem,Qac,List.contains_cons,List.contains_nil,List.flatMap_cons,List.flatMap_nil,List.append_nil,hst.2]
     simp[Nat.add_comm 1,List.take_of_length_le]
   ·obtain rfl:k=0:=by omega
    rw[List.drop_zero,hxv]at hqv h8
    simp+decide (disch:=try exact D2 h7 h8) only[go_sem,h7,h8]
    refine Qa hP (Qcf hqs (by omega)) rfl rfl rfl ?_
    simp+decide (disch:=try exact D2 h7 h8) only[go_sem,h7,h8]
    exact Qhi rfl rfl rfl rfl (Qgu (by rw[hqv])) (Qab _) (Qab _)
 ·have hsep:=trivial
  simp+decide (disch:=try exact D0) only[go_sem]
  refine Qld 7 1 T0 ?_
  refine Qld 8 1 T0 ?_
  refine Qz9 (by repeat (first|exact Qn|exact Qi|exact Qj|exact Qk|exact Ql|apply Qh|apply Qm|apply Qt|apply Qx|apply Qy|apply Qg|apply Qr)) [(7,10),(41,69)] [49,51,58,60] (fun k J hp=>∃qs,k<=(dig x).length/\qs.length=(dig x).length-k/\Qu qs/\val qs=val ((dig x).drop k)/y/\J 7= .sl 1 (Qbk qs)/\J 8=PV.num (val ((dig x).drop k)%y)/\J 9= .int .i64 ((k:Int)-1)) (dig x).length ?_ ?_
  ·refine⟨[],Nat.le_refl _,by simp,Qdb,by simp[val],?_⟩
   simp+decide (disch:=try exact D0) only[go_sem]
   simp[val,Qbj]
  rintro k J h ⟨qs,hk,hql,hqs,hqv,h7,h8,h9⟩
  simp+decide (disch:=try exact D3 h7 h8 h9) only[go_sem,h7,h8,h9]
  have hr:=Nat.mod_lt (val ((dig x).drop k)) hyp
  refine Qb (fun hg=> ?_) (fun hg=> ?_)
  ·obtain _|n:=k
   ·omega
   have hn:n<(dig x).length:=by omega
   have han:=Qax hxl hn
   have e:((n+1:Nat):Int)-1=n:=by omega
   have hst:=Quk (x:=(dig x)[n]) hyp hqv
   rw[<-Qc9 hn]at hst
   generalize hV:val ((dig x).drop (n+1))%y=r at *
   generalize hxx:(dig x)[n]=xi at *
   have hrl:(dig r).length<=(dig y).length:=Qb8 (Nat.le_of_lt hr)
   have hlim:Qu ([xi]++dig r):=by rw[Qcd];exact⟨by intro z hz;simp at hz;omega,Qv r⟩
   have hvl:val ([xi]++dig r)=r*65536+xi:=by rw[Qcq,Qag];simp[val];omega
   have hlt:(r*65536+xi)/y<65536:=by
    rw[Nat.div_lt_iff_lt_mul hyp]
    have:(r+1)*65536<=y*65536:=Nat.mul_le_mul_right _ hr
    omega
   have hnR:nl (r*65536+xi)<=(dig y).length+1:=by
    have:=Qaz hlim
    rw[hvl,List.length_append]at this
    simp at this;omega
   have hdm:=Nat.div_add_mod (r*65536+xi) y
   have hnm:nl (y*((r*65536+xi)/y))<=(dig y).length+1:=Nat.le_trans (Qb8 (by omega)) hnR
   have hn4:nl ((r*65536+xi)/y)<=4:=Qe0 (by omega)
   have hsub:r*65536+xi-y*((r*65536+xi)/y)=(r*65536+xi)%y:=by omega
   simp+decide (disch:=try exact D5 h7 h8 h9 e hxx) only[go_sem,h7,h8,h9,e,hxx]
   rw[Qd0 (f:=fun(x:Nat)=> .int .u16 x) (xs:=[xi]) (ys:=dig r) (n:=1) Tr0 rfl (by omega) (by omega) (by omega)]
   simp+decide (disch:=try exact D5 h7 h8 h9 e hxx) only[go_sem,h7,h8,h9,e,hxx]
   refine Qdr hP (Qcf (l:=[xi]++dig r) hlim (by simp;omega)) (by simp+decide (disch:=try exact E0) only[go_sem,Qac,List.contains_cons,List.contains_nil,List.flatMap_cons,List.flatMap_nil,List.append_nil];simp[Nat.add_comm 1,List.take_of_length_le]) rfl ?_
   rw[hvl]
   simp+decide (disch:=try exact D5 h7 h8 h9 e hxx) only[go_sem,h7,h8,h9,e,hxx]
   refine Qa hP (Qpu (x:=r*65536+xi) (y:=y) (by omega) (by unfold nl;omega) hyp) rfl rfl rfl ?_
   rw[Nat.min_eq_right (by omega:(r*65536+xi)/y<=65535)]
   generalize hD:(r*65536+xi)/y=D at *
   simp+decide (disch:=first|omega|rfl|(simp+decide only[go_sem,h7,h8,h9,e,hxx,Nat.mod_eq_of_lt hlt]<;>rfl)|fail) only[go_sem,h7,h8,h9,e,hxx,Nat.mod_eq_of_lt hlt]
   rw[Qd0 (f:=fun(x:Nat)=> .int .u16 x) (xs:=[D]) (ys:=qs) (n:=1) Tr0 rfl (by omega) (by omega) (by omega)]
   simp+decide (disch:=try exact D5 h7 h8 h9 e hxx) only[go_sem,h7,h8,h9,e,hxx]
   refine Qa hP (Qdp (n:=D) (by omega)) rfl rfl rfl ?_
   simp+decide (disch:=try exact D4 h7 h8 h9 e) only[go_sem,h7,h8,h9,e]
   refine Qa hP (Qk4 (x:=y) (y:=D) (by unfold nl;omega) (by omega)) rfl rfl rfl ?_
   simp+decide (disch:=try exact D4 h7 h8 h9 e) only[go_sem,h7,h8,h9,e]
   refine Qa hP (Qu4 (x:=r*65536+xi) (y:=y*D) (by omega) (by omega) (by omega)) rfl rfl rfl ?_
   rw[hsub]
   simp+decide (disch:=try exact D4 h7 h8 h9 e) only[go_sem,h7,h8,h9,e]
   refine Quj 7 n rfl ?_ (by omega) ⟨D::qs,by omega,by simp;omega,?_,?_,?_⟩
   ·simp+decide (disch:=try exact E0) only[go_sem,Qac,List.contains_cons,List.contains_nil,List.flatMap_cons,List.flatMap_nil,List.append_nil]
   ·rw[Qbe];exact⟨hlt,hqs⟩
   ·rw[val,hst.1]
   ·simp+decide (disch:=try exact E1 hst.2) only[go_sem,Qac,List.contains_cons,List.contains_nil,List.flatMap_cons,List.flatMap_nil,List.append_nil,hst.2]
    simp[Nat.add_comm 1,List.take_of_length_le]
  ·obtain rfl:k=0:=by omega
   rw[List.drop_zero,hxv]at hqv h8
   simp+decide (disch:=try exact D2 h7 h8) only[go_sem,h7,h8]
   refine Qa hP (Qcf hqs (by omega)) rfl rfl rfl ?_
   simp+decide (disch:=try exact D2 h7 h8) only[go_sem,h7,h8]
   exact Qhi rfl rfl rfl rfl (Qgu (by rw[hqv])) (Qab _) (Qab _)
theorem Qyi{x y:Nat}(hx:nl x<2^36)(hy:nl y<2^36)(h0:y≠0):Qd Tryz.prog 147 [PV.num x,PV.num y] (· = .tup [PV.num (x/y),PV.num (x%y),.int .i64 0]):=by
 have:=Qnv (Qv x) (Qv y) hx hy
 rwa[Qag,Qag,if_neg h0]at this
theorem Qsl{a b:List Nat}(ha:Qu a)(hb:Qu b)(hla:a.length<2^36)(hlb:b.length<2^36):Qd Tryz.prog 83 [PV.nat a,PV.nat b] (· =PV.num (Nat.gcd (val a) (val b))):=by
 have hda:=Qaz ha
 have hdb:=Qaz hb
 refine Qf Qq Tryz.func83 rfl Qaqb (by simp[c83]) fun C hP=> ?_;simp only[c83,Zo,Zg,Zm,Zc,Zf,Zl,Zh,Zs,Zi,Zb,Zk,Zn,Zu,Zq,Zr,Zz]
 simp+decide (disch:=try exact D0) only[go_sem]
 refine Qa hP (Qcf ha (by omega)) rfl rfl rfl ?_
 simp+decide (disch:=try exact D0) only[go_sem]
 refine Qa hP (Qcf hb (by omega)) rfl rfl rfl ?_
 simp+decide (disch:=try exact D0) only[go_sem]
 refine Qz (by repeat (first|exact Qn|exact Qi|exact Qj|exact Qk|exact Ql|apply Qh|apply Qm|apply Qt|apply Qx|apply Qy|apply Qg|apply Qr)) [(0,1),(5,7),(12,23)] [] (fun m J hp=>∃x y,m=y/\Nat.gcd x y=Nat.gcd (val a) (val b)/\nl x<2^36/\nl y<2^36/\J 0=PV.num x/\J 1=PV.num y/\hp=hp0) (val b) ?_ ?_
 ·refine⟨val a,val b,rfl,rfl,by omega,by omega,?_⟩
  simp+decide (disch:=try exact D0) only[go_sem]
 rintro y J _ ⟨x,_,rfl,hg,hx,hy,h0,h1,rfl⟩
 generalize Nat.gcd (val a) (val b)=g at *
 simp+decide (disch:=try exact D2 h0 h1) only[go_sem,h0,h1]
 refine Qb (fun hc=> ?_) (fun hc=> ?_)
 ·have hy0:y≠0:=fun h=>by rw[h,Qbj]at hc;simp at hc
  have hmod:=Qb8 (Nat.le_of_lt (Nat.mod_lt x (Nat.pos_of_ne_zero hy0)))
  simp+decide (disch:=try exact D2 h0 h1) only[go_sem,h0,h1]
  refine Qa hP (Qyi (x:=x) (y:=y) hx hy hy0) rfl rfl rfl ?_
  simp+decide (disch:=try exact D2 h0 h1) only[go_sem,h0,h1]
  refine Qo (x%y) (Nat.mod_lt _ (Nat.pos_of_ne_zero hy0)) ⟨y,x%y,rfl,?_,hy,by omega,?_⟩
  ·rw[<-hg,Nat.gcd_comm x y,Nat.gcd_rec y x,Nat.gcd_comm]
  ·simp+decide (disch:=try exact D0) only[go_sem]
 ·have hy0:y=0:=Qb3.1 (Qdl (by omega))
  subst hy0
  simp+decide (disch:=try exact D1 h0) only[go_sem,h0]
  exact Qc (by rw[<-hg,Nat.gcd_zero_right]) rfl
theorem Qff{n:Bool}{a:List Nat}(ha:Qu a)(hla:a.length<2^42):Qd Tryz.prog 183 [.bool n,PV.nat a] (· =PV.zz (zv n a)):=by
 refine Qf Qq Tryz.func183 rfl Qal1 (by simp[c183]) fun C hP=> ?_;simp only[c183,Zo,Zg,Zm,Zc,Zf,Zl,Zh,Zs,Zi,Zb,Zk,Zn,Zu,Zq,Zr,Zz]
 simp+decide (disch:=try exact D0) only[go_sem]
 refine Qa hP (Qcf ha hla) rfl rfl rfl ?_
 simp+decide (disch:=try exact D0) only[go_sem]
 refine Qg8 (fun hn=> ?_) (fun hn=> ?_)
 all_goals
  simp+decide (disch:=try exact D0) only[go_sem]
  refine Qba ?_
  simp+decide (disch:=try exact D0) only[go_sem]
  exact Qc (by have:=Qwa n (val a);rw[hn]at this;subst hn;simpa[zv]using this) rfl
theorem Qi0{n:Bool}{a:List Nat}(ha:Qu a)(hla:a.length<2^42):Qd Tryz.prog 152 [PV.zi n a] (· =PV.zz (zv n a)):=by
 refine Qf Qq Tryz.func152 rfl Qal2 (by simp[c152]) fun C hP=> ?_;simp only[c152,Zo,Zg,Zm,Zc,Zf,Zl,Zh,Zs,Zi,Zb,Zk,Zn,Zu,Zq,Zr,Zz]
 simp+decide (disch:=try exact D0) only[go_sem]
 refine Qa hP (Qff ha hla) rfl rfl rfl ?_
 simp+decide (disch:=try exact D0) only[go_sem]
 refine Qba ?_
 simp+decide (disch:=try exact D0) only[go_sem]
 exact Qc rfl rfl
theorem Qsm{n m:Bool}{a b:List Nat}(ha:Qu a)(hb:Qu b)(hla:a.length<2^40)(hlb:b.length<2^40):Qd Tryz.prog 148 [PV.zi n a,PV.zi m b] (· =PV.zz (zv n a*zv m b)):=by
 have hr:nl (val a*val b)<2^42:=by have:=Qgs (val a) (val b);have:=Qaz ha;have:=Qaz hb;omega
 refine Qf Qq Tryz.func148 rfl Qal7 (by simp[c148]) fun C hP=> ?_;simp only[c148,Zo,Zg,Zm,Zc,Zf,Zl,Zh,Zs,Zi,Zb,Zk,Zn,Zu,Zq,Zr,Zz]
 simp+decide (disch:=try exact D0) only[go_sem]
 refine Qa hP (Qm9 ha hb hla hlb) rfl rfl rfl ?_
 simp+decide (disch:=try exact D0) only[go_sem]
 refine Qa hP (Qff (n:= !(n==m)) (Qv (val a*val b)) hr) rfl rfl rfl ?_
 simp+decide (disch:=try exact D0) only[go_sem]
 refine Qba ?_
 simp+decide (disch:=try exact D0) only[go_sem]
 exact Qc (congrArg PV.zz (by rw[Qiv];unfold zv;cases n<;>cases m<;>simp[Int.neg_mul,Int.mul_neg])) rfl
theorem Qpb{x:Int}(h1: -9223372036854775808<=x)(h2:x<=9223372036854775807):Qd Tryz.prog 120 [.int .i64 x] (· =PV.zz x):=by
 refine Qf Qq Tryz.func120 rfl Qal3 (by simp[c120]) fun C hP=> ?_;simp only[c120,Zo,Zg,Zm,Zc,Zf,Zl,Zh,Zs,Zi,Zb,Zk,Zn,Zu,Zq,Zr,Zz]
 simp+decide (disch:=try exact D0) only[go_sem]
 refine Qb (fun hc=> ?_) (fun hc=> ?_)
 ·obtain⟨y,hy⟩:∃y:Nat,x= -((y:Int)+1):=⟨(-(x+1)).toNat,by omega⟩
  have e1:IntKind.i64.wrap (x+1)= -(y:Int):=by rw[Qh5 (by omega) (by omega)];omega
  have e2:IntKind.i64.wrap (0- -(y:Int))=(y:Int):=by rw[Qh5 (by omega) (by omega)];omega
  have e3:IntKind.u64.wrap (y:Int)=(y:Int):=Qf1 (by omega) (by omega)
  have hl1:nl y<=4:=Qe0 (by omega)
  have hl2:nl (y+1)<=4:=Qe0 (by omega)
  simp+decide (disch:=try exact D3 e1 e2 e3) only[go_sem,e1,e2,e3]
  refine Qa hP (Qdp (n:=y) (by omega)) rfl rfl rfl ?_
  simp+decide (disch:=try exact D0) only[go_sem]
  refine Qa hP (Qdp (n:=1) (by omega)) rfl rfl rfl ?_
  simp+decide (disch:=try exact D0) only[go_sem]
  refine Qa hP (Qsk (Qv y) (Qv 1) (show nl y<_ by omega) (show nl 1<_ by rw[Qnr];omega)) rfl rfl rfl ?_
  simp+decide (disch:=try exact D0) only[go_sem]
  refine Qa hP (Qff (n:=true) (Qv (val (dig y)+val (dig 1))) (show nl _<_ by rw[Qag,Qag];omega)) rfl rfl rfl ?_
  simp+decide (disch:=try exact D0) only[go_sem]
  refine Qba ?_
  simp+decide (disch:=try exact D0) only[go_sem]
  exact Qc (congrArg PV.zz (by rw[Qiv,Qag,Qag];simp;omega)) rfl
 ·obtain⟨y,rfl⟩:∃y:Nat,x=y:=⟨x.toNat,by omega⟩
  have hl1:nl y<=4:=Qe0 (by omega)
  simp+decide (disch:=try exact D0) only[go_sem]
  refine Qa hP (Qdp (by omega)) rfl rfl rfl ?_
  simp+decide (disch:=try exact D0) only[go_sem]
  refine Qa hP (Qff (n:=false) (Qv y) (show nl _<_ by omega)) rfl rfl rfl ?_
  simp+decide (disch:=try exact D0) only[go_sem]
  refine Qba ?_
  simp+decide (disch:=try exact D0) only[go_sem]
  exact Qc (congrArg PV.zz (by rw[Qiv];simp)) rfl
theorem Q1a{n:Bool}{a:List Nat}(ha:Qu a)(hla:a.length<2^42):Qd Tryz.prog 88 [PV.zi n a] (· = .int .i64 (sgn (zv n a))):=by
 refine Qf Qq Tryz.func88 rfl Qaqf (by simp[c88]) fun C hP=> ?_;simp only[c88,Zo,Zg,Zm,Zc,Zf,Zl,Zh,Zs,Zi,Zb,Zk,Zn,Zu,Zq,Zr,Zz]
 simp+decide (disch:=try exact D0) only[go_sem]
 refine Qa hP (Qi0 ha hla) rfl rfl rfl ?_
 generalize zv n a=z
 simp+decide (disch:=try exact D0) only[go_sem]
 refine Qb (fun hz=> ?_) (fun hz=> ?_)
 ·have:z=0:=by have:=Qb3.1 (Qdl (n:=z.natAbs) (by omega));omega
  subst this
  simp+decide (disch:=try exact D0) only[go_sem]
  exact Qc rfl rfl
 ·have h0:z≠0:=fun h=>by subst h;exact hz (by simp[Qbj])
  simp+decide (disch:=try exact D0) only[go_sem]
  refine Qj7 (fun hn=> ?_) (fun hn=> ?_)
  ·have hn:z<0:=by simpa using hn
   simp+decide (disch:=try exact D0) only[go_sem]
   exact Qc (by rw[sgn,if_pos hn]) rfl
  ·have hn:¬z<0:=by simpa using hn
   simp+decide (disch:=try exact D0) only[go_sem]
   exact Qc (by rw[sgn,if_neg hn,if_pos (by omega)]) rfl
theorem Qyj{n:Bool}{a:List Nat}(ha:Qu a)(hla:a.length<2^42):Qd Tryz.prog 80 [PV.zi n a] (· = .bool (Qhc n a)):=by
 refine Qf Qq Tryz.func80 rfl Qaqe (by simp[c80]) fun C hP=> ?_;simp only[c80,Zo,Zg,Zm,Zc,Zf,Zl,Zh,Zs,Zi,Zb,Zk,Zn,Zu,Zq,Zr,Zz]
 simp+decide (disch:=try exact D0) only[go_sem]
 refine Qa hP (Qpt ha (by omega)) rfl rfl rfl ?_
 simp+decide (disch:=try exact D0) only[go_sem]
 refine Qg8 (fun hv=> ?_) (fun hv=> ?_)
 ·simp+decide (disch:=try exact D0) only[go_sem]
  refine Qg8 (fun hn=> ?_) (fun hn=> ?_)
  ·simp+decide (disch:=try exact D0) only[go_sem]
   exact Qc (congrArg PV.bool (by unfold Qhc;subst hn;cases a<;>simp_all<;>omega)) rfl
  ·simp+decide (disch:=try exact D0) only[go_sem]
   exact Qc (congrArg PV.bool (by unfold Qhc;subst hn;cases a<;>simp_all)) rfl
 ·simp+decide (disch:=try exact D0) only[go_sem]
  exact Qc (congrArg PV.bool (by unfold Qhc;cases a<;>simp_all)) rfl
theorem Q27{n m:Bool}{a b:List Nat}(ha:Qu a)(hb:Qu b)(hla:a.length<2^41)(hlb:b.length<2^41):Qd Tryz.prog 182 [PV.zi n a,PV.zi m b] (· = .int .i64 (Qcm (zv n a) (zv m b))):=by
 have hx:nl (zv n a).natAbs<2^41:=by rw[Qbu];have:=Qaz ha;omega
 have hy:nl (zv m b).natAbs<2^41:=by rw[Qbu];have:=Qaz hb;omega
 refine Qf Qq Tryz.func182 rfl Qal4 (by simp[c182]) fun C hP=> ?_;simp only[c182,Zo,Zg,Zm,Zc,Zf,Zl,Zh,Zs,Zi,Zb,Zk,Zn,Zu,Zq,Zr,Zz]
 simp+decide (disch:=try exact D0) only[go_sem]
 refine Qa hP (Qi0 ha (by omega)) rfl rfl rfl ?_
 simp+decide (disch:=try exact D0) only[go_sem]
 refine Qa hP (Qi0 hb (by omega)) rfl rfl rfl ?_
 generalize zv n a=x at *
 generalize zv m b=y at *
 have lx:(dig x.natAbs).length<2^41:=hx
 have ly:(dig y.natAbs).length<2^41:=hy
 by_cases hx0:x<0<;>by_cases hy0:y<0
 ·simp+decide (disch:=try exact D2 hx0 hy0) only[go_sem,hx0,hy0]
  refine Qa hP (Qjy (Qv y.natAbs) (Qv x.natAbs) (by omega) (by omega)) rfl rfl rfl ?_
  simp+decide (disch:=try exact D0) only[go_sem]
  exact Qc (congrArg (PV.int .i64) (by rw[Qag,Qag];unfold Qeo Qcm;split<;>split<;>(try split)<;>(try split)<;>omega)) rfl
 ·simp+decide (disch:=try exact D2 hx0 hy0) only[go_sem,hx0,hy0]
  exact Qc (congrArg (PV.int .i64) (by unfold Qcm;rw[if_pos (by omega)])) rfl
 ·simp+decide (disch:=try exact D2 hx0 hy0) only[go_sem,hx0,hy0]
  exact Qc (congrArg (PV.int .i64) (by unfold Qcm;rw[if_neg (by omega),if_pos (by omega)])) rfl
 ·simp+decide (disch:=try exact D2 hx0 hy0) only[go_sem,hx0,hy0]
  refine Qa hP (Qjy (Qv x.natAbs) (Qv y.natAbs) (by omega) (by omega)) rfl rfl rfl ?_
  simp+decide (disch:=try exact D0) only[go_sem]
  exact Qc (congrArg (PV.int .i64) (by rw[Qag,Qag];unfold Qeo Qcm;split<;>split<;>(try split)<;>(try split)<;>omega)) rfl
theorem Q28{n m:Bool}{a b:List Nat}(ha:Qu a)(hb:Qu b)(hla:a.length<2^40)(hlb:b.length<2^40):Qd Tryz.prog 150 [PV.zi n a,PV.zi m b] (· =PV.zz (zv n a+zv m b)):=by
 have hda:=Qaz ha
 have hdb:=Qaz hb
 refine Qf Qq Tryz.func150 rfl Qal6 (by simp[c150]) fun C hP=> ?_;simp only[c150,Zo,Zg,Zm,Zc,Zf,Zl,Zh,Zs,Zi,Zb,Zk,Zn,Zu,Zq,Zr,Zz]
 simp+decide (disch:=try exact D0) only[go_sem]
 refine Qj7 (fun hnm=> ?_) (fun hnm=> ?_)
 ·have hnm:n=m:=by simpa using hnm
  subst hnm
  have hr:=Q8e (val a) (val b)
  simp+decide (disch:=try exact D0) only[go_sem]
  refine Qa hP (Qsk ha hb hla hlb) rfl rfl rfl ?_
  simp+decide (disch:=try exact D0) only[go_sem]
  refine Qa hP (Qff (n:=n) (Qv (val a+val b)) (show nl _<_ by omega)) rfl rfl rfl ?_
  simp+decide (disch:=try exact D0) only[go_sem]
  refine Qba ?_
  simp+decide (disch:=try exact D0) only[go_sem]
  exact Qc (congrArg PV.zz (by rw[Qiv];unfold zv;split<;>simp<;>omega)) rfl
 have hnm:n= !m:=by cases n<;>cases m<;>simp_all
 subst hnm
 simp+decide (disch:=try exact D0) only[go_sem]
 refine Qa hP (Qm8 ha hb hla hlb) rfl rfl rfl ?_
 by_cases hc:val a<val b
 ·rw[if_pos hc]
  have hr:=Qb8 (Nat.sub_le (val b) (val a))
  simp+decide (disch:=try exact D0) only[go_sem]
  refine Qa hP (Qm8 hb ha hlb hla) rfl rfl rfl ?_
  rw[if_neg (by omega)]
  simp+decide (disch:=try exact D0) only[go_sem]
  refine Qa hP (Qff (n:=m) (Qv (val b-val a)) (show nl _<_ by omega)) rfl rfl rfl ?_
  simp+decide (disch:=try exact D0) only[go_sem]
  refine Qba ?_
  simp+decide (disch:=try exact D0) only[go_sem]
  exact Qc (congrArg PV.zz (by rw[Qiv];unfold zv;cases m<;>simp<;>omega)) rfl
 ·rw[if_neg hc]
  have hr:=Qb8 (Nat.sub_le (val a) (val b))
  simp+decide (disch:=try exact D0) only[go_sem]
  refine Qa hP (Qff (n:= !m) (Qv (val a-val b)) (show nl _<_ by omega)) rfl rfl rfl ?_
  simp+decide (disch:=try exact D0) only[go_sem]
  refine Qba ?_
  simp+decide (disch:=try exact D0) only[go_sem]
  exact Qc (congrArg PV.zz (by rw[Qiv];unfold zv;cases m<;>simp<;>omega)) rfl
theorem Qqv{a:List Nat}{g:Nat}(ha:Qu a)(hx:a.length<2^36)(hy:nl g<2^36)(h0:g≠0):Qd Tryz.prog 147 [PV.nat a,PV.num g] (· = .tup [PV.num (val a/g),PV.num (val a%g),.int .i64 0]):=by
 have:=Qnv ha (Qv g) hx hy
 rwa[Qag,if_neg h0]at this
theorem Qaqo(n:Bool)(a:List Nat)(D:Nat):zv n (dig (val a/Nat.gcd (val a) D))=zv n a/(Nat.gcd (zv n a).natAbs D:Int):=by
 rw[Qbu,Qiv]
 unfold zv
 cases n
 ·simp
 ·have hd:((Nat.gcd (val a) D:Nat):Int)∣(val a:Int):=Int.natCast_dvd_natCast.2 (Nat.gcd_dvd_left _ _)
  simp only[if_true]
  rw[Int.neg_ediv_of_dvd hd,Int.natCast_ediv]
theorem Qqw{n:Bool}{a d:List Nat}(ha:Qu a)(hd:Qu d)(hla:a.length<2^36)(hld:d.length<2^36):Qd Tryz.prog 119 [PV.zi n a,PV.nat d] (· =PV.rat (rv n a d)):=by
 have hna:=Qaz ha
 have hnd:=Qaz hd
 refine Qf Qq Tryz.func119 rfl Qal8 (by simp[c119]) fun C hP=> ?_;simp only[c119,Zo,Zg,Zm,Zc,Zf,Zl,Zh,Zs,Zi,Zb,Zk,Zn,Zu,Zq,Zr,Zz]
 simp+decide (disch:=try exact D0) only[go_sem]
 refine Qa hP (Qcf hd (by omega)) rfl rfl rfl ?_
 simp+decide (disch:=try exact D0) only[go_sem]
 refine Qb (fun hz=> ?_) (fun hz=> ?_)
 ·have h0:val d=0:=Qb3.1 (Qdl (n:=val d) (by omega))
  simp+decide (disch:=try exact D0) only[go_sem]
  refine Qa hP (Qdp (n:=1) (by omega)) rfl rfl rfl ?_
  simp+decide (disch:=try exact D0) only[go_sem]
  refine Qba ?_
  simp+decide (disch:=try exact D0) only[go_sem]
  exact(by unfold rv;rw[Qr1 (.inl h0),Qha];exact Qew Q36 rfl)
 ·have h0:val d≠0:=fun h=>by rw[h,Qbj]at hz;exact hz rfl
  have hg0:Nat.gcd (val a) (val d)≠0:=fun h=>h0 (Nat.gcd_eq_zero_iff.1 h).2
  have hg:=Qb8 (Nat.gcd_le_right (val a) (Nat.pos_of_ne_zero h0))
  have hq:=Q86 (val a) (Nat.gcd (val a) (val d))
  simp+decide (disch:=try exact D0) only[go_sem]
  refine Qa hP (Qsl ha hd hla hld) rfl rfl rfl ?_
  simp+decide (disch:=try exact D0) only[go_sem]
  refine Qa hP (Qqv ha hla (by omega) hg0) rfl rfl rfl ?_
  simp+decide (disch:=try exact D0) only[go_sem]
  refine Qa hP (Qqv hd hld (by omega) hg0) rfl rfl rfl ?_
  simp+decide (disch:=try exact D0) only[go_sem]
  refine Qa hP (Qi0 (n:=n) (Qv (val a/Nat.gcd (val a) (val d))) (show nl _<_ by omega)) rfl rfl rfl ?_
  rw[Qaqo]
  have hm:=Qkc (z:=zv n a) h0
  simp+decide (disch:=try exact D0) only[go_sem]
  refine Qba ?_
  simp+decide (disch:=try exact D0) only[go_sem]
  exact Qc (by unfold rv;rw[PV.rat,hm.1,hm.2,Qbu]) rfl
theorem Qdq{n:Bool}{a d:List Nat}{k:Nat}(hp:Raw k n a d)(hk:k<2^36):Qd Tryz.prog 89 [PV.rr n a d] (· =PV.rat (rv n a d)):=by
 obtain⟨ha,hd,sa,sd,k1⟩:=hp
 refine Qf Qq Tryz.func89 rfl Qaqh (by simp[c89]) fun C hP=> ?_;simp only[c89,Zo,Zg,Zm,Zc,Zf,Zl,Zh,Zs,Zi,Zb,Zk,Zn,Zu,Zq,Zr,Zz]
 simp+decide (disch:=try exact D0) only[go_sem]
 refine Qa hP (Qqw (n:=n) ha hd (by omega) (by omega)) rfl rfl rfl ?_
 simp+decide (disch:=try exact D0) only[go_sem]
 refine Qba ?_
 simp+decide (disch:=try exact D0) only[go_sem]
 exact Qc rfl rfl
theorem Qhf{z:Int}{D:Nat}(hz:nl z.natAbs<2^36)(hD:nl D<2^36):Qd Tryz.prog 119 [PV.zz z,PV.num D] (· =PV.rat (mkRat z D)):=by
 have:=Qqw (n:=decide (z<0)) (Qv z.natAbs) (Qv D) hz hD
 rwa[rv,Qf2,Qag]at this
theorem Qi1{x:Int}(h1: -9223372036854775808<=x)(h2:x<=9223372036854775807):Qd Tryz.prog 50 [.int .i64 x] (· =PV.rat (x:Rat)):=by
 have hl1:nl x.natAbs<=4:=Qe0 (by omega)
 refine Qf Qq Tryz.func50 rfl Qaqi (by simp[c50]) fun C hP=> ?_;simp only[c50,Zo,Zg,Zm,Zc,Zf,Zl,Zh,Zs,Zi,Zb,Zk,Zn,Zu,Zq,Zr,Zz]
 simp+decide (disch:=try exact D0) only[go_sem]
 refine Qa hP (Qpb h1 h2) rfl rfl rfl ?_
 simp+decide (disch:=try exact D0) only[go_sem]
 refine Qa hP (Qdp (n:=1) (by omega)) rfl rfl rfl ?_
 simp+decide (disch:=try exact D0) only[go_sem]
 refine Qa hP (Qhf (z:=x) (D:=1) (by omega) (by rw[Qnr];omega)) rfl rfl rfl ?_
 simp+decide (disch:=try exact D0) only[go_sem]
 refine Qba ?_
 simp+decide (disch:=try exact D0) only[go_sem]
 exact Qc (congrArg PV.rat (Rat.mkRat_one x)) rfl
theorem Qfb(d:List Nat):Qd Tryz.prog 151 [PV.nat d] (· =PV.zi false d):=by
 refine Qf Qq Tryz.func151 rfl Qama (by simp[c151]) fun C hP=> ?_;simp only[c151,Zo,Zg,Zm,Zc,Zf,Zl,Zh,Zs,Zi,Zb,Zk,Zn,Zu,Zq,Zr,Zz]
 simp+decide (disch:=try exact D0) only[go_sem]
 refine Qba ?_
 simp+decide (disch:=try exact D0) only[go_sem]
 exact Qc rfl rfl
theorem Qu5{x:Int}(hx:nl x.natAbs<2^42):Qd Tryz.prog 88 [PV.zz x] (· = .int .i64 (sgn x)):=by
 have:=Q1a (n:=decide (x<0)) (Qv x.natAbs) hx
 rwa[Qf2]at this
theorem Qi2{n:Bool}{a d:List Nat}{k:Nat}(hp:Raw k n a d)(hk:k<2^36):Qd Tryz.prog 27 [PV.rr n a d] (· = .int .i64 (Qee (rv n a d))):=by
 have hs:=hp.rs
 unfold FW.rs at hs
 refine Qf Qq Tryz.func27 rfl Qaqj (by simp[c27]) fun C hP=> ?_;simp only[c27,Zo,Zg,Zm,Zc,Zf,Zl,Zh,Zs,Zi,Zb,Zk,Zn,Zu,Zq,Zr,Zz]
 simp+decide (disch:=try exact D0) only[go_sem]
 refine Qa hP (Qdq hp hk) rfl rfl rfl ?_
 simp+decide (disch:=try exact D0) only[go_sem]
 refine Qa hP (Qu5 (x:=(rv n a d).num) (by omega)) rfl rfl rfl ?_
 simp+decide (disch:=try exact D0) only[go_sem]
 exact Qc rfl rfl
theorem Qig{x:Int}{d:Nat}(hx:nl x.natAbs<2^40)(hy:nl d<2^40):Qd Tryz.prog 148 [PV.zz x,PV.zi false (dig d)] (· =PV.zz (x*(d:Int))):=by
 have:=Qsm (n:=decide (x<0)) (m:=false) (Qv x.natAbs) (Qv d) hx hy
 rwa[Qf2,Qgw,Qag]at this
theorem Qaah{x y:Int}(hx:nl x.natAbs<2^40)(hy:nl y.natAbs<2^40):Qd Tryz.prog 150 [PV.zz x,PV.zz y] (· =PV.zz (x+y)):=by
 have:=Q28 (n:=decide (x<0)) (m:=decide (y<0)) (Qv x.natAbs) (Qv y.natAbs) hx hy
 rwa[Qf2,Qf2]at this
theorem Qaai{x y:Int}(hx:nl x.natAbs<2^41)(hy:nl y.natAbs<2^41):Qd Tryz.prog 182 [PV.zz x,PV.zz y] (· = .int .i64 (Qcm x y)):=by
 have:=Q27 (n:=decide (x<0)) (m:=decide (y<0)) (Qv x.natAbs) (Qv y.natAbs) hx hy
 rwa[Qf2,Qf2]at this
theorem Q29{n m:Bool}{a d b c:List Nat}{k:Nat}(hp:Raw k n a d)(hq:Raw k m b c)(hk:k<2^34):Qd Tryz.prog 85 [PV.rr n a d,PV.rr m b c] (· =PV.rat (rv n a d*rv m b c)):=by
 obtain⟨ha,hd,sa,sd,k1⟩:=hp
 obtain⟨hb,hc,sb,sc,k2⟩:=hq
 have h1:=Qa8 (zv n a) (zv m b)
 have h2:=Qgs (val d) (val c)
 rw[Qbu,Qbu]at h1
 have e1:=Qaz ha
 have e2:=Qaz hd
 have e3:=Qaz hb
 have e4:=Qaz hc
 refine Qf Qq Tryz.func85 rfl Qaqn (by simp[c85]) fun C hP=> ?_;simp only[c85,Zo,Zg,Zm,Zc,Zf,Zl,Zh,Zs,Zi,Zb,Zk,Zn,Zu,Zq,Zr,Zz]
 simp+decide (disch:=try exact D0) only[go_sem]
 refine Qa hP (Qsm (n:=n) (m:=m) ha hb (by omega) (by omega)) rfl rfl rfl ?_
 simp+decide (disch:=try exact D0) only[go_sem]
 refine Qa hP (Qm9 hd hc (by omega) (by omega)) rfl rfl rfl ?_
 simp+decide (disch:=try exact D0) only[go_sem]
 refine Qa hP (Qhf (z:=zv n a*zv m b) (D:=val d*val c) (by omega) (by omega)) rfl rfl rfl ?_
 simp+decide (disch:=try exact D0) only[go_sem]
 refine Qba ?_
 simp+decide (disch:=try exact D0) only[go_sem]
 exact Qc (congrArg PV.rat (Rat.mkRat_mul_mkRat _ _ _ _).symm) rfl
theorem Qsn{n m:Bool}{a d b c:List Nat}{k:Nat}(hp:Raw k n a d)(hq:Raw k m b c)(hk:k<2^34):Qd Tryz.prog 118 [PV.rr n a d,PV.rr m b c] (· = .int .i64 (Qjh (rv n a d) (rv m b c))):=by
 have hx:=hp.rs
 have hy:=hq.rs
 unfold FW.rs at hx hy
 refine Qf Qq Tryz.func118 rfl Qamb (by simp[c118]) fun C hP=> ?_;simp only[c118,Zo,Zg,Zm,Zc,Zf,Zl,Zh,Zs,Zi,Zb,Zk,Zn,Zu,Zq,Zr,Zz]
 simp+decide (disch:=try exact D0) only[go_sem]
 refine Qa hP (Qdq hp (by omega)) rfl rfl rfl ?_
 simp+decide (disch:=try exact D0) only[go_sem]
 refine Qa hP (Qdq hq (by omega)) rfl rfl rfl ?_
 generalize rv n a d=p at *
 generalize rv m b c=q at *
 have h1:=Qa8 p.num (q.den:Int)
 have h2:=Qa8 q.num (p.den:Int)
 rw[Int.natAbs_natCast]at h1 h2
 simp+decide (disch:=try exact D0) only[go_sem]
 refine Qa hP (Qfb (dig q.den)) rfl rfl rfl ?_
 simp+decide (disch:=try exact D0) only[go_sem]
 refine Qa hP (Qig (x:=p.num) (d:=q.den) (by omega) (by omega)) rfl rfl rfl ?_
 simp+decide (disch:=try exact D0) only[go_sem]
 refine Qa hP (Qfb (dig p.den)) rfl rfl rfl ?_
 simp+decide (disch:=try exact D0) only[go_sem]
 refine Qa hP (Qig (x:=q.num) (d:=p.den) (by omega) (by omega)) rfl rfl rfl ?_
 simp+decide (disch:=try exact D0) only[go_sem]
 refine Qa hP (Qaai (x:=p.num*(q.den:Int)) (y:=q.num*(p.den:Int)) (by omega) (by omega)) rfl rfl rfl ?_
 simp+decide (disch:=try exact D0) only[go_sem]
 exact Qc (congrArg (PV.int .i64) (by rw[<-Q37 p.den_nz q.den_nz,Rat.mkRat_self,Rat.mkRat_self])) rfl
theorem Qpv{n m:Bool}{a d b c:List Nat}{k:Nat}(hp:Raw k n a d)(hq:Raw k m b c)(hk:k<2^34):Qd Tryz.prog 49 [PV.rr n a d,PV.rr m b c] (· = .bool (decide (rv n a d=rv m b c))):=by
 refine Qf Qq Tryz.func49 rfl Qaqk (by simp[c49]) fun C hP=> ?_;simp only[c49,Zo,Zg,Zm,Zc,Zf,Zl,Zh,Zs,Zi,Zb,Zk,Zn,Zu,Zq,Zr,Zz]
 simp+decide (disch:=try exact D0) only[go_sem]
 refine Qa hP (Qsn hp hq hk) rfl rfl rfl ?_
 simp+decide (disch:=try exact D0) only[go_sem]
 exact Qc (congrArg PV.bool (decide_eq_decide.2 Qml)) rfl
theorem Qso{n m:Bool}{a d b c:List Nat}{k:Nat}(hp:Raw k n a d)(hq:Raw k m b c)(hk:k<2^34):Qd Tryz.prog 87 [PV.rr n a d,PV.rr m b c] (· =PV.rat (rv n a d+rv m b c)):=by
 have hx:=hp.rs
 have hy:=hq.rs
 unfold FW.rs at hx hy
 refine Qf Qq Tryz.func87 rfl Qaqm (by simp[c87]) fun C hP=> ?_;simp only[c87,Zo,Zg,Zm,Zc,Zf,Zl,Zh,Zs,Zi,Zb,Zk,Zn,Zu,Zq,Zr,Zz]
 simp+decide (disch:=try exact D0) only[go_sem]
 refine Qa hP (Qdq hp (by omega)) rfl rfl rfl ?_
 simp+decide (disch:=try exact D0) only[go_sem]
 refine Qa hP (Qdq hq (by omega)) rfl rfl rfl ?_
 generalize rv n a d=p at *
 generalize rv m b c=q at *
 have h1:=Qa8 p.num (q.den:Int)
 have h2:=Qa8 q.num (p.den:Int)
 have h3:=Qga (p.num*(q.den:Int)) (q.num*(p.den:Int))
 have h4:=Qgs p.den q.den
 rw[Int.natAbs_natCast]at h1 h2
 simp+decide (disch:=try exact D0) only[go_sem]
 refine Qa hP (Qfb (dig q.den)) rfl rfl rfl ?_
 simp+decide (disch:=try exact D0) only[go_sem]
 refine Qa hP (Qig (x:=p.num) (d:=q.den) (by omega) (by omega)) rfl rfl rfl ?_
 simp+decide (disch:=try exact D0) only[go_sem]
 refine Qa hP (Qfb (dig p.den)) rfl rfl rfl ?_
 simp+decide (disch:=try exact D0) only[go_sem]
 refine Qa hP (Qig (x:=q.num) (d:=p.den) (by omega) (by omega)) rfl rfl rfl ?_
 simp+decide (disch:=try exact D0) only[go_sem]
 refine Qa hP (Qaah (x:=p.num*(q.den:Int)) (y:=q.num*(p.den:Int)) (by omega) (by omega)) rfl rfl rfl ?_
 simp+decide (disch:=try exact D0) only[go_sem]
 refine Qa hP (Qk4 (x:=p.den) (y:=q.den) (by omega) (by omega)) rfl rfl rfl ?_
 simp+decide (disch:=try exact D0) only[go_sem]
 refine Qa hP (Qhf (z:=p.num*(q.den:Int)+q.num*(p.den:Int)) (D:=p.den*q.den) (by omega) (by omega)) rfl rfl rfl ?_
 simp+decide (disch:=try exact D0) only[go_sem]
 refine Qba ?_
 simp+decide (disch:=try exact D0) only[go_sem]
 exact Qc (congrArg PV.rat (by rw[<-Rat.mkRat_add_mkRat _ _ p.den_nz q.den_nz,Rat.mkRat_self,Rat.mkRat_self])) rfl
theorem Qpw{n:Bool}{a d:List Nat}{k:Nat}(hp:Raw k n a d)(hk:k<2^36):Qd Tryz.prog 25 [PV.rr n a d] (· = .bool (Qf3 n a d)):=by
 obtain⟨ha,hd,sa,sd,k1⟩:=hp
 have hgl:(dig (Nat.gcd (val a) (val d))).length<2^43:=by
  by_cases h0:val d=0
  ·rw[h0,Nat.gcd_zero_right]
   have h4:=Qaz ha
   unfold nl at h4;omega
  ·have h3:=Qb8 (Nat.gcd_le_right (val a) (Nat.pos_of_ne_zero h0))
   have h4:=Qaz hd
   unfold nl at h3 h4;omega
 refine Qf Qq Tryz.func25 rfl Qaqg (by simp[c25]) fun C hP=> ?_;simp only[c25,Zo,Zg,Zm,Zc,Zf,Zl,Zh,Zs,Zi,Zb,Zk,Zn,Zu,Zq,Zr,Zz]
 simp+decide (disch:=try exact D0) only[go_sem]
 refine Qa hP (Qyj ha (by omega)) rfl rfl rfl ?_
 unfold Qf3
 simp+decide (disch:=try exact D0) only[go_sem]
 cases hio:Qhc n a
 ·simp+decide (disch:=try exact D0) only[go_sem]
  exact Qc (by simp) rfl
 rw[Bool.true_and]
 simp+decide (disch:=try exact D0) only[go_sem]
 refine Qa hP (Qpt hd (by omega)) rfl rfl rfl ?_
 simp+decide (disch:=try exact D0) only[go_sem]
 refine Qg8 (fun hv=> ?_) (fun hv=> ?_)
 ·simp+decide (disch:=try exact D0) only[go_sem]
  refine Qa hP (Qsl ha hd (by omega) (by omega)) rfl rfl rfl ?_
  simp+decide (disch:=try exact D0) only[go_sem]
  refine Qa hP (Qdp (n:=1) (by omega)) rfl rfl rfl ?_
  simp+decide (disch:=try exact D0) only[go_sem]
  refine Qa hP (Q09 hgl (by rw[Qha];decide)) rfl rfl rfl ?_
  rw[Qha,decide_eq_decide.2 (Qr7 (Nat.gcd (val a) (val d)))]
  simp+decide (disch:=try exact D0) only[go_sem]
  refine Qaw (fun hg=> ?_) (fun hg=> ?_)
  ·simp+decide (disch:=try exact D0) only[go_sem]
   exact Qc (congrArg PV.bool (by cases d<;>simp_all)) rfl
  ·simp+decide (disch:=try exact D0) only[go_sem]
   exact Qc (congrArg PV.bool (by simp[hg])) rfl
 ·simp+decide (disch:=try exact D0) only[go_sem]
  exact Qc (congrArg PV.bool (by simp_all)) rfl
theorem Ql4(x:Int):Qd Tryz.prog 132 [.int .i64 x] (· = .int .i64 (sgn x)):=by
 refine Qf Qq Tryz.func132 rfl Qala (by simp[c132]) fun C hP=> ?_;simp only[c132,Zo,Zg,Zm,Zc,Zf,Zl,Zh,Zs,Zi,Zb,Zk,Zn,Zu,Zq,Zr,Zz]
 simp+decide (disch:=try exact D0) only[go_sem]
 refine Qb (fun h=> ?_) (fun h=> ?_)
 ·simp+decide (disch:=try exact D0) only[go_sem]
  exact Qc (by rw[sgn,if_pos h]) rfl
 simp+decide (disch:=try exact D0) only[go_sem]
 refine Qb (fun h2=> ?_) (fun h2=> ?_)
 ·simp+decide (disch:=try exact D0) only[go_sem]
  exact Qc (by rw[sgn,if_neg h,if_pos h2]) rfl
 ·simp+decide (disch:=try exact D0) only[go_sem]
  exact Qc (by rw[sgn,if_neg h,if_neg h2]) rfl
theorem Q3a{a:List Int}{v:Int}(hl:a.length<2^42):Qd Tryz.prog 66 [PV.mono a,.int .i64 v] (· = .int .i64 (if v<0 then 0 else eN a v.toNat)):=by
 refine Qf Qq Tryz.func66 rfl Qapl (by simp[c66]) fun C hP=> ?_;simp only[c66,Zo,Zg,Zm,Zc,Zf,Zl,Zh,Zs,Zi,Zb,Zk,Zn,Zu,Zq,Zr,Zz]
 simp+decide (disch:=try exact D0) only[go_sem]
 refine Qal (fun h1=> ?_) (fun h1=> ?_)
 ·simp+decide (disch:=try exact D0) only[go_sem]
  exact Qc (by rw[if_pos h1]) rfl
 ·obtain⟨n,rfl⟩:∃n:Nat,v=n:=⟨v.toNat,by omega⟩
  rw[if_neg h1]
  simp+decide (disch:=try exact D0) only[go_sem]
  refine Qb (fun h2=> ?_) (fun h2=> ?_)
  ·simp+decide (disch:=try exact D0) only[go_sem]
   exact Qc (by rw[Qed (by omega)]) rfl
  ·have hn:n<a.length:=by omega
   simp+decide (disch:=try exact D0) only[go_sem]
   exact Qc (by rw[Qde hn]) rfl
theorem Qc0{a:List Int}{i:Nat}(hl:a.length<2^42):Qd Tryz.prog 66 [PV.mono a,.int .i64 i] (· = .int .i64 (eN a i)):=by
 have:=Q3a (v:=i) hl
 rwa[if_neg (by omega),Int.toNat_natCast]at this
theorem Qhg{a:List Int}(hl:a.length<=1048576)(hb:∀x∈a,0<=x/\x<=1099511627776):Qd Tryz.prog 131 [PV.mono a] (· = .int .i64 (Qgi a)):=by
 refine Qf Qq Tryz.func131 rfl Qak9 (by simp[c131]) fun C hP=> ?_;simp only[c131,Zo,Zg,Zm,Zc,Zf,Zl,Zh,Zs,Zi,Zb,Zk,Zn,Zu,Zq,Zr,Zz]
 simp+decide (disch:=try exact D0) only[go_sem]
 refine Qz (by repeat (first|exact Qn|exact Qi|exact Qj|exact Qk|exact Ql|apply Qh|apply Qm|apply Qt|apply Qx|apply Qy|apply Qg|apply Qr)) [(3,16)] [] (fun k J hp=>∃(i:Nat)(s:Int),k=a.length-i/\i<=a.length/\0<=s/\s<=1099511627776*i/\s+(a.drop i).sum=Qgi a/\J 4= .int .i64 (i:Nat)/\J 3= .int .i64 s/\hp=hp0) a.length ?_ ?_
 ·refine⟨0,0,rfl,by omega,by omega,by omega,by simp[Qgi],?_⟩
  simp+decide (disch:=try exact D0) only[go_sem]
  simp
 rintro _ J _ ⟨i,s,rfl,hi,hs0,hs1,hsum,h4,h3,rfl⟩
 simp+decide (disch:=try exact D2 h4 h3) only[go_sem,h4,h3]
 refine Qb (fun hg=> ?_) (fun hg=> ?_)
 ·have hi':i<a.length:=by omega
  have hx:=hb _ (List.getElem_mem hi')
  rw[List.drop_eq_getElem_cons hi',List.sum_cons]at hsum
  generalize hxx:a[i]=x at *
  simp+decide (disch:=try exact D3 h4 h3 hxx) only[go_sem,h4,h3,hxx]
  refine Qo (a.length-(i+1)) (by omega) ⟨i+1,s+x,rfl,by omega,by omega,by push_cast;omega,by omega,?_⟩
  simp+decide (disch:=try exact D0) only[go_sem]
 ·rw[List.drop_of_length_le (by omega),List.sum_nil,Int.add_zero]at hsum
  simp+decide (disch:=try exact D1 h3) only[go_sem,h3]
  exact Qc (by rw[hsum]) rfl
theorem Q3b{l:List Int}(hl:l.length<2^42):Qd Tryz.prog 202 [PV.mono l] (· =PV.mono (Qbb l)):=by
 refine Qf Qq Tryz.func202 rfl Qak7 (by simp[c202]) fun C hP=> ?_;simp only[c202,Zo,Zg,Zm,Zc,Zf,Zl,Zh,Zs,Zi,Zb,Zk,Zn,Zu,Zq,Zr,Zz]
 simp+decide (disch:=try exact D0) only[go_sem]
 refine Qz (by repeat (first|exact Qn|exact Qi|exact Qj|exact Qk|exact Ql|apply Qh|apply Qm|apply Qt|apply Qx|apply Qy|apply Qg|apply Qr)) [(3,3),(7,18)] [] (fun m J hp=>m<=l.length/\Qgx l m=Qbb l/\J 3= .int .i64 m/\hp=hp0) l.length ?_ ?_
 ·refine⟨Nat.le_refl _,rfl,?_⟩
  simp+decide (disch:=try exact D0) only[go_sem]
 rintro n J _ ⟨hn,hc,h3,rfl⟩
 simp+decide (disch:=try exact D1 h3) only[go_sem,h3]
 refine Qaw (fun hg=> ?_) (fun hg=> ?_)
 ·obtain _|n:=n
  ·omega
  have e:((n+1:Nat):Int)-1=n:=by omega
  simp only[Qgx]at hc
  simp+decide (disch:=try exact D2 h3 e) only[go_sem,h3,e]
  refine Qb (fun hz=> ?_) (fun hz=> ?_)
  ·rw[if_pos (by simp[hz,show n<l.length by omega])]at hc
   simp+decide (disch:=try exact D2 h3 e) only[go_sem,h3,e]
   refine Qo n (by omega) ⟨by omega,hc,?_⟩
   simp+decide (disch:=try exact D0) only[go_sem]
  ·rw[if_neg (by simpa[show n<l.length by omega]using hz)]at hc
   have hlt:(l.take (n+1)).length<2^42:=by rw[List.length_take];omega
   simp+decide (disch:=try exact E2 h3 e) only[go_sem,h3,e,Qac,List.contains_cons,List.contains_nil,List.flatMap_cons,List.flatMap_nil,List.append_nil]
   exact Qc (by rw[List.take_of_length_le (by simp),hc]) rfl
 ·obtain rfl:n=0:=by omega
  simp+decide (disch:=first|omega|rfl|(simp+decide only[go_sem,h3,List.take_zero,List.map_nil,List.length_nil]<;>rfl)|fail) only[go_sem,h3,List.take_zero,List.map_nil,List.length_nil]
  rw[Qky (ys:=[]) rfl (by omega) (by simp) (by simp)]
  simp+decide (disch:=try exact E0) only[go_sem,Qac,List.contains_cons,List.contains_nil,List.flatMap_cons,List.flatMap_nil,List.append_nil]
  exact Qc (by rw[<-hc];rfl) rfl
theorem Qhz{a:List Int}(hl:a.length<2^42):Qd Tryz.prog 64 [PV.mono a] (· = .bool (Qaj a)):=by
 refine Qf Qq Tryz.func64 rfl Qapk (by simp[c64]) fun C hP=> ?_;simp only[c64,Zo,Zg,Zm,Zc,Zf,Zl,Zh,Zs,Zi,Zb,Zk,Zn,Zu,Zq,Zr,Zz]
 simp+decide (disch:=try exact D0) only[go_sem]
 have bad:(64<a.length∨a.getLast? =some 0∨∃x∈a,x<0∨1048576<x)->Qaj a=false:=fun h=>by
  cases hb:Qaj a with
  |false=>rfl
  |true=>
   have:=MB.ofOk hb
   simp only[Qaj,Bool.and_eq_true,decide_eq_true_eq]at hb
   rcases h with h|h|⟨x,hx,h⟩
   ·omega
   ·exact absurd h hb.2.1
   ·have h5:=this.lo x hx;have h6:=this.hi x hx;omega
 refine Qal (fun h1=> ?_) (fun h1=> ?_)
 ·simp+decide (disch:=try exact D0) only[go_sem]
  exact Qc (by rw[bad (.inl (by omega))]) rfl
 simp+decide (disch:=try exact D0) only[go_sem]
 have fin:a.length<=64->a.getLast? ≠some 0->(∀x∈a,0<=x/\x<=1048576)->Qaj a=true:=fun h1 h2 h3=>by
  simp only[Qaj,Bool.and_eq_true,decide_eq_true_eq,List.all_eq_true];exact⟨h1,h2,h3⟩
 refine Qaw (fun h2=> ?_) (fun h2=> ?_)
 ·obtain⟨k,hk⟩:∃k,a.length=k+1:=⟨a.length-1,by omega⟩
  have hlast:=Qs9 hk
  have e:((k+1:Nat):Int)-1=k:=by omega
  generalize hy:a[k]'(by omega)=y at *
  simp+decide (disch:=try exact D3 hk e hy) only[go_sem,hk,e,hy]
  refine Qb (fun h3=> ?_) (fun h3=> ?_)
  ·simp+decide (disch:=try exact D0) only[go_sem]
   exact Qc (by rw[bad (.inr (.inl (by rw[hlast,h3])))]) rfl
  have hlast:a.getLast? ≠some 0:=by rw[hlast];simpa using h3
  rw[<-hk]at *
  simp+decide (disch:=try exact D0) only[go_sem]
  refine Qz (by repeat (first|exact Qn|exact Qi|exact Qj|exact Qk|exact Ql|apply Qh|apply Qm|apply Qt|apply Qx|apply Qy|apply Qg|apply Qr)) [(2,3),(21,38)] [] (fun k J hp=>∃i,k=a.length-i/\i<=a.length/\(∀x∈a.take i,0<=x/\x<=1048576)/\J 3= .int .i64 i/\hp=hp0) a.length ?_ ?_
  ·refine⟨0,rfl,by omega,by simp,?_⟩
   simp+decide (disch:=try exact D0) only[go_sem]
   rfl
  rintro _ J _ ⟨i,rfl,hi,hall,hj,rfl⟩
  simp+decide (disch:=try exact D1 hj) only[go_sem,hj]
  refine Qb (fun hg=> ?_) (fun hg=> ?_)
  ·have hi':i<a.length:=by omega
   have hmem:=List.getElem_mem hi'
   have htk:∀x∈a.take (i+1),x∈a.take i∨x=a[i]:=fun x hx=>by
    rw[List.take_succ_eq_append_getElem hi']at hx
    rcases List.mem_append.1 hx with h|h
    ·exact .inl h
    ·exact .inr (List.mem_singleton.1 h)
   generalize hx:a[i]=x at *
   simp+decide (disch:=try exact D2 hj hx) only[go_sem,hj,hx]
   refine Qal (fun h5=> ?_) (fun h5=> ?_)
   ·simp+decide (disch:=try exact D0) only[go_sem]
    exact Qc (by rw[bad (.inr (.inr ⟨x,hmem,.inl h5⟩))]) rfl
   ·simp+decide (disch:=try exact D2 hj hx) only[go_sem,hj,hx]
    refine Qb (fun h6=> ?_) (fun h6=> ?_)
    ·simp+decide (disch:=try exact D0) only[go_sem]
     exact Qc (by rw[bad (.inr (.inr ⟨x,hmem,.inr h6⟩))]) rfl
    ·simp+decide (disch:=try exact D1 hj) only[go_sem,hj]
     refine Qo (a.length-(i+1)) (by omega) ⟨i+1,rfl,by omega,fun y hy=> ?_,?_⟩
     ·rcases htk y hy with h|rfl
      ·exact hall y h
      ·omega
     ·simp+decide (disch:=try exact D0) only[go_sem]
  ·rw[List.take_of_length_le (by omega)]at hall
   simp+decide (disch:=try exact D0) only[go_sem]
   exact Qc (by rw[fin (by omega) hlast hall]) rfl
 ·have hnil:a=[]:=List.length_eq_zero_iff.1 (by omega)
  have hlast:a.getLast? ≠some 0:=by rw[hnil];simp
  simp+decide (disch:=try exact D0) only[go_sem]
  refine Qz (by repeat (first|exact Qn|exact Qi|exact Qj|exact Qk|exact Ql|apply Qh|apply Qm|apply Qt|apply Qx|apply Qy|apply Qg|apply Qr)) [(2,3),(21,38)] [] (fun k J hp=>∃i,k=a.length-i/\i<=a.length/\(∀x∈a.take i,0<=x/\x<=1048576)/\J 3= .int .i64 i/\hp=hp0) a.length ?_ ?_
  ·refine⟨0,rfl,by omega,by simp,?_⟩
   simp+decide (disch:=try exact D0) only[go_sem]
   rfl
  rintro _ J _ ⟨i,rfl,hi,hall,hj,rfl⟩
  simp+decide (disch:=try exact D1 hj) only[go_sem,hj]
  refine Qb (fun hg=> ?_) (fun hg=> ?_)
  ·have hi':i<a.length:=by omega
   have hmem:=List.getElem_mem hi'
   have htk:∀x∈a.take (i+1),x∈a.take i∨x=a[i]:=fun x hx=>by
    rw[List.take_succ_eq_append_getElem hi']at hx
    rcases List.mem_append.1 hx with h|h
    ·exact .inl h
    ·exact .inr (List.mem_singleton.1 h)
   generalize hx:a[i]=x at *
   simp+decide (disch:=try exact D2 hj hx) only[go_sem,hj,hx]
   refine Qal (fun h5=> ?_) (fun h5=> ?_)
   ·simp+decide (disch:=try exact D0) only[go_sem]
    exact Qc (by rw[bad (.inr (.inr ⟨x,hmem,.inl h5⟩))]) rfl
   ·simp+decide (disch:=try exact D2 hj hx) only[go_sem,hj,hx]
    refine Qb (fun h6=> ?_) (fun h6=> ?_)
    ·simp+decide (disch:=try exact D0) only[go_sem]
     exact Qc (by rw[bad (.inr (.inr ⟨x,hmem,.inr h6⟩))]) rfl
    ·simp+decide (disch:=try exact D1 hj) only[go_sem,hj]
     refine Qo (a.length-(i+1)) (by omega) ⟨i+1,rfl,by omega,fun y hy=> ?_,?_⟩
     ·rcases htk y hy with h|rfl
      ·exact hall y h
      ·omega
     ·simp+decide (disch:=try exact D0) only[go_sem]
  ·rw[List.take_of_length_le (by omega)]at hall
   simp+decide (disch:=try exact D0) only[go_sem]
   exact Qc (by rw[fin (by omega) hlast hall]) rfl
theorem Q1b{a:List Int}(hl:a.length<2^42):Qd Tryz.prog 164 [PV.mono a] (· =PV.mono (if Qaj (Qbb a)then Qbb a else [])):=by
 have ht:=Qe1 a
 refine Qf Qq Tryz.func164 rfl Qak8 (by simp[c164]) fun C hP=> ?_;simp only[c164,Zo,Zg,Zm,Zc,Zf,Zl,Zh,Zs,Zi,Zb,Zk,Zn,Zu,Zq,Zr,Zz]
 simp+decide (disch:=try exact D0) only[go_sem]
 refine Qa hP (Q3b hl) rfl rfl rfl ?_
 simp+decide (disch:=try exact D0) only[go_sem]
 refine Qa hP (Qhz (by omega)) rfl rfl rfl ?_
 simp+decide (disch:=try exact D0) only[go_sem]
 cases hok:Qaj (Qbb a)
 ·simp+decide (disch:=first|omega|rfl|(simp+decide only[go_sem,Bool.not_false]<;>rfl)|fail) only[go_sem,Bool.not_false]
  exact Qew (Qqh (by simp)) rfl
 ·have:(Qbb a).length<=64:=(MB.ofOk hok).len
  simp+decide (disch:=first|omega|rfl|(simp+decide only[go_sem,Bool.not_true,Qac,List.contains_cons,List.contains_nil,List.flatMap_cons,List.flatMap_nil,List.append_nil]<;>rfl)|fail) only[go_sem,Bool.not_true,Qac,List.contains_cons,List.contains_nil,List.flatMap_cons,List.flatMap_nil,List.append_nil]
  exact Qc (by simp[List.take_of_length_le]) rfl
theorem Qsp{k:Nat}{a b:List Int}(ha:MB k a)(hb:MB k b)(hk:k<=1099511627776):Qd Tryz.prog 98 [PV.mono a,PV.mono b] (· =PV.mono (Qgh (· + ·) a b)):=by
 have h1:=ha.len
 have h2:=hb.len
 have hz:=Qcy (· + ·) a b
 refine Qf Qq Tryz.func98 rfl Qapm (by simp[c98]) fun C hP=> ?_;simp only[c98,Zo,Zg,Zm,Zc,Zf,Zl,Zh,Zs,Zi,Zb,Zk,Zn,Zu,Zq,Zr,Zz]
 simp+decide (disch:=try exact D0) only[go_sem]
 refine Qce 5 900 1 3 (by omega) T0 ?_
 refine Qz (by repeat (first|exact Qn|exact Qi|exact Qj|exact Qk|exact Ql|apply Qh|apply Qm|apply Qt|apply Qx|apply Qy|apply Qg|apply Qr)) [(5,28)] [27,28,900] (fun m J hp=>∃(i:Nat)(out:List Int),m=max a.length b.length-i/\i<=max a.length b.length/\out=(Qgh (· + ·) a b).take i/\J 5= .ms 900 out.length/\J 6= .int .i64 i/\hp 900=some ⟨1,3,Qkn out,false⟩) (max a.length b.length) ?_ ?_
 ·refine⟨0,[],rfl,by omega,by simp,?_⟩
  simp+decide (disch:=try exact D0) only[go_sem]
  simp
 rintro _ J h ⟨i,out,rfl,hi,hout,h5,h6,hh⟩
 have hol:out.length=i:=by rw[hout,List.length_take,hz];omega
 simp+decide (disch:=try exact D2 h5 h6) only[go_sem,h5,h6]
 refine Qal (fun hg=> ?_) (fun hg=> ?_)
 ·have hlt:i<max a.length b.length:=by omega
  have htk:=Qqi (g:=(· + ·)) hlt
  have ea:=ha.eN i
  have eb:=hb.eN i
  simp+decide (disch:=try exact D2 h5 h6) only[go_sem,h5,h6]
  refine Qa hP (Qc0 (a:=a) (i:=i) (by omega)) rfl rfl rfl ?_
  simp+decide (disch:=try exact D2 h5 h6) only[go_sem,h5,h6]
  refine Qa hP (Qc0 (a:=b) (i:=i) (by omega)) rfl rfl rfl ?_
  simp+decide (disch:=try exact D2 h5 h6) only[go_sem,h5,h6]
  rw[Qaf (f:=fun(x:Int)=> .int .i64 x) (y:=eN a i+eN b i) (xs:=out) (ty':=3) (fz:=false) (T1 hh) Tr0 (by omega) rfl (by omega) (by omega)]
  simp+decide (disch:=try exact D2 h5 h6) only[go_sem,h5,h6]
  refine Qo (max a.length b.length-(i+1)) (by omega) ⟨i+1,out++[eN a i+eN b i],rfl,by omega,by rw[htk,hout],?_⟩
  simp+decide (disch:=try exact D0) only[go_sem]
  simp
 simp+decide (disch:=try exact D2 h5 h6) only[go_sem,h5,h6]
 refine Qb (fun hg2=> ?_) (fun hg2=> ?_)
 ·have hlt:i<max a.length b.length:=by omega
  have htk:=Qqi (g:=(· + ·)) hlt
  have ea:=ha.eN i
  have eb:=hb.eN i
  simp+decide (disch:=try exact D2 h5 h6) only[go_sem,h5,h6]
  refine Qa hP (Qc0 (a:=a) (i:=i) (by omega)) rfl rfl rfl ?_
  simp+decide (disch:=try exact D2 h5 h6) only[go_sem,h5,h6]
  refine Qa hP (Qc0 (a:=b) (i:=i) (by omega)) rfl rfl rfl ?_
  simp+decide (disch:=try exact D2 h5 h6) only[go_sem,h5,h6]
  rw[Qaf (f:=fun(x:Int)=> .int .i64 x) (y:=eN a i+eN b i) (xs:=out) (ty':=3) (fz:=false) (T1 hh) Tr0 (by omega) rfl (by omega) (by omega)]
  simp+decide (disch:=try exact D2 h5 h6) only[go_sem,h5,h6]
  refine Qo (max a.length b.length-(i+1)) (by omega) ⟨i+1,out++[eN a i+eN b i],rfl,by omega,by rw[htk,hout],?_⟩
  simp+decide (disch:=try exact D0) only[go_sem]
  simp
 obtain rfl:i=max a.length b.length:=by omega
 rw[List.take_of_length_le (by omega)]at hout
 subst hout
 simp+decide (disch:=try exact E2 h5 hh) only[go_sem,h5,hh,Qac,List.contains_cons,List.contains_nil,List.flatMap_cons,List.flatMap_nil,List.append_nil]
 exact Qc (by rw[List.take_of_length_le (by simp)]) rfl
theorem Qti(x y:Int):sgn (x-y)=Qcm x y:=by unfold sgn Qcm;(repeat' split)<;>omega
theorem Q3c{k:Nat}{a b:List Int}{o:Int}(ha:MB k a)(hb:MB k b)(hk:k<=1099511627776):Qd Tryz.prog 65 [PV.mono a,PV.mono b,.int .i64 o] (· = .int .i64 (Qgj o a b)):=by
 have h1:=ha.len
 have h2:=hb.len
 have hda:∀x∈a,0<=x/\x<=1099511627776:=fun x hx=>by have:=ha.lo x hx;have:=ha.hi x hx;omega
 have hdb:∀x∈b,0<=x/\x<=1099511627776:=fun x hx=>by have:=hb.lo x hx;have:=hb.hi x hx;omega
 have da:=Qwe ha
 have db:=Qwe hb
 refine Qf Qq Tryz.func65 rfl Qapn (by simp[c65]) fun C hP=> ?_;simp only[c65,Zo,Zg,Zm,Zc,Zf,Zl,Zh,Zs,Zi,Zb,Zk,Zn,Zu,Zq,Zr,Zz]
 simp+decide (disch:=try exact D0) only[go_sem]
 refine Qaw (fun ho=> ?_) (fun ho=> ?_)
 ·simp+decide (disch:=try exact D0) only[go_sem]
  refine Qa hP (Qhg (by omega) hda) rfl rfl rfl ?_
  simp+decide (disch:=try exact D0) only[go_sem]
  refine Qa hP (Qhg (by omega) hdb) rfl rfl rfl ?_
  simp+decide (disch:=try exact D0) only[go_sem]
  refine Qb (fun hd=> ?_) (fun hd=> ?_)
  ·have hord:Qgj o a b=Qcm (Qgi a) (Qgi b):=by unfold Qgj;rw[if_pos ⟨ho,hd⟩]
   simp+decide (disch:=try exact D0) only[go_sem]
   refine Qa hP (Qhg (by omega) hda) rfl rfl rfl ?_
   simp+decide (disch:=try exact D0) only[go_sem]
   refine Qa hP (Qhg (by omega) hdb) rfl rfl rfl ?_
   simp+decide (disch:=try exact D0) only[go_sem]
   refine Qa hP (Ql4 _) rfl rfl rfl ?_
   simp+decide (disch:=try exact D0) only[go_sem]
   exact Qc (by rw[hord,Qti]) rfl
  have hord:Qgj o a b=Qau a b:=by unfold Qgj;rw[if_neg (fun h=>hd h.2)]
  simp+decide (disch:=try exact D0) only[go_sem]
  refine Qz (by repeat (first|exact Qn|exact Qi|exact Qj|exact Qk|exact Ql|apply Qh|apply Qm|apply Qt|apply Qx|apply Qy|apply Qg|apply Qr)) [(6,7),(29,47)] [] (fun n J hp=>n<=max a.length b.length/\Qcw a b n=Qau a b/\J 7= .int .i64 ((n:Int)-1)/\hp=hp0) (max a.length b.length) ?_ ?_
  ·refine⟨by omega,rfl,?_⟩
   simp+decide (disch:=try exact D0) only[go_sem]
  rintro n J _ ⟨hn,hc,h7,rfl⟩
  simp+decide (disch:=try exact D1 h7) only[go_sem,h7]
  refine Qb (fun hg=> ?_) (fun hg=> ?_)
  ·obtain _|n:=n
   ·omega
   have e:((n+1:Nat):Int)-1=n:=by omega
   have ea:=ha.eN n
   have eb:=hb.eN n
   rw[Qcw]at hc
   simp+decide (disch:=try exact D2 h7 e) only[go_sem,h7,e]
   refine Qa hP (Qc0 (by omega)) rfl rfl rfl ?_
   simp+decide (disch:=try exact D2 h7 e) only[go_sem,h7,e]
   refine Qa hP (Qc0 (by omega)) rfl rfl rfl ?_
   simp+decide (disch:=try exact D2 h7 e) only[go_sem,h7,e]
   refine Qb (fun h4=> ?_) (fun h4=> ?_)
   ·rw[if_neg h4]at hc
    simp+decide (disch:=try exact D2 h7 e) only[go_sem,h7,e]
    refine Qa hP (Qc0 (by omega)) rfl rfl rfl ?_
    simp+decide (disch:=try exact D2 h7 e) only[go_sem,h7,e]
    refine Qa hP (Qc0 (by omega)) rfl rfl rfl ?_
    simp+decide (disch:=try exact D2 h7 e) only[go_sem,h7,e]
    refine Qa hP (Ql4 _) rfl rfl rfl ?_
    simp+decide (disch:=try exact D2 h7 e) only[go_sem,h7,e]
    exact Qc (by rw[hord,<-hc,Qti]) rfl
   ·rw[if_pos (by omega)]at hc
    simp+decide (disch:=try exact D2 h7 e) only[go_sem,h7,e]
    refine Qo n (by omega) ⟨by omega,hc,?_⟩
    simp+decide (disch:=try exact D0) only[go_sem]
  ·obtain rfl:n=0:=by omega
   simp+decide (disch:=try exact D0) only[go_sem]
   exact Qc (by rw[hord,<-hc];rfl) rfl
 ·have hord:Qgj o a b=Qau a b:=by unfold Qgj;rw[if_neg (fun h=>ho h.1)]
  simp+decide (disch:=try exact D0) only[go_sem]
  refine Qz (by repeat (first|exact Qn|exact Qi|exact Qj|exact Qk|exact Ql|apply Qh|apply Qm|apply Qt|apply Qx|apply Qy|apply Qg|apply Qr)) [(6,7),(29,47)] [] (fun n J hp=>n<=max a.length b.length/\Qcw a b n=Qau a b/\J 7= .int .i64 ((n:Int)-1)/\hp=hp0) (max a.length b.length) ?_ ?_
  ·refine⟨by omega,rfl,?_⟩
   simp+decide (disch:=try exact D0) only[go_sem]
  rintro n J _ ⟨hn,hc,h7,rfl⟩
  simp+decide (disch:=try exact D1 h7) only[go_sem,h7]
  refine Qb (fun hg=> ?_) (fun hg=> ?_)
  ·obtain _|n:=n
   ·omega
   have e:((n+1:Nat):Int)-1=n:=by omega
   have ea:=ha.eN n
   have eb:=hb.eN n
   rw[Qcw]at hc
   simp+decide (disch:=try exact D2 h7 e) only[go_sem,h7,e]
   refine Qa hP (Qc0 (by omega)) rfl rfl rfl ?_
   simp+decide (disch:=try exact D2 h7 e) only[go_sem,h7,e]
   refine Qa hP (Qc0 (by omega)) rfl rfl rfl ?_
   simp+decide (disch:=try exact D2 h7 e) only[go_sem,h7,e]
   refine Qb (fun h4=> ?_) (fun h4=> ?_)
   ·rw[if_neg h4]at hc
    simp+decide (disch:=try exact D2 h7 e) only[go_sem,h7,e]
    refine Qa hP (Qc0 (by omega)) rfl rfl rfl ?_
    simp+decide (disch:=try exact D2 h7 e) only[go_sem,h7,e]
    refine Qa hP (Qc0 (by omega)) rfl rfl rfl ?_
    simp+decide (disch:=try exact D2 h7 e) only[go_sem,h7,e]
    refine Qa hP (Ql4 _) rfl rfl rfl ?_
    simp+decide (disch:=try exact D2 h7 e) only[go_sem,h7,e]
    exact Qc (by rw[hord,<-hc,Qti]) rfl
   ·rw[if_pos (by omega)]at hc
    simp+decide (disch:=try exact D2 h7 e) only[go_sem,h7,e]
    refine Qo n (by omega) ⟨by omega,hc,?_⟩
    simp+decide (disch:=try exact D0) only[go_sem]
  ·obtain rfl:n=0:=by omega
   simp+decide (disch:=try exact D0) only[go_sem]
   exact Qc (by rw[hord,<-hc];rfl) rfl
theorem Q1c{a b:Rat}{k:Nat}(ha:rs a<=k)(hb:rs b<=k)(hk:k<2^34):Qd Tryz.prog 87 [PV.rat a,PV.rat b] (· =PV.rat (a+b)):=by
 have:=Qso (Qbx ha) (Qbx hb) hk
 rwa[Qca,Qca]at this
theorem Qpc{a b:Rat}{k:Nat}(ha:rs a<=k)(hb:rs b<=k)(hk:k<2^34):Qd Tryz.prog 85 [PV.rat a,PV.rat b] (· =PV.rat (a*b)):=by
 have:=Q29 (Qbx ha) (Qbx hb) hk
 rwa[Qca,Qca]at this
theorem Qagm{a b:Rat}{k:Nat}(ha:rs a<=k)(hb:rs b<=k)(hk:k<2^34):Qd Tryz.prog 118 [PV.rat a,PV.rat b] (· = .int .i64 (Qjh a b)):=by
 have:=Qsn (Qbx ha) (Qbx hb) hk
 rwa[Qca,Qca]at this
theorem Qkj{a:Rat}(ha:rs a<2^36):Qd Tryz.prog 27 [PV.rat a] (· = .int .i64 (Qee a)):=by
 have:=Qi2 (Qbx (Nat.le_refl (rs a))) ha
 rwa[Qca]at this
theorem Qqx{k:Nat}{a b:List Int}(ha:MB k a)(hb:MB k b)(hk:k<=1099511627776):Qd Tryz.prog 65 [PV.mono a,PV.mono b,.int .i64 0] (· = .int .i64 (Qau a b)):=by
 have:=Q3c (o:=0) ha hb hk
 rwa[Qqk]at this
theorem Q3d{p q:List Tm}{K E:Nat}(hp:PB K E p)(hq:PB K E q)(hK:K<=2^33)(hE:E<=2^38)(hlp:p.length<=2^36)(hlq:q.length<=2^36):
  Qd Tryz.prog 113 [PV.poly p,PV.poly q] (· = .int .i64 (Qfo p q)):=by
 refine Qf Qq Tryz.func113 rfl Qalc (by simp[c113]) fun C hP=> ?_;simp only[c113,Zo,Zg,Zm,Zc,Zf,Zl,Zh,Zs,Zi,Zb,Zk,Zn,Zu,Zq,Zr,Zz]
 simp+decide (disch:=try exact D0) only[go_sem]
 refine Qz (by repeat (first|exact Qn|exact Qi|exact Qj|exact Qk|exact Ql|apply Qh|apply Qm|apply Qt|apply Qx|apply Qy|apply Qg|apply Qr)) [(4,47)] [] (fun n J hp=>∃i,n=p.length-i/\i<=p.length/\i<=q.length/\Qfo (p.drop i) (q.drop i)=Qfo p q/\J 5= .int .i64 (i:Nat)) p.length ?_ ?_
 ·refine⟨0,rfl,by omega,by omega,rfl,?_⟩
  simp+decide (disch:=try exact D0) only[go_sem]
  rfl
 rintro _ J h ⟨i,rfl,hi,hi2,hpc,h5⟩
 simp+decide (disch:=try exact D1 h5) only[go_sem,h5]
 refine Qaw (fun hg=> ?_) (fun hg=> ?_)
 ·have hi':i<p.length:=by omega
  simp+decide (disch:=try exact D1 h5) only[go_sem,h5]
  refine Qb (fun hk=> ?_) (fun hk=> ?_)
  ·have hk':i<q.length:=by omega
   have htp:=hp.get hi'
   have htq:=hq.get hk'
   have c1:=htp.c
   have c2:=htq.c
   rw[Qxa hi' hk']at hpc
   generalize hx:p[i]=x at *
   generalize hy:q[i]=y at *
   simp+decide (disch:=try exact D3 h5 hx hy) only[go_sem,h5,hx,hy]
   refine Qa hP (Qqx htp.m htq.m (by omega)) rfl rfl rfl ?_
   simp+decide (disch:=try exact D3 h5 hx hy) only[go_sem,h5,hx,hy]
   refine Qb (fun hc=> ?_) (fun hc=> ?_)
   ·simp+decide (disch:=try exact D0) only[go_sem]
    exact Qc (by rw[<-hpc,if_pos (by rw[Qix,if_pos hc];exact hc),Qix,if_pos hc]) rfl
   ·simp+decide (disch:=try exact D3 h5 hx hy) only[go_sem,h5,hx,hy]
    refine Qa hP (Qagm (a:=x.1) (b:=y.1) (k:=2^33) (by omega) (by omega) (by omega)) rfl rfl rfl ?_
    simp+decide (disch:=try exact D3 h5 hx hy) only[go_sem,h5,hx,hy]
    refine Qb (fun hc2=> ?_) (fun hc2=> ?_)
    ·simp+decide (disch:=try exact D0) only[go_sem]
     exact Qc (by rw[<-hpc,if_pos (by rw[Qix,if_neg hc];exact hc2),Qix,if_neg hc]) rfl
    ·rw[if_neg (by rw[Qix,if_neg hc];exact hc2)]at hpc
     simp+decide (disch:=try exact D1 h5) only[go_sem,h5]
     refine Qo (p.length-(i+1)) (by omega) ⟨i+1,rfl,by omega,by omega,hpc,?_⟩
     simp+decide (disch:=try exact D0) only[go_sem]
  simp+decide (disch:=try exact D0) only[go_sem]
  refine Qb (fun hk=> ?_) (fun hk=> ?_)
  ·simp+decide (disch:=try exact D0) only[go_sem]
   exact Qc (by rw[<-hpc,List.drop_of_length_le (show p.length<=i by omega),Ql0,if_neg (by rw[List.length_drop];omega)]) rfl
  ·simp+decide (disch:=try exact D0) only[go_sem]
   refine Qb (fun hk2=> ?_) (fun hk2=> ?_)
   ·simp+decide (disch:=try exact D0) only[go_sem]
    refine Qc ?_ rfl
    rw[<-hpc,List.drop_eq_getElem_cons (show i<p.length by omega),List.drop_of_length_le (show q.length<=i by omega),Qfo]
   ·simp+decide (disch:=try exact D0) only[go_sem]
    exact Qc (by rw[<-hpc,List.drop_of_length_le (show p.length<=i by omega),Ql0,if_pos (by rw[List.length_drop];omega)]) rfl
 ·have hi':i=p.length:=by omega
  simp+decide (disch:=try exact D0) only[go_sem]
  refine Qb (fun hk=> ?_) (fun hk=> ?_)
  ·simp+decide (disch:=try exact D0) only[go_sem]
   exact Qc (by rw[<-hpc,List.drop_of_length_le (show p.length<=i by omega),Ql0,if_neg (by rw[List.length_drop];omega)]) rfl
  ·simp+decide (disch:=try exact D0) only[go_sem]
   refine Qb (fun hk2=> ?_) (fun hk2=> ?_)
   ·simp+decide (disch:=try exact D0) only[go_sem]
    refine Qc ?_ rfl
    rw[<-hpc,List.drop_eq_getElem_cons (show i<p.length by omega),List.drop_of_length_le (show q.length<=i by omega),Qfo]
   ·simp+decide (disch:=try exact D0) only[go_sem]
    exact Qc (by rw[<-hpc,List.drop_of_length_le (show p.length<=i by omega),Ql0,if_pos (by rw[List.length_drop];omega)]) rfl
theorem Qpx{p q:List Tm}{K E:Nat}(hp:PB K E p)(hq:PB K E q)(hK:K<=2^33)(hE:E<=2^38)(hlp:p.length<=2^36)(hlq:q.length<=2^36):Qd Tryz.prog 40 [PV.poly p,PV.poly q] (· = .bool (decide (p=q))):=by
 refine Qf Qq Tryz.func40 rfl Qapp (by simp[c40]) fun C hP=> ?_;simp only[c40,Zo,Zg,Zm,Zc,Zf,Zl,Zh,Zs,Zi,Zb,Zk,Zn,Zu,Zq,Zr,Zz]
 simp+decide (disch:=try exact D0) only[go_sem]
 refine Qa hP (Q3d hp hq hK hE hlp hlq) rfl rfl rfl ?_
 simp+decide (disch:=try exact D0) only[go_sem]
 exact Qc (congrArg PV.bool (decide_eq_decide.2 (Qwd hp.last hq.last))) rfl
theorem Qsq{p q:List Tm}{K E:Nat}(hp:PB K E p)(hq:PB K E q)(hK:K<=2^32)(hE:E<=2^38)(hlp:p.length<=2^36)(hlq:q.length<=2^36):
  Qd Tryz.prog 110 [PV.poly p,PV.poly q] (· =PV.poly (Qap p q)):=by
 refine Qf Qq Tryz.func110 rfl Qalb (by simp[c110]) fun C hP=> ?_;simp only[c110,Zo,Zg,Zm,Zc,Zf,Zl,Zh,Zs,Zi,Zb,Zk,Zn,Zu,Zq,Zr,Zz]
 simp+decide (disch:=try exact D0) only[go_sem]
 refine Qce 5 900 4 95 (by omega) T0 ?_
 refine Qz (by repeat (first|exact Qn|exact Qi|exact Qj|exact Qk|exact Ql|apply Qh|apply Qm|apply Qt|apply Qx|apply Qy|apply Qg|apply Qr)) [(5,90)] [9,61,62,75,76,87,88,900] (fun n J hp=>∃i k out,n=(p.length-i)+(q.length-k)/\i<=p.length/\k<=q.length/\out.length<=i+k/\out++Qap (p.drop i) (q.drop k)=Qap p q/\
  J 5= .ms 900 out.length/\J 6= .int .i64 (i:Nat)/\J 7= .int .i64 (k:Nat)/\hp 900=some ⟨4,95,out.map PV.term,false⟩) (p.length+q.length) ?_ ?_
 ·refine⟨0,0,[],by omega,by omega,by omega,by simp,rfl,?_⟩
  simp+decide (disch:=try exact D0) only[go_sem]
  simp
 rintro _ J h ⟨i,k,out,rfl,hi,hk,hol,hpad,h5,h6,h7,hh⟩
 simp+decide (disch:=try exact D3 h5 h6 h7) only[go_sem,h5,h6,h7]
 refine Qal (fun hg=> ?_) (fun hg=> ?_)
 ·have hi':i<p.length:=by omega
  simp+decide (disch:=try exact D3 h5 h6 h7) only[go_sem,h5,h6,h7]
  refine Qb (fun h=>by omega) (fun _=> ?_)
  simp+decide (disch:=try exact D3 h5 h6 h7) only[go_sem,h5,h6,h7]
  refine Qb (fun hg2=> ?_) (fun hg2=> ?_)
  ·have hk':k<q.length:=by omega
   have htp:=hp.get hi'
   have htq:=hq.get hk'
   rw[Qw8 hi' hk']at hpad
   have c1:=htp.c
   have c2:=htq.c
   generalize hx:p[i]=x at *
   generalize hy:q[k]=y at *
   simp+decide (disch:=try exact D5 h5 h6 h7 hx hy) only[go_sem,h5,h6,h7,hx,hy]
   refine Qa hP (Qqx htp.m htq.m (by omega)) rfl rfl rfl ?_
   simp+decide (disch:=try exact D5 h5 h6 h7 hx hy) only[go_sem,h5,h6,h7,hx,hy]
   refine Qb (fun hc=> ?_) (fun hc=> ?_)
   ·rw[if_pos hc]at hpad
    simp+decide (disch:=try exact D4 h5 h6 h7 hx) only[go_sem,h5,h6,h7,hx]
    rw[Qaf (f:=PV.term) (y:=x) (xs:=out) (ty':=95) (fz:=false) (T1 hh) Tr0 (by omega) rfl (by omega) (by omega)]
    simp+decide (disch:=try exact D4 h5 h6 h7 hx) only[go_sem,h5,h6,h7,hx]
    refine Qo ((p.length-(i+1))+(q.length-k)) (by omega) ⟨i+1,k,out++[x],rfl,by omega,hk,by simp;omega,by simpa using hpad,?_⟩
    simp+decide (disch:=try exact D3 h5 h6 h7) only[go_sem,h5,h6,h7]
    simp
   rw[if_neg hc]at hpad
   simp+decide (disch:=try exact D5 h5 h6 h7 hx hy) only[go_sem,h5,h6,h7,hx,hy]
   refine Qb (fun hc2=> ?_) (fun hc2=> ?_)
   ·rw[if_pos hc2]at hpad
    simp+decide (disch:=try exact D4 h5 h6 h7 hy) only[go_sem,h5,h6,h7,hy]
    rw[Qaf (f:=PV.term) (y:=y) (xs:=out) (ty':=95) (fz:=false) (T1 hh) Tr0 (by omega) rfl (by omega) (by omega)]
    simp+decide (disch:=try exact D4 h5 h6 h7 hy) only[go_sem,h5,h6,h7,hy]
    refine Qo ((p.length-i)+(q.length-(k+1))) (by omega) ⟨i,k+1,out++[y],rfl,by omega,by omega,by simp;omega,by simpa using hpad,?_⟩
    simp+decide (disch:=try exact D3 h5 h6 h7) only[go_sem,h5,h6,h7]
    simp
   rw[if_neg hc2]at hpad
   have hra:=Qkd x.1 y.1
   simp+decide (disch:=try exact D5 h5 h6 h7 hx hy) only[go_sem,h5,h6,h7,hx,hy]
   refine Qda ?_ ?_
   all_goals
    simp+decide (disch:=try exact D5 h5 h6 h7 hx hy) only[go_sem,h5,h6,h7,hx,hy]
    refine Qa hP (Q1c (a:=x.1) (b:=y.1) (k:=2^32) (by omega) (by omega) (by omega)) rfl rfl rfl ?_
    simp+decide (disch:=try exact D5 h5 h6 h7 hx hy) only[go_sem,h5,h6,h7,hx,hy]
    refine Qa hP (Qkj (a:=x.1+y.1) (by omega)) rfl rfl rfl ?_
    simp+decide (disch:=try exact D5 h5 h6 h7 hx hy) only[go_sem,h5,h6,h7,hx,hy]
    refine Qb (fun hz=> ?_) (fun hz=> ?_)
    ·rw[if_neg (fun h=>hz (Qav.2 h))]at hpad
     simp+decide (disch:=try exact D5 h5 h6 h7 hx hy) only[go_sem,h5,h6,h7,hx,hy]
     rw[Qaf (f:=PV.term) (y:=(x.1+y.1,x.2)) (xs:=out) (ty':=95) (fz:=false) (T1 hh) Tr0 (by omega) rfl (by omega) (by omega)]
     simp+decide (disch:=try exact D5 h5 h6 h7 hx hy) only[go_sem,h5,h6,h7,hx,hy]
     refine Qo ((p.length-(i+1))+(q.length-(k+1))) (by omega) ⟨i+1,k+1,out++[(x.1+y.1,x.2)],rfl,by omega,by omega,by simp;omega,by simpa using hpad,?_⟩
     simp+decide (disch:=try exact D3 h5 h6 h7) only[go_sem,h5,h6,h7]
     simp
    ·rw[if_pos (Qav.1 (Decidable.not_not.1 hz))]at hpad
     simp+decide (disch:=try exact D5 h5 h6 h7 hx hy) only[go_sem,h5,h6,h7,hx,hy]
     refine Qo ((p.length-(i+1))+(q.length-(k+1))) (by omega) ⟨i+1,k+1,out,rfl,by omega,by omega,by omega,hpad,?_⟩
     simp+decide (disch:=try exact D4 h5 h6 h7 hh) only[go_sem,h5,h6,h7,hh]
  ·rw[List.drop_of_length_le (show q.length<=k by omega),Qdn,List.drop_eq_getElem_cons hi']at hpad
   have hpad:out++p[i]::Qap (p.drop (i+1)) (q.drop k)=Qap p q:=by rw[List.drop_of_length_le (show q.length<=k by omega),Qdn];exact hpad
   generalize hx:p[i]=x at *
   simp+decide (disch:=try exact D4 h5 h6 h7 hx) only[go_sem,h5,h6,h7,hx]
   rw[Qaf (f:=PV.term) (y:=x) (xs:=out) (ty':=95) (fz:=false) (T1 hh) Tr0 (by omega) rfl (by omega) (by omega)]
   simp+decide (disch:=try exact D4 h5 h6 h7 hx) only[go_sem,h5,h6,h7,hx]
   refine Qo ((p.length-(i+1))+(q.length-k)) (by omega) ⟨i+1,k,out++[x],rfl,by omega,hk,by simp;omega,by simpa using hpad,?_⟩
   simp+decide (disch:=try exact D3 h5 h6 h7) only[go_sem,h5,h6,h7]
   simp
 ·have hi':i=p.length:=by omega
  simp+decide (disch:=try exact D3 h5 h6 h7) only[go_sem,h5,h6,h7]
  refine Qb (fun hg2=> ?_) (fun hg2=> ?_)
  ·have hk':k<q.length:=by omega
   rw[List.drop_of_length_le (show p.length<=i by omega),Qh7,List.drop_eq_getElem_cons hk']at hpad
   have hpad:out++q[k]::Qap (p.drop i) (q.drop (k+1))=Qap p q:=by rw[List.drop_of_length_le (show p.length<=i by omega),Qh7];exact hpad
   generalize hy:q[k]=y at *
   simp+decide (disch:=try exact D4 h5 h6 h7 hy) only[go_sem,h5,h6,h7,hy]
   refine Qb (fun _=> ?_) (fun h=>by omega)
   simp+decide (disch:=try exact D4 h5 h6 h7 hy) only[go_sem,h5,h6,h7,hy]
   rw[Qaf (f:=PV.term) (y:=y) (xs:=out) (ty':=95) (fz:=false) (T1 hh) Tr0 (by omega) rfl (by omega) (by omega)]
   simp+decide (disch:=try exact D4 h5 h6 h7 hy) only[go_sem,h5,h6,h7,hy]
   refine Qo ((p.length-i)+(q.length-(k+1))) (by omega) ⟨i,k+1,out++[y],rfl,by omega,by omega,by simp;omega,by simpa using hpad,?_⟩
   simp+decide (disch:=try exact D3 h5 h6 h7) only[go_sem,h5,h6,h7]
   simp
  ·rw[List.drop_of_length_le (show p.length<=i by omega),Qh7,List.drop_of_length_le (show q.length<=k by omega),List.append_nil]at hpad
   simp+decide (disch:=try exact E4 h5 h6 h7 hh) only[go_sem,h5,h6,h7,hh,Qac,List.contains_cons,List.contains_nil,List.flatMap_cons,List.flatMap_nil,List.append_nil]
   exact Qc (by rw[List.take_of_length_le (by simp),hpad]) rfl
theorem Qqy{k l:Nat}{a b:List Int}(ha:MB k a)(hb:MB l b)(h1:a.getLast? ≠some 0)(h2:b.getLast? ≠some 0):Qgh (· + ·) a b=Qa5 a b:=by
 rw[Qa5,Qacx]
 rw[List.getLast?_eq_getElem?,Qcy]
 intro h
 obtain⟨hl,hv⟩:=List.getElem?_eq_some_iff.1 h
 rw[<-Qde hl,Qrj (by simp)]at hv
 rw[Qcy]at hl
 have p1:=(ha.eN (max a.length b.length-1)).1
 have p2:=(hb.eN (max a.length b.length-1)).1
 by_cases hc:b.length<=a.length
 ·apply h1
  have e:max a.length b.length-1=a.length-1:=by omega
  rw[e]at hv p1 p2
  rw[List.getLast?_eq_getElem?,List.getElem?_eq_getElem (by omega),<-Qde (by omega)]
  congr 1;omega
 ·apply h2
  have e:max a.length b.length-1=b.length-1:=by omega
  rw[e]at hv p1 p2
  rw[List.getLast?_eq_getElem?,List.getElem?_eq_getElem (by omega),<-Qde (by omega)]
  congr 1;omega
theorem Qyk{p:List Tm}{t:Tm}{K E:Nat}(hp:PB K E p)(ht:TB K E t)(hnz:NZ p)(ht0:t.1≠0)(hK:K<=2^33)(hE:E<=2^38)(hlp:p.length<=2^36):
  Qd Tryz.prog 134 [PV.poly p,PV.term t] (· =PV.poly (Qa6 p t)):=by
 refine Qf Qq Tryz.func134 rfl Qalf (by simp[c134]) fun C hP=> ?_;simp only[c134,Zo,Zg,Zm,Zc,Zf,Zl,Zh,Zs,Zi,Zb,Zk,Zn,Zu,Zq,Zr,Zz]
 simp+decide (disch:=try exact D0) only[go_sem]
 refine Qce 5 900 4 95 (by omega) T0 ?_
 refine Qz (by repeat (first|exact Qn|exact Qi|exact Qj|exact Qk|exact Ql|apply Qh|apply Qm|apply Qt|apply Qx|apply Qy|apply Qg|apply Qr)) [(5,32)] [31,32,900] (fun n J hp=>∃i,n=p.length-i/\i<=p.length/\J 5= .ms 900 (Qa6 (p.take i) t).length/\J 6= .int .i64 (i:Nat)/\hp 3=some ⟨4,95,[PV.term t],false⟩/\hp 900=some ⟨4,95,(Qa6 (p.take i) t).map PV.term,false⟩) p.length ?_ ?_
 ·refine⟨0,rfl,by omega,?_⟩
  simp+decide (disch:=try exact D0) only[go_sem]
  simp[Qa6]
 rintro _ J h ⟨i,rfl,hi,h5,h6,hh3,hh⟩
 simp+decide (disch:=try exact D2 h5 h6) only[go_sem,h5,h6]
 refine Qb (fun hg=> ?_) (fun hg=> ?_)
 ·have hi':i<p.length:=by omega
  have htp:=hp.get hi'
  have htk:=Qsi (t:=t) hi'
  have hlen:=Qgb (p.take i) t
  rw[List.length_take]at hlen
  have c1:=htp.c
  have c2:=ht.c
  have hn0:=hnz _ (List.getElem_mem hi')
  generalize hx:p[i]=x at *
  have hzz:=Qqy htp.m ht.m htp.l ht.l
  rw[if_neg (fun h=>by rcases Rat.mul_eq_zero.1 h with h|h<;>contradiction)]at htk
  simp+decide (disch:=try exact D4 h5 h6 hh3 hx) only[go_sem,h5,h6,hh3,hx]
  refine Qa hP (Qpc (a:=x.1) (b:=t.1) (k:=2^33) (by omega) (by omega) (by omega)) rfl rfl rfl ?_
  simp+decide (disch:=try exact D4 h5 h6 hh3 hx) only[go_sem,h5,h6,hh3,hx]
  refine Qa hP (Qsp htp.m ht.m (by omega)) rfl rfl rfl ?_
  rw[hzz]
  simp+decide (disch:=try exact D4 h5 h6 hh3 hx) only[go_sem,h5,h6,hh3,hx]
  rw[Qaf (f:=PV.term) (y:=(x.1*t.1,Qa5 x.2 t.2)) (xs:=Qa6 (p.take i) t) (ty':=95) (fz:=false) (T1 hh) Tr0 (by omega) rfl (by omega) (by omega)]
  rw[<-htk]
  simp+decide (disch:=try exact D4 h5 h6 hh3 hx) only[go_sem,h5,h6,hh3,hx]
  refine Qo (p.length-(i+1)) (by omega) ⟨i+1,rfl,by omega,?_⟩
  rw[htk]
  simp+decide (disch:=first|omega|rfl|(simp+decide only[go_sem,h5,h6,hh3,List.length_append]<;>rfl)|fail) only[go_sem,h5,h6,hh3,List.length_append]
 ·obtain rfl:i=p.length:=by omega
  rw[List.take_length]at h5 hh
  simp+decide (disch:=try exact E2 h5 hh) only[go_sem,h5,hh,Qac,List.contains_cons,List.contains_nil,List.flatMap_cons,List.flatMap_nil,List.append_nil]
  exact Qc (by simp[List.take_of_length_le]) rfl
theorem Q6x{p q:List Tm}{i:Nat}(h:i<q.length):Qhu p (q.take (i+1))=Qap (Qhu p (q.take i)) (Qa6 p q[i]):=by
 rw[List.take_succ_eq_append_getElem h,Qhu,List.foldl_append,Qhu];rfl
theorem Qsr{K E:Nat}{p:List Tm}(hp:PB K E p):∀(q out:List Tm)(L:Nat),PB K E q->PB L (E+E) out->PB (q.length*(K+K)+L) (E+E) (q.foldl (fun out t=>Qap out (Qa6 p t)) out)/\(q.foldl (fun out t=>Qap out (Qa6 p t)) out).length<=q.length*p.length+out.length
 | [],out,L,_,ho=>⟨by simpa using ho,by simp⟩
 |t::q,out,L,hq,ho=>by
  obtain⟨h1,h2⟩:=Qsr hp q (Qap out (Qa6 p t)) (L+(K+K)) (PB.cons.1 hq).2 (Q39 _ _ ho (Qqj hp (PB.cons.1 hq).1))
  have h3:=Qr4 out (Qa6 p t)
  have h4:=Qgb p t
  refine⟨h1.mono (by rw[List.length_cons,Nat.add_mul];omega) (Nat.le_refl _),Nat.le_trans h2 ?_⟩
  rw[List.length_cons,Nat.add_mul];omega
theorem Qagn{K E:Nat}{p q:List Tm}(hp:PB K E p)(hq:PB K E q):PB (q.length*(K+K)) (E+E) (Qhu p q)/\(Qhu p q).length<=q.length*p.length:=by
 have:=Qsr hp q [] 0 hq (PB.nil _ _)
 simpa[Qhu]using this
theorem Qss{p q:List Tm}{K E:Nat}(hp:PB K E p)(hq:PB K E q)(hnp:NZ p)(hnq:NZ q)(hE:E<=2^37)(hlp:p.length<=2^30)(hlq:q.length<=2^30)(hlm:q.length*p.length<=2^36)(hK:q.length*(K+K)+(K+K)<=2^32):
  Qd Tryz.prog 69 [PV.poly p,PV.poly q] (· =PV.poly (Qhu p q)):=by
 refine Qf Qq Tryz.func69 rfl Qapq (by simp[c69]) fun C hP=> ?_;simp only[c69,Zo,Zg,Zm,Zc,Zf,Zl,Zh,Zs,Zi,Zb,Zk,Zn,Zu,Zq,Zr,Zz]
 simp+decide (disch:=try exact D0) only[go_sem]
 refine Qld 5 4 T0 ?_
 refine Qz (by repeat (first|exact Qn|exact Qi|exact Qj|exact Qk|exact Ql|apply Qh|apply Qm|apply Qt|apply Qx|apply Qy|apply Qg|apply Qr)) [(5,20)] [] (fun n J hp=>∃i,n=q.length-i/\i<=q.length/\J 5=PV.poly (Qhu p (q.take i))/\J 6= .int .i64 (i:Nat)) q.length ?_ ?_
 ·refine⟨0,rfl,by omega,?_⟩
  simp+decide (disch:=try exact D0) only[go_sem]
  simp[Qhu]
 rintro _ J h ⟨i,rfl,hi,h5,h6⟩
 simp+decide (disch:=try exact D2 h5 h6) only[go_sem,h5,h6]
 refine Qb (fun hg=> ?_) (fun hg=> ?_)
 ·have hi':i<q.length:=by omega
  have htq:=hq.get hi'
  have htk:=Q6x (p:=p) hi'
  have hn0:=hnq _ (List.getElem_mem hi')
  obtain⟨hb1,hb2⟩:=Qagn hp (hq.take i)
  have hbt:=Qqj hp htq
  have hlt:=Qgb p q[i]
  generalize hx:q[i]=x at *
  have e1:(q.take i).length=i:=by rw[List.length_take];omega
  rw[e1]at hb1 hb2
  have e2:i*(K+K)<=q.length*(K+K):=Nat.mul_le_mul_right _ hi
  have e3:i*p.length<=q.length*p.length:=Nat.mul_le_mul_right _ hi
  simp+decide (disch:=try exact D3 h5 h6 hx) only[go_sem,h5,h6,hx]
  refine Qa hP (Qyk (t:=x) hp htq hnp hn0 (by omega) (by omega) (by omega)) rfl rfl rfl ?_
  simp+decide (disch:=try exact D3 h5 h6 hx) only[go_sem,h5,h6,hx]
  refine Qa hP (Qsq (K:=q.length*(K+K)+(K+K)) (E:=E+E) (hb1.mono (by omega) (by omega)) (hbt.mono (by omega) (by omega)) hK (by omega) (by omega) (by omega)) rfl rfl rfl ?_
  simp+decide (disch:=try exact D3 h5 h6 hx) only[go_sem,h5,h6,hx]
  refine Qo (q.length-(i+1)) (by omega) ⟨i+1,rfl,by omega,?_⟩
  rw[htk]
  simp+decide (disch:=try exact D0) only[go_sem]
 ·obtain rfl:i=q.length:=by omega
  rw[List.take_length]at h5
  simp+decide (disch:=try exact D1 h5) only[go_sem,h5]
  exact Qc rfl rfl
theorem Qyl{p:List Tm}{a:Rat}{K E:Nat}(hp:PB K E p)(hnz:NZ p)(ha:rs a+1<=K)(hK:K<=2^33)(hE:E<=2^38)(hlp:p.length<=2^36):
  Qd Tryz.prog 111 [PV.poly p,PV.rat a] (· =PV.poly (Qiw p a)):=by
 refine Qf Qq Tryz.func111 rfl Qald (by simp[c111]) fun C hP=> ?_;simp only[c111,Zo,Zg,Zm,Zc,Zf,Zl,Zh,Zs,Zi,Zb,Zk,Zn,Zu,Zq,Zr,Zz]
 simp+decide (disch:=try exact D0) only[go_sem]
 refine Qce 5 900 4 95 (by omega) T0 ?_
 refine Qz (by repeat (first|exact Qn|exact Qi|exact Qj|exact Qk|exact Ql|apply Qh|apply Qm|apply Qt|apply Qx|apply Qy|apply Qg|apply Qr)) [(5,33)] [32,33,900] (fun n J hp=>∃i,n=p.length-i/\i<=p.length/\J 5= .ms 900 (Qa6 (p.take i) (a,[])).length/\J 6= .int .i64 (i:Nat)/\hp 3=some ⟨3,51,[PV.rat a],false⟩/\hp 900=some ⟨4,95,(Qa6 (p.take i) (a,[])).map PV.term,false⟩) p.length ?_ ?_
 ·refine⟨0,rfl,by omega,?_⟩
  simp+decide (disch:=try exact D0) only[go_sem]
  simp[Qa6]
 rintro _ J h ⟨i,rfl,hi,h5,h6,hh3,hh⟩
 simp+decide (disch:=try exact D2 h5 h6) only[go_sem,h5,h6]
 refine Qaw (fun hg=> ?_) (fun hg=> ?_)
 ·have hi':i<p.length:=by omega
  have htp:=hp.get hi'
  have htk:=Qsi (t:=(a,[])) hi'
  have hlen:=Qgb (p.take i) (a,[])
  rw[List.length_take]at hlen
  have c1:=htp.c
  have hn0:=hnz _ (List.getElem_mem hi')
  generalize hx:p[i]=x at *
  simp+decide (disch:=try exact D4 h5 h6 hh3 hx) only[go_sem,h5,h6,hh3,hx]
  refine Qa hP (Qkj (a:=a) (by omega)) rfl rfl rfl ?_
  simp+decide (disch:=try exact D4 h5 h6 hh3 hx) only[go_sem,h5,h6,hh3,hx]
  refine Qb (fun hz=> ?_) (fun hz=> ?_)
  ·rw[if_neg (fun h=>by rcases Rat.mul_eq_zero.1 h with h|h;exact hn0 h;exact hz (Qav.2 h)),Qacz htp.l]at htk
   simp+decide (disch:=try exact D4 h5 h6 hh3 hx) only[go_sem,h5,h6,hh3,hx]
   refine Qa hP (Qpc (a:=x.1) (b:=a) (k:=2^33) (by omega) (by omega) (by omega)) rfl rfl rfl ?_
   simp+decide (disch:=try exact D4 h5 h6 hh3 hx) only[go_sem,h5,h6,hh3,hx]
   rw[Qaf (f:=PV.term) (y:=(x.1*a,x.2)) (xs:=Qa6 (p.take i) (a,[])) (ty':=95) (fz:=false) (T1 hh) Tr0 (by omega) rfl (by omega) (by omega)]
   rw[<-htk]
   simp+decide (disch:=try exact D4 h5 h6 hh3 hx) only[go_sem,h5,h6,hh3,hx]
   refine Qo (p.length-(i+1)) (by omega) ⟨i+1,rfl,by omega,?_⟩
   rw[htk]
   simp+decide (disch:=first|omega|rfl|(simp+decide only[go_sem,h5,h6,hh3,List.length_append]<;>rfl)|fail) only[go_sem,h5,h6,hh3,List.length_append]
  ·have ha0:=Qav.1 (Decidable.not_not.1 hz)
   have e0:∀l:List Tm,Qa6 l (a,[])=[]:=fun l=>by rw[ha0];simp[Qa6]
   simp+decide (disch:=try exact E3 h5 hh hh3) only[go_sem,h5,hh,hh3,Qac,List.contains_cons,List.contains_nil,List.flatMap_cons,List.flatMap_nil,List.append_nil]
   refine Qc ?_ rfl
   rw[e0,Qiw,if_pos ha0];rfl
 ·obtain rfl:i=p.length:=by omega
  rw[List.take_length]at h5 hh
  simp+decide (disch:=try exact E3 h5 hh hh3) only[go_sem,h5,hh,hh3,Qac,List.contains_cons,List.contains_nil,List.flatMap_cons,List.flatMap_nil,List.append_nil]
  refine Qc ?_ rfl
  rw[List.take_of_length_le (by simp),Qiw]
  split
  ·rename_i ha0;rw[ha0];simp[Qa6]
  ·rfl
theorem Q3e{p:List Tm}{K E:Nat}(hp:PB K E p)(hnz:NZ p)(hK2:2<=K)(hK:K<=2^33)(hE:E<=2^38)(hlp:p.length<=2^36):Qd Tryz.prog 71 [PV.poly p] (· =PV.poly (pneg p)):=by
 have h1:=Q53
 refine Qf Qq Tryz.func71 rfl Qapr (by simp[c71]) fun C hP=> ?_;simp only[c71,Zo,Zg,Zm,Zc,Zf,Zl,Zh,Zs,Zi,Zb,Zk,Zn,Zu,Zq,Zr,Zz]
 simp+decide (disch:=try exact D0) only[go_sem]
 refine Qa hP (Qi1 (x:= -1) (by omega) (by omega)) rfl rfl rfl ?_
 simp+decide (disch:=try exact D0) only[go_sem]
 refine Qa hP (Qyl (a:=((-1:Int):Rat)) hp hnz (by have:((-1:Int):Rat)= -1:=rfl;rw[this];omega) hK hE hlp) rfl rfl rfl ?_
 simp+decide (disch:=try exact D0) only[go_sem]
 exact Qc rfl rfl
theorem Qst{p q:List Tm}{K E:Nat}(hp:PB K E p)(hq:PB K E q)(hnz:NZ q)(hK2:2<=K)(hK:K<=2^31)(hE:E<=2^38)(hlp:p.length<=2^36)(hlq:q.length<=2^36):Qd Tryz.prog 68 [PV.poly p,PV.poly q] (· =PV.poly (psub p q)):=by
 have hl:=Qyd q (-1)
 refine Qf Qq Tryz.func68 rfl Qapu (by simp[c68]) fun C hP=> ?_;simp only[c68,Zo,Zg,Zm,Zc,Zf,Zl,Zh,Zs,Zi,Zb,Zk,Zn,Zu,Zq,Zr,Zz]
 simp+decide (disch:=try exact D0) only[go_sem]
 refine Qa hP (Q3e hq hnz hK2 (by omega) hE hlq) rfl rfl rfl ?_
 simp+decide (disch:=try exact D0) only[go_sem]
 refine Qa hP (Qsq (hp.mono (K':=K+2) (by omega) (Nat.le_refl _)) (Qaiq hq) (by omega) hE hlp (by show(Qiw q (-1)).length<=_;omega)) rfl rfl rfl ?_
 simp+decide (disch:=try exact D0) only[go_sem]
 exact Qc rfl rfl
theorem Q1d{l:List RTm}{k:Nat}(hb:∀t∈l,RB k t)(hk1:1<=k)(hk:k<2^36)(hll:l.length<2^40):Qd Tryz.prog 19 [PV.rpoly l] (· = .bool (Qcx l)):=by
 have hiff:=Qtb l
 have bad:∀ {b:Bool},(b=true->False)->b=false:=fun {b} h=>by cases b<;>simp_all
 refine Qf Qq Tryz.func19 rfl Qapt (by simp[c19]) fun C hP=> ?_;simp only[c19,Zo,Zg,Zm,Zc,Zf,Zl,Zh,Zs,Zi,Zb,Zk,Zn,Zu,Zq,Zr,Zz]
 simp+decide (disch:=try exact D0) only[go_sem]
 refine Qz (by repeat (first|exact Qn|exact Qi|exact Qj|exact Qk|exact Ql|apply Qh|apply Qm|apply Qt|apply Qx|apply Qy|apply Qg|apply Qr)) [(2,51)] [] (fun n J hp=>∃i,n=l.length-i/\i<=l.length/\(∀j (h:j<l.length),j<i->rOk l[j]=true)/\(∀j (h:j+1<l.length),j+1<i->0<Qau l[j].m l[j+1].m)/\J 3= .int .i64 (i:Nat)) l.length ?_ ?_
 ·refine⟨0,rfl,by omega,by omega,by omega,?_⟩
  simp+decide (disch:=try exact D0) only[go_sem]
  rfl
 rintro _ J h ⟨i,rfl,hi,h1,h2,h7⟩
 simp+decide (disch:=try exact D1 h7) only[go_sem,h7]
 refine Qb (fun hg=> ?_) (fun hg=> ?_)
 ·have hi':i<l.length:=by omega
  have hbt:=hb _ (List.getElem_mem hi')
  have hr:=(RB.raw hbt hk1).rs
  have hml:=hbt.l
  have hbadt:Qcx l=true->rOk l[i]=true:=fun h=>(hiff.1 h).1 i hi'
  have hbadc:∀(j:Nat)(hj:j+1=i),Qcx l=true->0<Qau (l[j]'(by omega)).m l[i].m:=fun j hj h=>by subst hj;exact(hiff.1 h).2 j hi'
  have hadd1:rOk l[i]=true->∀j (h:j<l.length),j<i+1->rOk l[j]=true:=fun h j hj hji=>by
   by_cases e:j=i
   ·subst e;exact h
   ·exact h1 j hj (by omega)
  have hprev:∀(j:Nat)(hj:j+1=i),MB 1048576 (l[j]'(by omega)).m:=fun j hj=>by
   have:=h1 j (by omega) (by omega)
   simp only[rOk,Bool.and_eq_true]at this
   exact MB.ofOk this.2.2
  have hadd2:(∀(j:Nat)(hj:j+1=i),0<Qau (l[j]'(by omega)).m l[i].m)->∀j (h:j+1<l.length),j+1<i+1->0<Qau l[j].m l[j+1].m:=fun h j hj hji=>by
   by_cases e:j+1=i
   ·subst e;exact h j rfl
   ·exact h2 j hj (by omega)
  generalize hx:l[i]=x at *
  have hr':rs (rv x.n x.a x.d)<2^36:=by omega
  simp+decide (disch:=try exact D2 h7 hx) only[go_sem,h7,hx]
  refine Qa hP (Qpw (RB.raw hbt hk1) hk) rfl rfl rfl ?_
  simp+decide (disch:=try exact D1 h7) only[go_sem,h7]
  cases hok:Qf3 x.n x.a x.d
  ·have hf:Qcx l=false:=bad fun h=>by have:=hbadt h;simp[rOk,hok]at this
   simp+decide (disch:=first|omega|rfl|(simp+decide only[go_sem,h7,Bool.not_false]<;>rfl)|fail) only[go_sem,h7,Bool.not_false]
   exact Qc (by rw[hf]) rfl
  simp+decide (disch:=first|omega|rfl|(simp+decide only[go_sem,h7,Bool.not_true,hx]<;>rfl)|fail) only[go_sem,h7,Bool.not_true,hx]
  refine Qa hP (Qi2 (RB.raw hbt hk1) hk) rfl rfl rfl ?_
  simp+decide (disch:=try exact D1 h7) only[go_sem,h7]
  refine Qal (fun hz=> ?_) (fun hz=> ?_)
  ·have hf:Qcx l=false:=bad fun h=>by have:=hbadt h;simp[rOk,RTm.q,Qav.1 hz]at this
   simp+decide (disch:=try exact D1 h7) only[go_sem,h7]
   exact Qc (by rw[hf]) rfl
  simp+decide (disch:=try exact D2 h7 hx) only[go_sem,h7,hx]
  refine Qa hP (Qhz (by omega)) rfl rfl rfl ?_
  simp+decide (disch:=try exact D1 h7) only[go_sem,h7]
  cases hmo:Qaj x.m
  ·have hf:Qcx l=false:=bad fun h=>by have:=hbadt h;simp[rOk,hmo]at this
   simp+decide (disch:=first|omega|rfl|(simp+decide only[go_sem,h7,Bool.not_false]<;>rfl)|fail) only[go_sem,h7,Bool.not_false]
   exact Qc (by rw[hf]) rfl
  have hrok:rOk x=true:=by
   simp only[rOk,hok,hmo,Bool.true_and,Bool.and_true,decide_eq_true_eq]
   exact fun h=>hz (Qav.2 h)
  simp+decide (disch:=first|omega|rfl|(simp+decide only[go_sem,h7,Bool.not_true]<;>rfl)|fail) only[go_sem,h7,Bool.not_true]
  refine Qaw (fun hi0=> ?_) (fun hi0=> ?_)
  ·obtain⟨j,rfl⟩:∃j,i=j+1:=⟨i-1,by omega⟩
   have e:((j+1:Nat):Int)-1=j:=by omega
   have hjl:j<l.length:=by omega
   have hpj:=hprev j rfl
   have hbadj:=hbadc j rfl
   have hadd2':0<Qau (l[j]'(by omega)).m x.m->∀j2 (h:j2+1<l.length),j2+1<j+1+1->0<Qau l[j2].m l[j2+1].m:=fun h=>hadd2 (fun j' hj'=>by
    obtain rfl:j'=j:=by omega
    exact h)
   generalize hy:l[j]'(by omega)=y at *
   simp+decide (disch:=try exact D4 h7 e hx hy) only[go_sem,h7,e,hx,hy]
   refine Qa hP (Qqx hpj (MB.ofOk hmo) (by omega)) rfl rfl rfl ?_
   simp+decide (disch:=try exact D2 h7 e) only[go_sem,h7,e]
   refine Qb (fun hc=> ?_) (fun hc=> ?_)
   ·have hf:Qcx l=false:=bad fun h=>by have:=hbadj h;omega
    simp+decide (disch:=try exact D1 h7) only[go_sem,h7]
    exact Qc (by rw[hf]) rfl
   ·simp+decide (disch:=try exact D1 h7) only[go_sem,h7]
    refine Qo (l.length-(j+1+1)) (by omega) ⟨j+1+1,rfl,by omega,hadd1 hrok,hadd2' (by omega),?_⟩
    simp+decide (disch:=try exact D0) only[go_sem]
  ·obtain rfl:i=0:=by omega
   simp+decide (disch:=try exact D1 h7) only[go_sem,h7]
   refine Qo (l.length-1) (by omega) ⟨1,rfl,by omega,hadd1 hrok,hadd2 (fun j hj=>by omega),?_⟩
   simp+decide (disch:=try exact D0) only[go_sem]
 ·obtain rfl:i=l.length:=by omega
  have hf:Qcx l=true:=hiff.2 ⟨fun j hj=>h1 j hj hj,fun j hj=>h2 j hj hj⟩
  simp+decide (disch:=try exact D0) only[go_sem]
  exact Qc (by rw[hf]) rfl
theorem Qu6{a b:Rat}{k:Nat}(ha:rs a<=k)(hb:rs b<=k)(hk:k<2^34):Qd Tryz.prog 49 [PV.rat a,PV.rat b] (· = .bool (decide (a=b))):=by
 have:=Qpv (Qbx ha) (Qbx hb) hk
 rwa[Qca,Qca]at this
end Go.Proofs.YtkoclfmjlolkhaaGreat
