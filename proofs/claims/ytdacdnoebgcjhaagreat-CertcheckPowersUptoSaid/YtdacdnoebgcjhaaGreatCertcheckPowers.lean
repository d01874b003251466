/- CertcheckPowers holds, for arguments of bulk at most 1048576. -/
import Derived.Test.YtdacdnoebgcjhaaGreatCertcheckPowersPart11
set_option linter.unusedSimpArgs false
set_option linter.unnecessarySimpa false
set_option linter.unusedVariables false
namespace Go.Proofs.YtdacdnoebgcjhaaGreat
open Go Go.FW
set_option linter.unusedSimpArgs false
set_option linter.unusedVariables false
set_option maxRecDepth 100000
end Go.Proofs.YtdacdnoebgcjhaaGreat
namespace Go.Proofs.YtdacdnoebgcjhaaGreat
open Go Go.FW
set_option linter.unusedSimpArgs false
set_option linter.unusedVariables false
set_option maxRecDepth 100000
theorem Qn2{l:List RTm}{k:Nat}(hb:∀t∈l,RB k t)(h:Qgg l=true):PV.rpoly l=PV.poly (l.map RTm.tm)/\Sm4 (l.map RTm.tm):=by
 simp only[Qgg,Bool.and_eq_true,decide_eq_true_eq,List.all_eq_true]at h
 obtain⟨h1,h2,h3⟩:=h
 obtain⟨e1,e2⟩:=Q3p hb h3
 refine⟨e1,e2.nrm,fun t ht=> ?_,fun t ht=> ?_,by simpa using h1⟩
 ·obtain⟨x,hx,rfl⟩:=List.mem_map.1 ht
  have hs:=h2 x hx
  simp only[smK,Bool.and_eq_true,decide_eq_true_eq,List.all_eq_true]at hs
  have hv:=e2.t _ ht
  have hr:=(show Raw 2 x.n x.a x.d from⟨(hb x hx).r.1,(hb x hx).r.2.1,hs.2.1,hs.2.2.1,by omega⟩).rs
  have hm:=MB.ofOk hv.m
  refine⟨?_,⟨hm.len,hm.lo,fun y hy=>hs.2.2.2 y hy⟩,Qoy hv.m⟩
  show rs (rv x.n x.a x.d)+1<=3
  omega
 ·obtain⟨x,hx,rfl⟩:=List.mem_map.1 ht
  have hs:=h2 x hx
  simp only[smK,Bool.and_eq_true,decide_eq_true_eq,List.all_eq_true]at hs
  exact hs.1
def tms(ls:List (List RTm)):List (List Tm):=ls.map fun l=>l.map RTm.tm
theorem Qt7{ls:List (List RTm)}{k:Nat}(hb:∀l∈ls,(∀t∈l,RB k t)/\l.length<2^40)(h:Qk2 ls=true):PV.sl 1 (ls.map PV.rpoly)=PV.polys (tms ls)/\(∀f∈tms ls,Sm4 f)/\(tms ls).length<=4:=by
 simp only[Qk2,Bool.and_eq_true,decide_eq_true_eq,List.all_eq_true]at h
 refine⟨?_,fun f hf=> ?_,by unfold tms;rw[List.length_map];exact h.1⟩
 ·unfold tms PV.polys
  rw[List.map_map]
  exact congrArg _ (List.map_congr_left fun l hl=>(Qn2 (hb l hl).1 (h.2 l hl)).1)
 ·obtain⟨l,hl,rfl⟩:=List.mem_map.1 hf
  exact(Qn2 (hb l hl).1 (h.2 l hl)).2
theorem Q40{c:Qb9}{k:Nat}(hb:RC k c)(h:Qnz c=true):PV.rcert c=PV.cert (tms c.fs) c.ps c.n (tms c.cs)/\(∀f∈tms c.fs,Sm4 f)/\(tms c.fs).length<=4/\(∀f∈tms c.cs,Sm4 f)/\(tms c.cs).length<=4/\c.ps.length<=6:=by
 simp only[Qnz,Bool.and_eq_true,decide_eq_true_eq]at h
 obtain⟨h1,h2,h3⟩:=h
 obtain⟨a1,a2,a3⟩:=Qt7 hb.f h1
 obtain⟨b1,b2,b3⟩:=Qt7 hb.g h2
 refine⟨?_,a2,a3,b2,b3,h3⟩
 unfold PV.rcert
 rw[a1,b1]
end Go.Proofs.YtdacdnoebgcjhaaGreat
namespace Go.Proofs.YtdacdnoebgcjhaaGreat
open Go Go.FW
set_option linter.unusedSimpArgs false
set_option linter.unusedVariables false
set_option maxRecDepth 100000
end Go.Proofs.YtdacdnoebgcjhaaGreat
namespace Go.Proofs.YtdacdnoebgcjhaaGreat
open Go Go.FW Go.ChangeShapes Go.WideShapes Go.ChangeAt Go.RowKit
set_option linter.unusedSimpArgs false
set_option linter.unusedVariables false
set_option maxRecDepth 100000
variable {H : Type} {enc : TypeId × Value -> H}
def Q1t(l:List Int):Prop:=l.length<=1048576/\∀x∈l,-9223372036854775808<=x/\x<=9223372036854775807
theorem Qacs:Rd enc 37 fun ps=>∃l:List Int,ps=[PV.mono l]/\Q1t l:=by
 refine(Qeb (α:=Int) (f:=fun(x:Int)=> .int .i64 x) Qa9 Tryz.underlying37 (by rw[Qh9];omega) (Qnl Tryz.underlying3)).mono ?_
 rintro ps ⟨l,rfl,h1,h2⟩
 exact⟨l,by rw[Qh9],h1,h2⟩
def Quy(c:Qb9):Prop:=Qlk c.fs/\Q1t c.ps/\(-9223372036854775808<=c.n/\c.n<=9223372036854775807)/\Qlk c.cs
theorem Qact:Rd enc 39 fun ps=>∃c:Qb9,ps=(PV.rcert c).cells/\Quy c:=by
 refine(Qw0 (Qs:=[fun ps=>∃ls:List (List RTm),ps=[.sl 1 (ls.map PV.rpoly)]/\Qlk ls,fun ps=>∃l:List Int,ps=[PV.mono l]/\Q1t l,fun ps=>∃n:Int,ps=[.int .i64 n]/\ -9223372036854775808<=n/\n<=9223372036854775807,fun ps=>∃ls:List (List RTm),ps=[.sl 1 (ls.map PV.rpoly)]/\Qlk ls]) Qa9 Tryz.underlying39 (by kernel_rfl) ⟨rfl,Qwy,by kernel_rfl,Qacs,by kernel_rfl,Qnl Tryz.underlying3,by kernel_rfl,Qwy,trivial⟩).mono ?_
 rintro ps ⟨p,q,rfl,⟨f,rfl,h1⟩,p2,q2,rfl,⟨l,rfl,h2⟩,p3,q3,rfl,⟨n,rfl,h3⟩,p4,q4,rfl,⟨c,rfl,h4⟩,rfl⟩
 exact⟨⟨f,l,n,c⟩,rfl,h1,h2,h3,h4⟩
variable {w : World} {base : Nat} {spare : Nat -> Bool} {held : Bool} {r : Reach} {b0 : Nat} {v : Value} {d : DataW H} {ps : List MemPlace}
theorem Quz{ls:List (List RTm)}(h:Qlk ls):(∀l∈ls,(∀t∈l,RB 1048576 t)/\l.length<2^40)/\ls.length<2^40:=⟨fun l hl=>⟨fun t ht=>((h.2 l hl).2 t ht).1,by have:=(h.2 l hl).1;omega⟩,by have:=h.1;omega⟩
theorem Qaim{c:Qb9}(h:Quy c):RC 1048576 c:=by
 obtain⟨h1,h2,h3,h4⟩:=h
 exact⟨(Quz h1).1,(Quz h4).1,(Quz h1).2,(Quz h4).2,by have:=h2.1;omega⟩
end Go.Proofs.YtdacdnoebgcjhaaGreat
namespace Go.Proofs.YtdacdnoebgcjhaaGreat
open Go Go.FW
set_option maxRecDepth 100000
def c15:SFn:=⟨68,[.t 2],Zr (Zo (.box 1 4 39 (.t 0))<|
 Zo (.mv 2 (.c (.bool false))) .nil)<| .seq (Zr (Zf 7 1 1<|
 Zl 8 1 7<|
 Zn 9 8<|
 Zf 10 0 1<|
 Zl 11 1 10<|
 Zn 12 11<|
 Zb 13 .neq 9 12<|
 Zm 14 13<|
 Zg 14 false (.fld 15 2 (.t 1))<|
 Zg 14 false (.ld 16 1 false (.t 15))<|
 Zg 14 false (.bin 17 .lss false (.t 16) (.c (Zz 1)))<|
 Zo (.pick 18 (.t 14) (.c (.bool true)) (.t 17))<|
 Zm 19 18<|
 Zg 19 false (.fld 20 2 (.t 1))<|
 Zg 19 false (.ld 21 1 false (.t 20))<|
 Zg 19 false (.bin 22 .gtr false (.t 21) (.c (Zz 64)))<|
 Zo (.pick 23 (.t 19) (.c (.bool true)) (.t 22)) .nil)<| .cond (.t 23) (Zr (Zo (.mv 2 (.c (.bool false))) .nil) .ret) .skip)<| .seq (Zr (Zf 24 0 1<|
 Zl 25 1 24<|
 Zn 26 25<|
 Zc 27 0 .nil)<| .block 0<| .loop<|Zr (Zb 28 .lss 27 26 .nil)<| .seq (.cond (.t 28) .skip (.exit 0))<| .seq (.block 1<|Zr (Zm 29 27<|
 Zi 30 1 25 27<|
 Zl 31 1 30<|
 Zm 3 29<|
 Zm 4 31 .nil)<|Zr (Zf 32 1 1<|
 Zl 33 1 32<|
 Zm 34 3<|
 Zi 35 1 33 34<|
 Zl 36 1 35<|
 Zk 37 .lss 36 0<|
 Zm 38 37<|
 Zg 38 false (.fld 39 1 (.t 1))<|
 Zg 38 false (.ld 40 1 false (.t 39))<|
 Zg 38 false (.mv 41 (.t 3))<|
 Zg 38 false (.idx 42 1 (.t 40) (.t 41))<|
 Zg 38 false (.ld 43 1 false (.t 42))<|
 Zg 38 false (.bin 44 .gtr false (.t 43) (.c (Zz 64)))<|
 Zo (.pick 45 (.t 38) (.c (.bool true)) (.t 44))<|
 Zm 46 45<|
 Zg 46 false (.mv 47 (.t 4))<|
 Zg 46 false (.len 48 (.t 47))<|
 Zg 46 false (.bin 49 .eql false (.t 48) (.c (Zz 0)))<|
 Zo (.pick 50 (.t 46) (.c (.bool true)) (.t 49))<|
 Zm 51 50<|
 Zg 51 false (.mv 52 (.t 4))<|
 Zg 51 false (.call (some 53) false (.c (.fn 32 [] [])) [.t 52])<|
 Zg 51 false (.un 54 .not (.t 53))<|
 Zo (.pick 55 (.t 51) (.c (.bool true)) (.t 54)) .nil)<| .cond (.t 55) (Zr (Zo (.mv 2 (.c (.bool false))) .nil) .ret) .skip)<| .rg (Zk 56 .add 27 1<|
 Zm 27 56 .nil))<| .seq (Zr (Zf 57 3 1<|
 Zl 58 1 57<|
 Zn 59 58<|
 Zc 60 0 .nil)<| .block 2<| .loop<|Zr (Zb 61 .lss 60 59 .nil)<| .seq (.cond (.t 61) .skip (.exit 2))<| .seq (.block 3<|Zr (Zi 62 1 58 60<|
 Zl 63 1 62<|
 Zm 6 63 .nil)<|Zr (Zm 64 6<|
 Zq 65 false 32 [.t 64]<|
 Zu 66 65 .nil)<| .cond (.t 66) (Zr (Zo (.mv 2 (.c (.bool false))) .nil) .ret) .skip)<| .rg (Zk 67 .add 60 1<|
 Zm 60 67 .nil))<|Zr (Zo (.mv 2 (.c (.bool true))) .nil) .ret⟩
theorem Qag5:Qe Tryz.prog Tryz.f15=some c15:=by kernel_rfl
def c5:SFn:=⟨47,[.t 2],Zr (Zo (.mv 2 (.c (.bool false))) .nil)<| .seq (Zr (Zm 5 0<|
 Zn 6 5<|
 Zk 7 .gtr 6 3 .nil)<| .cond (.t 7) (Zr (Zo (.mv 2 (.c (.bool false))) .nil) .ret) .skip)<| .seq (Zr (Zc 3 0 .nil)<| .block 0<| .loop<| .seq (Zr (Zm 8 3<|
 Zm 9 0<|
 Zn 10 9<|
 Zb 11 .lss 8 10 .nil)<| .cond (.t 11) .skip (.exit 0))<| .seq (.block 1<| .seq (Zr (Zm 14 0<|
 Zm 15 3<|
 Zi 16 4 14 15<|
 Zh 17 4 16<|
 Zq 18 false 14 [.t 17]<|
 Zu 19 18<|
 Zm 20 19<|
 Zg 20 false (.mv 21 (.t 0))<|
 Zg 20 false (.mv 22 (.t 3))<|
 Zg 20 false (.idx 23 4 (.t 21) (.t 22))<|
 Zg 20 false (.ld 24 4 true (.t 23))<|
 Zg 20 false (.call (some 25) false (.c (.fn 15 [] [])) [.t 24])<|
 Zg 20 false (.un 26 .not (.t 25))<|
 Zo (.pick 27 (.t 20) (.c (.bool true)) (.t 26)) .nil)<| .cond (.t 27) (Zr (Zo (.mv 2 (.c (.bool false))) .nil) .ret) .skip)<|Zr (Zc 4 0 .nil)<| .block 2<| .loop<| .seq (Zr (Zm 28 4<|
 Zm 29 0<|
 Zm 30 3<|
 Zi 31 4 29 30<|
 Zf 32 1 31<|
 Zl 33 1 32<|
 Zn 34 33<|
 Zb 35 .lss 28 34 .nil)<| .cond (.t 35) .skip (.exit 2))<| .seq (.block 3<|Zr (Zm 38 0<|
 Zm 39 3<|
 Zi 40 4 38 39<|
 Zf 41 1 40<|
 Zl 42 1 41<|
 Zm 43 4<|
 Zi 44 1 42 43<|
 Zl 45 1 44<|
 Zk 46 .gtr 45 4 .nil)<| .cond (.t 46) (Zr (Zo (.mv 2 (.c (.bool false))) .nil) .ret) .skip)<| .rg (Zm 36 4<|
 Zk 37 .add 36 1<|
 Zm 4 37 .nil))<| .rg (Zm 12 3<|
 Zk 13 .add 12 1<|
 Zm 3 13 .nil))<|Zr (Zo (.mv 2 (.c (.bool true))) .nil) .ret⟩
theorem Qain:Qe Tryz.prog Tryz.f5=some c5:=by kernel_rfl
def c11:SFn:=⟨58,[.t 2],Zr (Zo (.mv 2 (.c .nilS)) .nil)<|Zr (Zo (.mv 3 (.c .nilS)) .nil)<| .seq (Zr (Zm 11 0<|
 Zn 12 11<|
 Zc 13 0 .nil)<| .block 0<| .loop<|Zr (Zb 14 .lss 13 12 .nil)<| .seq (.cond (.t 14) .skip (.exit 0))<| .seq (.block 1<|Zr (Zi 15 4 11 13<|
 Zh 16 4 15<|
 Zo (.alloc 5 4 39 (.agg [.nilS,.nilS,Zz 0,.nilS]))<|
 Zs 4 5 16 .nil)<|Zr (Zf 17 0 5<|
 Zl 18 1 17<|
 Zn 19 18<|
 Zc 20 0 .nil)<| .block 2<| .loop<|Zr (Zb 21 .lss 20 19 .nil)<| .seq (.cond (.t 21) .skip (.exit 2))<| .seq (.block 3<|Zr (Zm 22 20<|
 Zi 23 1 18 20<|
 Zl 24 1 23<|
 Zm 6 22<|
 Zm 7 24 .nil)<| .seq (Zr (Zf 25 1 5<|
 Zl 26 1 25<|
 Zm 27 6<|
 Zi 28 1 26 27<|
 Zl 29 1 28<|
 Zk 30 .lss 29 1<|
 Zm 31 30<|
 Zg 31 false (.mv 32 (.t 7))<|
 Zg 31 false (.call (some 33) false (.c (.fn 29 [] [])) [.t 32])<|
 Zg 31 false (.bin 34 .lss false (.t 33) (.c (Zz 1)))<|
 Zo (.pick 35 (.t 31) (.c (.bool true)) (.t 34)) .nil)<| .cond (.t 35) (.exit 3) .skip)<|Zr (Zo (.mv 8 (.c (.bool false))) .nil)<| .seq (Zr (Zm 36 3<|
 Zn 37 36<|
 Zc 38 0 .nil)<| .block 4<| .loop<|Zr (Zb 39 .lss 38 37 .nil)<| .seq (.cond (.t 39) .skip (.exit 4))<| .seq (.block 5<|Zr (Zi 40 1 36 38<|
 Zl 41 1 40<|
 Zm 10 41 .nil)<| .rg (Zm 42 8<|
 Zm 43 42<|
 Zg 43 false (.mv 44 (.t 7))<|
 Zg 43 false (.mv 45 (.t 10))<|
 Zg 43 false (.call (some 46) false (.c (.fn 30 [] [])) [.t 44,.t 45])<|
 Zo (.pick 47 (.t 43) (.c (.bool true)) (.t 46))<|
 Zm 8 47 .nil))<| .rg (Zk 48 .add 38 1<|
 Zm 38 48 .nil))<|Zr (Zm 49 8<|
 Zu 50 49 .nil)<| .cond (.t 50) (.rg (Zm 51 3<|
 Zm 52 7<|
 Zo (.bs 53 1 35 [.t 52])<|
 Zo (.app 54 1 24 35 (.t 51) (.t 53))<|
 Zm 3 54 .nil)) .skip)<| .rg (Zk 55 .add 20 1<|
 Zm 20 55 .nil))<| .rg (Zk 56 .add 13 1<|
 Zm 13 56 .nil))<|Zr (Zm 57 3<|
 Zm 2 57 .nil) .ret⟩
theorem Qag6:Qe Tryz.prog Tryz.f11=some c11:=by kernel_rfl
def c8:SFn:=⟨35,[.t 4,.t 5],Zr (Zo (.mv 4 (.c (.bool false)))<|
 Zc 5 0 .nil)<|Zr (Zo (.mv 6 (.c (.bool true))) .nil)<| .seq (Zr (Zm 11 0<|
 Zq 12 false 11 [.t 11]<|
 Zn 13 12<|
 Zc 14 0 .nil)<| .block 0<| .loop<|Zr (Zb 15 .lss 14 13 .nil)<| .seq (.cond (.t 15) .skip (.exit 0))<| .seq (.block 1<|Zr (Zi 16 1 12 14<|
 Zl 17 1 16<|
 Zm 8 17 .nil)<|Zr (Zm 19 8<|
 Zm 20 1<|
 Zq 21 false 24 [.t 19,.t 20]<|
 Zm 18 21<|
 Zo (.ext 22 (.t 18) 0)<|
 Zo (.ext 23 (.t 18) 1)<|
 Zo (.alloc 9 3 50 (.agg [.bool false,.nilS,.nilS]))<|
 Zs 3 9 22<|
 Zm 10 23 .nil)<| .seq (Zr (Zm 24 10<|
 Zk 25 .neq 24 0 .nil)<| .cond (.t 25) (Zr (Zm 26 10<|
 Zo (.mv 4 (.c (.bool false)))<|
 Zm 5 26 .nil) .ret) .skip)<| .rg (Zm 27 6<|
 Zm 28 27<|
 Zg 28 true (.ld 29 3 true (.t 9))<|
 Zg 28 true (.call (some 30) false (.c (.fn 25 [] [])) [.t 29])<|
 Zg 28 true (.bin 31 .neq false (.t 30) (.c (Zz 0)))<|
 Zo (.pick 32 (.t 28) (.t 31) (.c (.bool false)))<|
 Zm 6 32 .nil))<| .rg (Zk 33 .add 14 1<|
 Zm 14 33 .nil))<|Zr (Zm 34 6<|
 Zm 4 34<|
 Zc 5 0 .nil) .ret⟩
theorem Qaio:Qe Tryz.prog Tryz.f8=some c8:=by kernel_rfl
def c22:SFn:=⟨43,[.t 4,.t 5],Zr (Zo (.box 2 7 62 (.t 0))<|
 Zc 4 0<|
 Zo (.mv 5 (.c (.bool false))) .nil)<| .seq (Zr (Zm 10 1<|
 Zn 11 10<|
 Zk 12 .eql 11 0 .nil)<| .cond (.t 12) (Zr (Zc 4 0<|
 Zo (.mv 5 (.c (.bool false))) .nil) .ret) .skip)<| .seq (Zr (Zf 13 5 2<|
 Zl 14 1 13<|
 Zn 15 14<|
 Zc 16 0 .nil)<| .block 0<| .loop<|Zr (Zb 17 .lss 16 15 .nil)<| .seq (.cond (.t 17) .skip (.exit 0))<| .seq (.block 1<|Zr (Zm 18 16<|
 Zi 19 1 14 16<|
 Zl 20 1 19<|
 Zm 6 18<|
 Zm 7 20 .nil)<| .seq (Zr (Zm 21 7<|
 Zn 22 21<|
 Zk 23 .eql 22 0 .nil)<| .cond (.t 23) (.exit 1) .skip)<|Zr (Zm 25 7<|
 Zo (.idx 26 4 (.t 25) (.c (Zz 0)))<|
 Zf 27 0 26<|
 Zh 28 3 27<|
 Zm 29 1<|
 Zo (.idx 30 4 (.t 29) (.c (Zz 0)))<|
 Zf 31 0 30<|
 Zh 32 3 31<|
 .br (Zq 33 true 42 [.t 28,.t 32]<|
 Zm 24 33<|
 Zo (.ext 34 (.t 24) 0)<|
 Zo (.ext 35 (.t 24) 1)<|
 Zo (.alloc 8 3 50 (.agg [.bool false,.nilS,.nilS]))<|
 Zs 3 8 34<|
 Zm 9 35 .nil) (Zo (.alloc 8 3 50 (.agg [.bool false,.nilS,.nilS]))<|
 Zq 33 true 42 [.t 28,.t 32]<|
 Zm 24 33<|
 Zo (.ext 34 (.t 24) 0)<|
 Zo (.ext 35 (.t 24) 1)<|
 Zs 3 8 34<|
 Zm 9 35 .nil))<|Zr (Zm 36 7<|
 Zm 37 1<|
 Zh 38 3 8<|
 Zq 39 false 43 [.t 37,.t 38]<|
 Zq 40 false 30 [.t 36,.t 39] .nil)<| .cond (.t 40) (Zr (Zm 41 6<|
 Zm 4 41<|
 Zo (.mv 5 (.c (.bool true))) .nil) .ret) .skip)<| .rg (Zk 42 .add 16 1<|
 Zm 16 42 .nil))<|Zr (Zc 4 0<|
 Zo (.mv 5 (.c (.bool false))) .nil) .ret⟩
theorem Qag7:Qe Tryz.prog Tryz.f22=some c22:=by kernel_rfl
def c23:SFn:=⟨62,[.t 6],Zr (Zo (.box 3 7 62 (.t 0))<|
 Zc 6 0 .nil)<| .seq (Zr (Zm 10 1<|
 Zk 11 .lss 10 0<|
 Zm 12 11<|
 Zg 12 false (.mv 13 (.t 1))<|
 Zg 12 false (.fld 14 6 (.t 3))<|
 Zg 12 false (.ld 15 1 false (.t 14))<|
 Zg 12 false (.len 16 (.t 15))<|
 Zg 12 false (.bin 17 .geq false (.t 13) (.t 16))<|
 Zo (.pick 18 (.t 12) (.c (.bool true)) (.t 17)) .nil)<| .cond (.t 18) (Zr (Zc 6 2 .nil) .ret) .skip)<| .seq (Zr (Zm 19 2<|
 Zn 20 19<|
 Zf 21 6 3<|
 Zl 22 1 21<|
 Zm 23 1<|
 Zi 24 1 22 23<|
 Zl 25 1 24<|
 Zn 26 25<|
 Zb 27 .neq 20 26 .nil)<| .cond (.t 27) (Zr (Zc 6 16 .nil) .ret) .skip)<| .seq (Zr (Zm 28 2<|
 Zn 29 28<|
 Zc 30 0 .nil)<| .block 0<| .loop<|Zr (Zb 31 .lss 30 29 .nil)<| .seq (.cond (.t 31) .skip (.exit 0))<| .seq (.block 1<|Zr (Zm 32 30<|
 Zi 33 4 28 30<|
 Zh 34 4 33<|
 Zo (.alloc 8 4 39 (.agg [.nilS,.nilS,Zz 0,.nilS]))<|
 Zm 7 32<|
 Zs 4 8 34 .nil)<|Zr (Zh 35 7 3<|
 Zf 36 6 3<|
 Zl 37 1 36<|
 Zm 38 1<|
 Zi 39 1 37 38<|
 Zl 40 1 39<|
 Zm 41 7<|
 Zi 42 1 40 41<|
 Zl 43 1 42<|
 Zh 44 4 8<|
 .br (Zq 45 true 44 [.t 35,.t 43,.t 44]<|
 Zo (.alloc 9 4 87 (.agg [Zz 0,Zz 0,Zz 0,Zz 0]))<|
 Zs 4 9 45 .nil) (Zo (.alloc 9 4 87 (.agg [Zz 0,Zz 0,Zz 0,Zz 0]))<|
 Zq 45 true 44 [.t 35,.t 43,.t 44]<|
 Zs 4 9 45 .nil))<| .seq (Zr (Zo (.idxA 46 2 2 (.t 9) (.c (Zz 0)))<|
 Zh 47 2 46<|
 Zo (.idxA 48 2 2 (.t 9) (.c (Zz 1)))<|
 Zh 49 2 48<|
 Zo (.eqs 50 false (.t 47) (.t 49)) .nil)<| .cond (.t 50) (.exit 1) .skip)<| .seq (Zr (Zo (.idxA 51 2 2 (.t 9) (.c (Zz 1)))<|
 Zf 52 0 51<|
 Zl 53 1 52<|
 Zk 54 .neq 53 0 .nil)<| .cond (.t 54) (Zr (Zo (.idxA 55 2 2 (.t 9) (.c (Zz 1)))<|
 Zf 56 0 55<|
 Zl 57 1 56<|
 Zm 6 57 .nil) .ret) .skip)<|Zr (Zo (.idxA 58 2 2 (.t 9) (.c (Zz 1)))<|
 Zf 59 1 58<|
 Zl 60 1 59<|
 Zm 6 60 .nil) .ret)<| .rg (Zk 61 .add 30 1<|
 Zm 30 61 .nil))<|Zr (Zc 6 0 .nil) .ret⟩
theorem Qxl:Qe Tryz.prog Tryz.f23=some c23:=by kernel_rfl
def c44:SFn:=⟨22,[.cell 6 4 true],Zr (Zo (.box 3 7 62 (.t 0))<|
 Zo (.box 5 4 39 (.t 2))<|
 Zo (.alloc 6 4 87 (.agg [Zz 0,Zz 0,Zz 0,Zz 0])) .nil)<|Zr (Zo (.alloc 7 4 87 (.agg [Zz 0,Zz 0,Zz 0,Zz 0])) .nil)<| .seq (Zr (Zh 8 4 5<|
 Zq 9 false 77 [.t 8]<|
 Zu 10 9 .nil)<| .cond (.t 10) (Zr (Zo (.idxA 11 2 2 (.t 7) (.c (Zz 1)))<|
 Zf 12 0 11<|
 Zo (.st 1 (.t 12) (.c (Zz 1))) .nil)<|Zr (Zh 13 4 7<|
 Zs 4 6 13 .nil) .ret) .skip)<|Zr (Zh 14 4 5<|
 Zf 15 4 3<|
 Zl 16 1 15<|
 Zm 17 1<|
 Zq 18 false 78 [.t 14,.t 16,.t 17]<|
 Zo (.idxA 19 2 2 (.t 7) (.c (Zz 1)))<|
 Zf 20 1 19<|
 Zs 1 20 18 .nil)<|Zr (Zh 21 4 7<|
 Zs 4 6 21 .nil) .ret⟩
theorem Qag8:Qe Tryz.prog Tryz.f44=some c44:=by kernel_rfl
def c77:SFn:=⟨68,[.t 2],Zr (Zo (.box 1 4 39 (.t 0))<|
 Zo (.mv 2 (.c (.bool false))) .nil)<| .seq (Zr (Zf 7 1 1<|
 Zl 8 1 7<|
 Zn 9 8<|
 Zf 10 0 1<|
 Zl 11 1 10<|
 Zn 12 11<|
 Zb 13 .neq 9 12<|
 Zm 14 13<|
 Zg 14 false (.fld 15 2 (.t 1))<|
 Zg 14 false (.ld 16 1 false (.t 15))<|
 Zg 14 false (.bin 17 .lss false (.t 16) (.c (Zz 1)))<|
 Zo (.pick 18 (.t 14) (.c (.bool true)) (.t 17))<|
 Zm 19 18<|
 Zg 19 false (.fld 20 2 (.t 1))<|
 Zg 19 false (.ld 21 1 false (.t 20))<|
 Zg 19 false (.bin 22 .gtr false (.t 21) (.c (Zz 64)))<|
 Zo (.pick 23 (.t 19) (.c (.bool true)) (.t 22)) .nil)<| .cond (.t 23) (Zr (Zo (.mv 2 (.c (.bool false))) .nil) .ret) .skip)<| .seq (Zr (Zf 24 0 1<|
 Zl 25 1 24<|
 Zn 26 25<|
 Zc 27 0 .nil)<| .block 0<| .loop<|Zr (Zb 28 .lss 27 26 .nil)<| .seq (.cond (.t 28) .skip (.exit 0))<| .seq (.block 1<|Zr (Zm 29 27<|
 Zi 30 1 25 27<|
 Zl 31 1 30<|
 Zm 3 29<|
 Zm 4 31 .nil)<|Zr (Zf 32 1 1<|
 Zl 33 1 32<|
 Zm 34 3<|
 Zi 35 1 33 34<|
 Zl 36 1 35<|
 Zk 37 .lss 36 0<|
 Zm 38 37<|
 Zg 38 false (.fld 39 1 (.t 1))<|
 Zg 38 false (.ld 40 1 false (.t 39))<|
 Zg 38 false (.mv 41 (.t 3))<|
 Zg 38 false (.idx 42 1 (.t 40) (.t 41))<|
 Zg 38 false (.ld 43 1 false (.t 42))<|
 Zg 38 false (.bin 44 .gtr false (.t 43) (.c (Zz 64)))<|
 Zo (.pick 45 (.t 38) (.c (.bool true)) (.t 44))<|
 Zm 46 45<|
 Zg 46 false (.mv 47 (.t 4))<|
 Zg 46 false (.len 48 (.t 47))<|
 Zg 46 false (.bin 49 .eql false (.t 48) (.c (Zz 0)))<|
 Zo (.pick 50 (.t 46) (.c (.bool true)) (.t 49))<|
 Zm 51 50<|
 Zg 51 false (.mv 52 (.t 4))<|
 Zg 51 false (.call (some 53) false (.c (.fn 103 [] [])) [.t 52])<|
 Zg 51 false (.un 54 .not (.t 53))<|
 Zo (.pick 55 (.t 51) (.c (.bool true)) (.t 54)) .nil)<| .cond (.t 55) (Zr (Zo (.mv 2 (.c (.bool false))) .nil) .ret) .skip)<| .rg (Zk 56 .add 27 1<|
 Zm 27 56 .nil))<| .seq (Zr (Zf 57 3 1<|
 Zl 58 1 57<|
 Zn 59 58<|
 Zc 60 0 .nil)<| .block 2<| .loop<|Zr (Zb 61 .lss 60 59 .nil)<| .seq (.cond (.t 61) .skip (.exit 2))<| .seq (.block 3<|Zr (Zi 62 1 58 60<|
 Zl 63 1 62<|
 Zm 6 63 .nil)<|Zr (Zm 64 6<|
 Zq 65 false 103 [.t 64]<|
 Zu 66 65 .nil)<| .cond (.t 66) (Zr (Zo (.mv 2 (.c (.bool false))) .nil) .ret) .skip)<| .rg (Zk 67 .add 60 1<|
 Zm 60 67 .nil))<|Zr (Zo (.mv 2 (.c (.bool true))) .nil) .ret⟩
theorem Qag9:Qe Tryz.prog Tryz.f77=some c77:=by kernel_rfl
def c16:SFn:=⟨38,[.t 2],Zr (Zo (.mv 2 (.c (.bool false))) .nil)<| .seq (Zr (Zm 4 0<|
 Zn 5 4<|
 Zk 6 .gtr 5 12 .nil)<| .cond (.t 6) (Zr (Zo (.mv 2 (.c (.bool false))) .nil) .ret) .skip)<| .seq (Zr (Zc 3 0 .nil)<| .block 0<| .loop<| .seq (Zr (Zm 7 3<|
 Zm 8 0<|
 Zn 9 8<|
 Zb 10 .lss 7 9 .nil)<| .cond (.t 10) .skip (.exit 0))<| .seq (.block 1<|Zr (Zm 13 0<|
 Zm 14 3<|
 Zi 15 3 13 14<|
 Zf 16 0 15<|
 Zf 17 1 16<|
 Zl 18 1 17<|
 Zn 19 18<|
 Zk 20 .gtr 19 2<|
 Zm 21 20<|
 Zg 21 false (.mv 22 (.t 0))<|
 Zg 21 false (.mv 23 (.t 3))<|
 Zg 21 false (.idx 24 3 (.t 22) (.t 23))<|
 Zg 21 false (.fld 25 2 (.t 24))<|
 Zg 21 false (.ld 26 1 false (.t 25))<|
 Zg 21 false (.len 27 (.t 26))<|
 Zg 21 false (.bin 28 .gtr false (.t 27) (.c (Zz 2)))<|
 Zo (.pick 29 (.t 21) (.c (.bool true)) (.t 28))<|
 Zm 30 29<|
 Zg 30 false (.mv 31 (.t 0))<|
 Zg 30 false (.mv 32 (.t 3))<|
 Zg 30 false (.idx 33 3 (.t 31) (.t 32))<|
 Zg 30 false (.ld 34 3 true (.t 33))<|
 Zg 30 false (.call (some 35) false (.c (.fn 34 [] [])) [.t 34])<|
 Zg 30 false (.un 36 .not (.t 35))<|
 Zo (.pick 37 (.t 30) (.c (.bool true)) (.t 36)) .nil)<| .cond (.t 37) (Zr (Zo (.mv 2 (.c (.bool false))) .nil) .ret) .skip)<| .rg (Zm 11 3<|
 Zk 12 .add 11 1<|
 Zm 3 12 .nil))<|Zr (Zo (.mv 2 (.c (.bool true))) .nil) .ret⟩
theorem Qaha:Qe Tryz.prog Tryz.f16=some c16:=by kernel_rfl
def c6:SFn:=⟨5,[.t 2],Zr (Zo (.mv 2 (.c (.bool false))) .nil)<|Zr (Zm 3 0<|
 Zq 4 false 16 [.t 3]<|
 Zm 2 4 .nil) .ret⟩
theorem Qaip:Qe Tryz.prog Tryz.f6=some c6:=by kernel_rfl
def c3:SFn:=⟨48,[.t 4],Zr (Zo (.mv 4 (.c (.bool false))) .nil)<| .seq (Zr (Zm 9 0<|
 Zq 10 false 5 [.t 9]<|
 Zu 11 10<|
 Zm 12 11<|
 Zg 12 false (.mv 13 (.t 1))<|
 Zg 12 false (.call (some 14) false (.c (.fn 6 [] [])) [.t 13])<|
 Zg 12 false (.un 15 .not (.t 14))<|
 Zo (.pick 16 (.t 12) (.c (.bool true)) (.t 15)) .nil)<| .cond (.t 16) (Zr (Zq 17 false 7 []<|
 Zm 4 17 .nil) .ret) .skip)<|Zr (Zm 19 0<|
 Zm 20 1<|
 Zq 21 false 8 [.t 19,.t 20]<|
 Zm 18 21<|
 Zo (.ext 22 (.t 18) 0)<|
 Zo (.ext 23 (.t 18) 1)<|
 Zm 5 22<|
 Zm 6 23 .nil)<|Zr (Zm 25 0<|
 Zm 26 1<|
 Zq 27 false 9 [.t 25,.t 26]<|
 Zm 24 27<|
 Zo (.ext 28 (.t 24) 0)<|
 Zo (.ext 29 (.t 24) 1)<|
 Zm 7 28<|
 Zm 8 29 .nil)<|Zr (Zm 30 0<|
 Zq 31 false 11 [.t 30]<|
 Zm 32 0<|
 Zq 33 false 12 [.t 32]<|
 Zq 34 false 10 [.t 31,.t 33]<|
 Zm 35 34<|
 Zg 35 true (.mv 36 (.t 5))<|
 Zg 35 true (.mv 37 (.t 7))<|
 Zg 35 true (.bin 38 .eql true (.t 36) (.t 37))<|
 Zo (.pick 39 (.t 35) (.t 38) (.c (.bool false)))<|
 Zm 40 39<|
 Zg 40 true (.mv 41 (.t 6))<|
 Zg 40 true (.mv 42 (.t 8))<|
 Zg 40 true (.bin 43 .eql false (.t 41) (.t 42))<|
 Zo (.pick 44 (.t 40) (.t 43) (.c (.bool false)))<|
 Zm 45 44<|
 Zg 45 true (.call (some 46) false (.c (.fn 7 [] [])) [])<|
 Zo (.pick 47 (.t 45) (.t 46) (.c (.bool false)))<|
 Zm 4 47 .nil) .ret⟩
end Go.Proofs.YtdacdnoebgcjhaaGreat
namespace Go.Proofs.YtdacdnoebgcjhaaGreat
open Go Go.FW
set_option linter.unusedSimpArgs false
set_option linter.unusedVariables false
set_option maxRecDepth 100000
def Qd1(c:Qb9)(i:Nat):Bool:=decide (0<=c.ps.getD i 0/\c.ps.getD i 0<=64)&&(decide (c.fs.getD i []≠[])&&Qbc (c.fs.getD i []))
def Qb6(c:Qb9):Bool:=decide (c.ps.length=c.fs.length/\1<=c.n/\c.n<=64)&&((List.range c.fs.length).all (Qd1 c)&&c.cs.all Qbc)
theorem Qus{c:Qb9}{k:Nat}(hb:RC k c)(hk1:1<=k)(hk:k<2^36):Qd Tryz.prog 15 [PV.rcert c] (· = .bool (Qb6 c)):=by
 have h2:=hb.pl
 have h3:=hb.fl
 have h4:=hb.cl
 obtain⟨fs,ps,n,cs⟩:=c
 simp only at h2 h3 h4
 refine Qf Ql Tryz.func15 rfl Qag5 (by simp[c15]) fun C hP=> ?_;simp only[c15,Zo,Zg,Zm,Zc,Zf,Zl,Zh,Zs,Zi,Zb,Zk,Zn,Zu,Zq,Zr,Zz]
 simp+decide (disch:=first|exact D0|fail) only[go_sem,↓reduceIte]
 refine Qv (fun hl=> ?_) (fun hl=> ?_)
 ·simp+decide (disch:=first|exact D0|fail) only[go_sem,↓reduceIte]
  exact Qc (by simp[Qb6,show ¬ps.length=fs.length by omega]) rfl
 simp+decide (disch:=first|exact D0|fail) only[go_sem,↓reduceIte]
 refine Qv (fun hn=> ?_) (fun hn=> ?_)
 ·simp+decide (disch:=first|exact D0|fail) only[go_sem,↓reduceIte]
  exact Qc (by simp[Qb6,show ¬1<=n by omega]) rfl
 simp+decide (disch:=first|exact D0|fail) only[go_sem,↓reduceIte]
 refine Qb (fun hn2=> ?_) (fun hn2=> ?_)
 ·simp+decide (disch:=first|exact D0|fail) only[go_sem,↓reduceIte]
  exact Qc (by simp[Qb6,show ¬n<=64 by omega]) rfl
 have hg0:decide (ps.length=fs.length/\1<=n/\n<=64)=true:=decide_eq_true (by omega)
 simp+decide (disch:=first|exact D0|fail) only[go_sem,↓reduceIte]
 refine Qw (by repeat (first|exact Qu|exact Qn|exact Qo|exact Qp|exact Qq|apply Qm|apply Qt|apply Qy|apply Q5|apply Q6|apply Qk|apply Q2)) [(2,4),(27,56)] [] (fun m J hp=>∃i,m=fs.length-i/\i<=fs.length/\(∀j,j<i->Qd1 ⟨fs,ps,n,cs⟩ j=true)/\J 27= .int .i64 (i:Nat)/\hp 1=some ⟨4,39,[PV.rcert ⟨fs,ps,n,cs⟩],false⟩) fs.length ?_ ?_
 ·refine⟨0,rfl,by omega,by omega,?_⟩
  simp+decide (disch:=first|exact D0|fail) only[go_sem,↓reduceIte]
  rfl
 rintro _ J h ⟨i,rfl,hi,h5,h6,hb1⟩
 simp+decide (disch:=first|exact D2 hb1 h6|fail) only[go_sem,↓reduceIte,hb1,h6]
 refine Qb (fun hg=> ?_) (fun hg=> ?_)
 ·have hif:i<fs.length:=by omega
  have hip:i<ps.length:=by omega
  have hbad:Qd1 ⟨fs,ps,n,cs⟩ i=false->Qb6 ⟨fs,ps,n,cs⟩=false:=fun h=>by
   have:(List.range fs.length).all (Qd1 ⟨fs,ps,n,cs⟩)=false:=by
    rw[List.all_eq_false];exact⟨i,List.mem_range.2 hif,by simp[h]⟩
   simp[Qb6,this]
  have e2:ps.getD i 0=ps[i]:=by simp[hip]
  have e3:fs.getD i []=fs[i]:=by simp[hif]
  have e4:Qd1 ⟨fs,ps,n,cs⟩ i=(decide (0<=ps[i]/\ps[i]<=64)&&(decide (fs[i]≠[])&&Qbc fs[i])):=by unfold Qd1;rw[e2,e3]
  rw[e4]at hbad
  have hy1:=hb.f _ (List.getElem_mem hif)
  generalize hx:ps[i]=x at *
  generalize hy:fs[i]=y at *
  have hyl:=hy1.2
  have hr:=Qju hy1.1 hk1 hk hy1.2
  simp+decide (disch:=first|exact D4 hb1 h6 hx hy|fail) only[go_sem,↓reduceIte,hb1,h6,hx,hy]
  refine Qv (fun h7=> ?_) (fun h7=> ?_)
  ·simp+decide (disch:=first|exact D3 hb1 h6 hx|fail) only[go_sem,↓reduceIte,hb1,h6,hx]
   exact Qc (by rw[hbad (by rw[decide_eq_false (by omega),Bool.false_and])]) rfl
  simp+decide (disch:=first|exact D3 hb1 h6 hx|fail) only[go_sem,↓reduceIte,hb1,h6,hx]
  refine Qv (fun h8=> ?_) (fun h8=> ?_)
  ·simp+decide (disch:=first|exact D3 hb1 h6 hx|fail) only[go_sem,↓reduceIte,hb1,h6,hx]
   exact Qc (by rw[hbad (by rw[decide_eq_false (by omega),Bool.false_and])]) rfl
  simp+decide (disch:=first|exact D4 hb1 h6 hx hy|fail) only[go_sem,↓reduceIte,hb1,h6,hx,hy]
  refine Qv (fun h9=> ?_) (fun h9=> ?_)
  ·simp+decide (disch:=first|exact D3 hb1 h6 hx|fail) only[go_sem,↓reduceIte,hb1,h6,hx]
   obtain rfl:y=[]:=List.length_eq_zero_iff.1 (by omega)
   exact Qc (by rw[hbad (by simp)]) rfl
  have hne:y≠[]:=fun e=>by rw[e]at h9;simp at h9
  simp+decide (disch:=first|exact D2 hb1 h6|fail) only[go_sem,↓reduceIte,hb1,h6]
  refine Qa hP hr rfl rfl rfl ?_
  cases hok:Qbc y
  ·simp+decide (disch:=first|exact D2 hb1 h6|fail) only[go_sem,↓reduceIte,hb1,h6]
   exact Qc (by rw[hbad (by simp[hok])]) rfl
  simp+decide (disch:=first|exact D2 hb1 h6|fail) only[go_sem,↓reduceIte,hb1,h6]
  refine Qh (fs.length-(i+1)) (by omega) ⟨i+1,rfl,by omega,fun j hj=> ?_,?_⟩
  ·by_cases e:j=i
   ·subst e
    rw[e4,decide_eq_true (by omega),decide_eq_true hne,hok];rfl
   ·exact h5 j (by omega)
  ·simp+decide (disch:=first|exact D1 hb1|fail) only[go_sem,↓reduceIte,hb1]
 ·obtain rfl:i=fs.length:=by omega
  have hall:(List.range fs.length).all (Qd1 ⟨fs,ps,n,cs⟩)=true:=by
   rw[List.all_eq_true]
   intro t ht
   exact h5 t (List.mem_range.1 ht)
  simp+decide (disch:=first|exact D1 hb1|fail) only[go_sem,↓reduceIte,hb1]
  refine Qw (by repeat (first|exact Qu|exact Qn|exact Qo|exact Qp|exact Qq|apply Qm|apply Qt|apply Qy|apply Q5|apply Q6|apply Qk|apply Q2)) [(2,2),(6,6),(60,67)] [] (fun m J hp=>∃i,m=cs.length-i/\i<=cs.length/\(∀j (h:j<cs.length),j<i->Qbc cs[j]=true)/\J 60= .int .i64 (i:Nat)) cs.length ?_ ?_
  ·refine⟨0,rfl,by omega,by omega,?_⟩
   simp+decide (disch:=first|exact D0|fail) only[go_sem,↓reduceIte]
   rfl
  rintro _ J2 h' ⟨i,rfl,hi,h7,h8⟩
  simp+decide (disch:=first|exact D1 h8|fail) only[go_sem,↓reduceIte,h8]
  refine Qb (fun hg=> ?_) (fun hg=> ?_)
  ·have hic:i<cs.length:=by omega
   have hy1:=hb.g _ (List.getElem_mem hic)
   have hym:=List.getElem_mem hic
   have hadd:Qbc cs[i]=true->∀j (h:j<cs.length),j<i+1->Qbc cs[j]=true:=fun h j hj hji=>by
    by_cases e:j=i
    ·subst e;exact h
    ·exact h7 j hj (by omega)
   generalize hy:cs[i]=y at *
   have hr:=Qju hy1.1 hk1 hk hy1.2
   simp+decide (disch:=first|exact D2 h8 hy|fail) only[go_sem,↓reduceIte,h8,hy]
   refine Qa hP hr rfl rfl rfl ?_
   cases hok:Qbc y
   ·simp+decide (disch:=first|exact D1 h8|fail) only[go_sem,↓reduceIte,h8]
    refine Qc ?_ rfl
    have:cs.all Qbc=false:=by
     rw[List.all_eq_false];exact⟨y,hym,by simp[hok]⟩
    simp[Qb6,this]
   simp+decide (disch:=first|exact D1 h8|fail) only[go_sem,↓reduceIte,h8]
   refine Qh (cs.length-(i+1)) (by omega) ⟨i+1,rfl,by omega,hadd hok,?_⟩
   simp+decide (disch:=first|exact D0|fail) only[go_sem,↓reduceIte]
  ·obtain rfl:i=cs.length:=by omega
   simp+decide (disch:=first|exact D0|fail) only[go_sem,↓reduceIte]
   refine Qc ?_ rfl
   have:cs.all Qbc=true:=by
    rw[List.all_eq_true]
    intro t ht
    obtain⟨j,hj,rfl⟩:=List.getElem_of_mem ht
    exact h7 j hj hj
   rw[Qb6,hall,this,hg0];rfl
theorem Qys{c:Qb9}{k:Nat}(hb:RC k c)(hk1:1<=k)(hk:k<2^36):Qd Tryz.prog 77 [PV.rcert c] (· = .bool (Qb6 c)):=by
 have h2:=hb.pl
 have h3:=hb.fl
 have h4:=hb.cl
 obtain⟨fs,ps,n,cs⟩:=c
 simp only at h2 h3 h4
 refine Qf Ql Tryz.func77 rfl Qag9 (by simp[c77]) fun C hP=> ?_;simp only[c77,Zo,Zg,Zm,Zc,Zf,Zl,Zh,Zs,Zi,Zb,Zk,Zn,Zu,Zq,Zr,Zz]
 simp+decide (disch:=first|exact D0|fail) only[go_sem,↓reduceIte]
 refine Qv (fun hl=> ?_) (fun hl=> ?_)
 ·simp+decide (disch:=first|exact D0|fail) only[go_sem,↓reduceIte]
  exact Qc (by simp[Qb6,show ¬ps.length=fs.length by omega]) rfl
 simp+decide (disch:=first|exact D0|fail) only[go_sem,↓reduceIte]
 refine Qv (fun hn=> ?_) (fun hn=> ?_)
 ·simp+decide (disch:=first|exact D0|fail) only[go_sem,↓reduceIte]
  exact Qc (by simp[Qb6,show ¬1<=n by omega]) rfl
 simp+decide (disch:=first|exact D0|fail) only[go_sem,↓reduceIte]
 refine Qb (fun hn2=> ?_) (fun hn2=> ?_)
 ·simp+decide (disch:=first|exact D0|fail) only[go_sem,↓reduceIte]
  exact Qc (by simp[Qb6,show ¬n<=64 by omega]) rfl
 have hg0:decide (ps.length=fs.length/\1<=n/\n<=64)=true:=decide_eq_true (by omega)
 simp+decide (disch:=first|exact D0|fail) only[go_sem,↓reduceIte]
 refine Qw (by repeat (first|exact Qu|exact Qn|exact Qo|exact Qp|exact Qq|apply Qm|apply Qt|apply Qy|apply Q5|apply Q6|apply Qk|apply Q2)) [(2,4),(27,56)] [] (fun m J hp=>∃i,m=fs.length-i/\i<=fs.length/\(∀j,j<i->Qd1 ⟨fs,ps,n,cs⟩ j=true)/\J 27= .int .i64 (i:Nat)/\hp 1=some ⟨4,39,[PV.rcert ⟨fs,ps,n,cs⟩],false⟩) fs.length ?_ ?_
 ·refine⟨0,rfl,by omega,by omega,?_⟩
  simp+decide (disch:=first|exact D0|fail) only[go_sem,↓reduceIte]
  rfl
 rintro _ J h ⟨i,rfl,hi,h5,h6,hb1⟩
 simp+decide (disch:=first|exact D2 hb1 h6|fail) only[go_sem,↓reduceIte,hb1,h6]
 refine Qb (fun hg=> ?_) (fun hg=> ?_)
 ·have hif:i<fs.length:=by omega
  have hip:i<ps.length:=by omega
  have hbad:Qd1 ⟨fs,ps,n,cs⟩ i=false->Qb6 ⟨fs,ps,n,cs⟩=false:=fun h=>by
   have:(List.range fs.length).all (Qd1 ⟨fs,ps,n,cs⟩)=false:=by
    rw[List.all_eq_false];exact⟨i,List.mem_range.2 hif,by simp[h]⟩
   simp[Qb6,this]
  have e2:ps.getD i 0=ps[i]:=by simp[hip]
  have e3:fs.getD i []=fs[i]:=by simp[hif]
  have e4:Qd1 ⟨fs,ps,n,cs⟩ i=(decide (0<=ps[i]/\ps[i]<=64)&&(decide (fs[i]≠[])&&Qbc fs[i])):=by unfold Qd1;rw[e2,e3]
  rw[e4]at hbad
  have hy1:=hb.f _ (List.getElem_mem hif)
  generalize hx:ps[i]=x at *
  generalize hy:fs[i]=y at *
  have hyl:=hy1.2
  have hr:=Qo8 hy1.1 hk1 hk hy1.2
  simp+decide (disch:=first|exact D4 hb1 h6 hx hy|fail) only[go_sem,↓reduceIte,hb1,h6,hx,hy]
  refine Qv (fun h7=> ?_) (fun h7=> ?_)
  ·simp+decide (disch:=first|exact D3 hb1 h6 hx|fail) only[go_sem,↓reduceIte,hb1,h6,hx]
   exact Qc (by rw[hbad (by rw[decide_eq_false (by omega),Bool.false_and])]) rfl
  simp+decide (disch:=first|exact D3 hb1 h6 hx|fail) only[go_sem,↓reduceIte,hb1,h6,hx]
  refine Qv (fun h8=> ?_) (fun h8=> ?_)
  ·simp+decide (disch:=first|exact D3 hb1 h6 hx|fail) only[go_sem,↓reduceIte,hb1,h6,hx]
   exact Qc (by rw[hbad (by rw[decide_eq_false (by omega),Bool.false_and])]) rfl
  simp+decide (disch:=first|exact D4 hb1 h6 hx hy|fail) only[go_sem,↓reduceIte,hb1,h6,hx,hy]
  refine Qv (fun h9=> ?_) (fun h9=> ?_)
  ·simp+decide (disch:=first|exact D3 hb1 h6 hx|fail) only[go_sem,↓reduceIte,hb1,h6,hx]
   obtain rfl:y=[]:=List.length_eq_zero_iff.1 (by omega)
   exact Qc (by rw[hbad (by simp)]) rfl
  have hne:y≠[]:=fun e=>by rw[e]at h9;simp at h9
  simp+decide (disch:=first|exact D2 hb1 h6|fail) only[go_sem,↓reduceIte,hb1,h6]
  refine Qa hP hr rfl rfl rfl ?_
  cases hok:Qbc y
  ·simp+decide (disch:=first|exact D2 hb1 h6|fail) only[go_sem,↓reduceIte,hb1,h6]
   exact Qc (by rw[hbad (by simp[hok])]) rfl
  simp+decide (disch:=first|exact D2 hb1 h6|fail) only[go_sem,↓reduceIte,hb1,h6]
  refine Qh (fs.length-(i+1)) (by omega) ⟨i+1,rfl,by omega,fun j hj=> ?_,?_⟩
  ·by_cases e:j=i
   ·subst e
    rw[e4,decide_eq_true (by omega),decide_eq_true hne,hok];rfl
   ·exact h5 j (by omega)
  ·simp+decide (disch:=first|exact D1 hb1|fail) only[go_sem,↓reduceIte,hb1]
 ·obtain rfl:i=fs.length:=by omega
  have hall:(List.range fs.length).all (Qd1 ⟨fs,ps,n,cs⟩)=true:=by
   rw[List.all_eq_true]
   intro t ht
   exact h5 t (List.mem_range.1 ht)
  simp+decide (disch:=first|exact D1 hb1|fail) only[go_sem,↓reduceIte,hb1]
  refine Qw (by repeat (first|exact Qu|exact Qn|exact Qo|exact Qp|exact Qq|apply Qm|apply Qt|apply Qy|apply Q5|apply Q6|apply Qk|apply Q2)) [(2,2),(6,6),(60,67)] [] (fun m J hp=>∃i,m=cs.length-i/\i<=cs.length/\(∀j (h:j<cs.length),j<i->Qbc cs[j]=true)/\J 60= .int .i64 (i:Nat)) cs.length ?_ ?_
  ·refine⟨0,rfl,by omega,by omega,?_⟩
   simp+decide (disch:=first|exact D0|fail) only[go_sem,↓reduceIte]
   rfl
  rintro _ J2 h' ⟨i,rfl,hi,h7,h8⟩
  simp+decide (disch:=first|exact D1 h8|fail) only[go_sem,↓reduceIte,h8]
  refine Qb (fun hg=> ?_) (fun hg=> ?_)
  ·have hic:i<cs.length:=by omega
   have hy1:=hb.g _ (List.getElem_mem hic)
   have hym:=List.getElem_mem hic
   have hadd:Qbc cs[i]=true->∀j (h:j<cs.length),j<i+1->Qbc cs[j]=true:=fun h j hj hji=>by
    by_cases e:j=i
    ·subst e;exact h
    ·exact h7 j hj (by omega)
   generalize hy:cs[i]=y at *
   have hr:=Qo8 hy1.1 hk1 hk hy1.2
   simp+decide (disch:=first|exact D2 h8 hy|fail) only[go_sem,↓reduceIte,h8,hy]
   refine Qa hP hr rfl rfl rfl ?_
   cases hok:Qbc y
   ·simp+decide (disch:=first|exact D1 h8|fail) only[go_sem,↓reduceIte,h8]
    refine Qc ?_ rfl
    have:cs.all Qbc=false:=by
     rw[List.all_eq_false];exact⟨y,hym,by simp[hok]⟩
    simp[Qb6,this]
   simp+decide (disch:=first|exact D1 h8|fail) only[go_sem,↓reduceIte,h8]
   refine Qh (cs.length-(i+1)) (by omega) ⟨i+1,rfl,by omega,hadd hok,?_⟩
   simp+decide (disch:=first|exact D0|fail) only[go_sem,↓reduceIte]
  ·obtain rfl:i=cs.length:=by omega
   simp+decide (disch:=first|exact D0|fail) only[go_sem,↓reduceIte]
   refine Qc ?_ rfl
   have:cs.all Qbc=true:=by
    rw[List.all_eq_true]
    intro t ht
    obtain⟨j,hj,rfl⟩:=List.getElem_of_mem ht
    exact h7 j hj hj
   rw[Qb6,hall,this,hg0];rfl
def Qd2(c:Qb9):Bool:=Qnz c&&(Qb6 c&&c.ps.all fun x=>decide (x<=4))
def Qkn(l:List Qb9):Bool:=decide (l.length<=3)&&l.all Qd2
abbrev PV.rcerts(l:List Qb9):PV:= .sl 4 (l.map PV.rcert)
theorem Qyt{l:List Qb9}{k:Nat}(hb:∀c∈l,RC k c)(hk1:1<=k)(hk:k<2^36)(hl:l.length<2^40):Qd Tryz.prog 5 [PV.rcerts l] (· = .bool (Qkn l)):=by
 refine Qf Ql Tryz.func5 rfl Qain (by simp[c5]) fun C hP=> ?_;simp only[c5,Zo,Zg,Zm,Zc,Zf,Zl,Zh,Zs,Zi,Zb,Zk,Zn,Zu,Zq,Zr,Zz]
 simp+decide (disch:=first|exact D0|fail) only[go_sem,↓reduceIte]
 refine Qb (fun hn=> ?_) (fun hn=> ?_)
 ·simp+decide (disch:=first|exact D0|fail) only[go_sem,↓reduceIte]
  exact Qc (by simp[Qkn,show ¬l.length<=3 by omega]) rfl
 have hn':l.length<=3:=by omega
 simp+decide (disch:=first|exact D0|fail) only[go_sem,↓reduceIte]
 refine Qw (by repeat (first|exact Qu|exact Qn|exact Qo|exact Qp|exact Qq|apply Qm|apply Qt|apply Qy|apply Q5|apply Q6|apply Qk|apply Q2)) [(2,4),(8,46)] [] (fun m J hp=>∃i,m=l.length-i/\i<=l.length/\(∀j (h:j<l.length),j<i->Qd2 l[j]=true)/\J 3= .int .i64 (i:Nat)) l.length ?_ ?_
 ·refine⟨0,rfl,by omega,by omega,?_⟩
  simp+decide (disch:=first|exact D0|fail) only[go_sem,↓reduceIte]
  rfl
 rintro _ J h ⟨i,rfl,hi,h1,h3⟩
 simp+decide (disch:=first|exact D1 h3|fail) only[go_sem,↓reduceIte,h3]
 refine Qb (fun hg=> ?_) (fun hg=> ?_)
 ·have hi':i<l.length:=by omega
  have hbt:=hb _ (List.getElem_mem hi')
  have hmem:=List.getElem_mem hi'
  have hbad:Qd2 l[i]=false->Qkn l=false:=fun h=>by
   have:l.all Qd2=false:=by
    rw[List.all_eq_false];exact⟨l[i],hmem,by simp[h]⟩
   simp[Qkn,this]
  have hadd:Qd2 l[i]=true->∀j (h:j<l.length),j<i+1->Qd2 l[j]=true:=fun h j hj hji=>by
   by_cases e:j=i
   ·subst e;exact h
   ·exact h1 j hj (by omega)
  have hpl:=hbt.pl
  generalize hx:l[i]=c at *
  simp+decide (disch:=first|exact D2 h3 hx|fail) only[go_sem,↓reduceIte,h3,hx]
  refine Qa hP (Q1n hbt hk1 hk) rfl rfl rfl ?_
  cases hs:Qnz c
  ·simp+decide (disch:=first|exact D1 h3|fail) only[go_sem,↓reduceIte,h3]
   exact Qc (by rw[hbad (by simp[Qd2,hs])]) rfl
  simp+decide (disch:=first|exact D2 h3 hx|fail) only[go_sem,↓reduceIte,h3,hx]
  refine Qa hP (Qus hbt hk1 hk) rfl rfl rfl ?_
  cases hr:Qb6 c
  ·simp+decide (disch:=first|exact D1 h3|fail) only[go_sem,↓reduceIte,h3]
   exact Qc (by rw[hbad (by simp[Qd2,hr])]) rfl
  simp+decide (disch:=first|exact D1 h3|fail) only[go_sem,↓reduceIte,h3]
  refine Qw (by repeat (first|exact Qu|exact Qn|exact Qo|exact Qp|exact Qq|apply Qm|apply Qt|apply Qy|apply Q5|apply Q6|apply Qk|apply Q2)) [(2,2),(4,4),(28,46)] [] (fun m J hp=>∃n,m=c.ps.length-n/\n<=c.ps.length/\(∀j (h:j<c.ps.length),j<n->c.ps[j]<=4)/\J 4= .int .i64 (n:Nat)) c.ps.length ?_ ?_
  ·refine⟨0,rfl,by omega,by omega,?_⟩
   simp+decide (disch:=first|exact D0|fail) only[go_sem,↓reduceIte]
   rfl
  rintro _ J2 h' ⟨n,rfl,hn1,g1,g4⟩
  simp+decide (disch:=first|exact D3 g4 h3 hx|fail) only[go_sem,↓reduceIte,g4,h3,hx]
  refine Qb (fun hg2=> ?_) (fun hg2=> ?_)
  ·have hn2:n<c.ps.length:=by omega
   have hym:=List.getElem_mem hn2
   have hadd2:c.ps[n]<=4->∀j (h:j<c.ps.length),j<n+1->c.ps[j]<=4:=fun h j hj hji=>by
    by_cases e:j=n
    ·subst e;exact h
    ·exact g1 j hj (by omega)
   generalize hy:c.ps[n]=y at *
   simp+decide (disch:=first|exact D4 g4 h3 hx hy|fail) only[go_sem,↓reduceIte,g4,h3,hx,hy]
   refine Qb (fun h5=> ?_) (fun h5=> ?_)
   ·simp+decide (disch:=first|exact D0|fail) only[go_sem,↓reduceIte]
    refine Qc ?_ rfl
    rw[hbad]
    have:(c.ps.all fun x=>decide (x<=4))=false:=by
     rw[List.all_eq_false];exact⟨y,hym,by simp;omega⟩
    simp[Qd2,this]
   simp+decide (disch:=first|exact D1 g4|fail) only[go_sem,↓reduceIte,g4]
   refine Qh (c.ps.length-(n+1)) (by omega) ⟨n+1,rfl,by omega,hadd2 (by omega),?_⟩
   simp+decide (disch:=first|exact D0|fail) only[go_sem,↓reduceIte]
  ·obtain rfl:n=c.ps.length:=by omega
   have hf:Qd2 c=true:=by
    have:(c.ps.all fun x=>decide (x<=4))=true:=by
     rw[List.all_eq_true]
     intro t ht
     obtain⟨j,hj,rfl⟩:=List.getElem_of_mem ht
     exact decide_eq_true (g1 j hj hj)
    rw[Qd2,hs,hr,this];rfl
   simp (disch:=decide) only[Qbi,Qfy]
   simp+decide (disch:=first|exact D1 h3|fail) only[go_sem,↓reduceIte,h3]
   refine Qh (l.length-(i+1)) (by omega) ⟨i+1,rfl,by omega,hadd hf,?_⟩
   simp+decide (disch:=first|exact D0|fail) only[go_sem,↓reduceIte]
 ·obtain rfl:i=l.length:=by omega
  simp+decide (disch:=first|exact D0|fail) only[go_sem,↓reduceIte]
  refine Qc ?_ rfl
  have:l.all Qd2=true:=by
   rw[List.all_eq_true]
   intro t ht
   obtain⟨j,hj,rfl⟩:=List.getElem_of_mem ht
   exact h1 j hj hj
  simp[Qkn,this,hn']
def Qg7(q:RQ):Bool:=decide (q.a.length<=2)&&(decide (q.d.length<=2)&&Qf4 q.n q.a q.d)
def Qiz(l:List RQ):Bool:=l.all Qg7&&decide (l.length<=12)
theorem Qyu{l:List RQ}{k:Nat}(hb:∀q∈l,Raw k q.n q.a q.d)(hk:k<2^36)(hl:l.length<2^40):Qd Tryz.prog 16 [PV.rqs l] (· = .bool (Qiz l)):=by
 have bad:∀i (h:i<l.length),Qg7 l[i]=false->Qiz l=false:=fun i hi h=>by
  have:l.all Qg7=false:=by
   rw[List.all_eq_false];exact⟨_,List.getElem_mem hi,by simp[h]⟩
  rw[Qiz,this,Bool.false_and]
 refine Qf Ql Tryz.func16 rfl Qaha (by simp[c16]) fun C hP=> ?_;simp only[c16,Zo,Zg,Zm,Zc,Zf,Zl,Zh,Zs,Zi,Zb,Zk,Zn,Zu,Zq,Zr,Zz]
 simp+decide (disch:=first|exact D0|fail) only[go_sem,↓reduceIte]
 refine Qb (fun hn=> ?_) (fun hn=> ?_)
 ·simp+decide (disch:=first|exact D0|fail) only[go_sem,↓reduceIte]
  exact Qc (by rw[Qiz,decide_eq_false (show ¬l.length<=12 by omega),Bool.and_false]) rfl
 have hn':l.length<=12:=by omega
 simp+decide (disch:=first|exact D0|fail) only[go_sem,↓reduceIte]
 refine Qw (by repeat (first|exact Qu|exact Qn|exact Qo|exact Qp|exact Qq|apply Qm|apply Qt|apply Qy|apply Q5|apply Q6|apply Qk|apply Q2)) [(2,3),(7,37)] [] (fun n J hp=>∃i,n=l.length-i/\i<=l.length/\(∀j (h:j<l.length),j<i->Qg7 l[j]=true)/\J 3= .int .i64 (i:Nat)) l.length ?_ ?_
 ·refine⟨0,rfl,by omega,by omega,?_⟩
  simp+decide (disch:=first|exact D0|fail) only[go_sem,↓reduceIte]
  rfl
 rintro _ J h ⟨i,rfl,hi,h1,h3⟩
 simp+decide (disch:=first|exact D1 h3|fail) only[go_sem,↓reduceIte,h3]
 refine Qb (fun hg=> ?_) (fun hg=> ?_)
 ·have hi':i<l.length:=by omega
  have hbt:=hb _ (List.getElem_mem hi')
  have hbad:=bad i hi'
  have hadd:Qg7 l[i]=true->∀j (h:j<l.length),j<i+1->Qg7 l[j]=true:=fun h j hj hji=>by
   by_cases e:j=i
   ·subst e;exact h
   ·exact h1 j hj (by omega)
  generalize hx:l[i]=x at *
  simp+decide (disch:=first|exact D2 h3 hx|fail) only[go_sem,↓reduceIte,h3,hx]
  refine Qv (fun h2=> ?_) (fun h2=> ?_)
  ·simp+decide (disch:=first|exact D0|fail) only[go_sem,↓reduceIte]
   exact Qc (by rw[hbad (by simp[Qg7,show ¬x.a.length<=2 by omega])]) rfl
  simp+decide (disch:=first|exact D2 h3 hx|fail) only[go_sem,↓reduceIte,h3,hx]
  refine Qv (fun h4=> ?_) (fun h4=> ?_)
  ·simp+decide (disch:=first|exact D0|fail) only[go_sem,↓reduceIte]
   exact Qc (by rw[hbad (by simp[Qg7,show ¬x.d.length<=2 by omega])]) rfl
  simp+decide (disch:=first|exact D2 h3 hx|fail) only[go_sem,↓reduceIte,h3,hx]
  refine Qa hP (Qmy hbt hk) rfl rfl rfl ?_
  simp+decide (disch:=first|exact D2 h3 hx|fail) only[go_sem,↓reduceIte,h3,hx]
  cases hok:Qf4 x.n x.a x.d
  ·simp+decide (disch:=first|exact D0|fail) only[go_sem,↓reduceIte]
   exact Qc (by rw[hbad (by simp[Qg7,hok])]) rfl
  ·have hv:Qg7 x=true:=by
    simp only[Qg7,Bool.and_eq_true,decide_eq_true_eq];exact⟨by omega,by omega,hok⟩
   simp+decide (disch:=first|exact D1 h3|fail) only[go_sem,↓reduceIte,h3]
   refine Qh (l.length-(i+1)) (by omega) ⟨i+1,rfl,by omega,hadd hv,?_⟩
   simp+decide (disch:=first|exact D0|fail) only[go_sem,↓reduceIte]
 ·obtain rfl:i=l.length:=by omega
  have hall:l.all Qg7=true:=by
   rw[List.all_eq_true]
   intro t ht
   obtain⟨j,hj,rfl⟩:=List.getElem_of_mem ht
   exact h1 j hj hj
  simp+decide (disch:=first|exact D0|fail) only[go_sem,↓reduceIte]
  exact Qc (by rw[Qiz,hall,decide_eq_true hn'];rfl) rfl
theorem Qyv{l:List RQ}{k:Nat}(hb:∀q∈l,Raw k q.n q.a q.d)(hk:k<2^36)(hl:l.length<2^40):Qd Tryz.prog 6 [PV.rqs l] (· = .bool (Qiz l)):=by
 refine Qf Ql Tryz.func6 rfl Qaip (by simp[c6]) fun C hP=> ?_;simp only[c6,Zo,Zg,Zm,Zc,Zf,Zl,Zh,Zs,Zi,Zb,Zk,Zn,Zu,Zq,Zr,Zz]
 simp+decide (disch:=first|exact D0|fail) only[go_sem,↓reduceIte]
 refine Qa hP (Qyu hb hk hl) rfl rfl rfl ?_
 simp+decide (disch:=first|exact D0|fail) only[go_sem,↓reduceIte]
 exact Qc rfl rfl
theorem Qacu{l:List RQ}{k:Nat}(hb:∀q∈l,Raw k q.n q.a q.d)(h:Qiz l=true):PV.rqs l=PV.rats (l.map rqV)/\(∀v∈l.map rqV,rs v<=2)/\(l.map rqV).length<=12:=by
 simp only[Qiz,Bool.and_eq_true,decide_eq_true_eq,List.all_eq_true]at h
 obtain⟨h1,h2⟩:=h
 refine⟨?_,fun v hv=> ?_,by simpa using h2⟩
 ·show PV.sl 3 (l.map PV.rq)=PV.sl 3 ((l.map rqV).map PV.rat)
  rw[List.map_map]
  congr 1
  refine List.map_congr_left fun x hx=> ?_
  have hv:=h1 x hx
  simp only[Qg7,Bool.and_eq_true,decide_eq_true_eq]at hv
  exact Qahs (hb x hx).la (hb x hx).ld hv.2.2
 ·obtain⟨x,hx,rfl⟩:=List.mem_map.1 hv
  have hv:=h1 x hx
  simp only[Qg7,Bool.and_eq_true,decide_eq_true_eq]at hv
  exact(show Raw 2 x.n x.a x.d from⟨(hb x hx).la,(hb x hx).ld,hv.1,hv.2.1,by omega⟩).rs
end Go.Proofs.YtdacdnoebgcjhaaGreat
namespace Go.Proofs.YtdacdnoebgcjhaaGreat
open Go Go.FW
set_option linter.unusedSimpArgs false
set_option linter.unusedVariables false
set_option maxRecDepth 100000
structure Crt where
 fs:List (List Tm)
 ps:List Int
 n:Int
 cs:List (List Tm)
abbrev PV.crt(c:Crt):PV:=PV.cert c.fs c.ps c.n c.cs
abbrev PV.crts(l:List Crt):PV:= .sl 4 (l.map PV.crt)
structure Qi0(c:Crt):Prop where
 l:c.ps.length=c.fs.length
 f:∀f∈c.fs,Sm4 f/\f≠[]
 fl:c.fs.length<=5
def Qs2(out:List (List Tm))(x:List Tm×Int):List (List Tm):=if x.2<1∨Qnk x.1<1 then out else if(out.any fun g=>decide (x.1=g))=true then out else out++[x.1]
def Qrr(out:List (List Tm))(c:Crt):List (List Tm):=(c.fs.zip c.ps).foldl Qs2 out
def Qcg(l:List Crt):List (List Tm):=l.foldl Qrr []
theorem Qrs{l:List Crt}{i:Nat}(h:i<l.length):Qcg (l.take (i+1))=Qrr (Qcg (l.take i)) l[i]:=by
 unfold Qcg;rw[List.take_succ_eq_append_getElem h,List.foldl_append];rfl
def Qes(out:List (List Tm))(c:Crt)(k:Nat):List (List Tm):=((c.fs.zip c.ps).take k).foldl Qs2 out
theorem Qt8{out:List (List Tm)}{c:Crt}{k:Nat}(hl:c.ps.length=c.fs.length)(h:k=c.fs.length):Qes out c k=Qrr out c:=by
 unfold Qes Qrr;rw[List.take_of_length_le (by rw[List.length_zip];omega)]
theorem Qrt{out:List (List Tm)}{c:Crt}{k:Nat}(h:k<c.fs.length)(h2:k<c.ps.length):Qes out c (k+1)=Qs2 (Qes out c k) (c.fs[k],c.ps[k]):=by
 unfold Qes
 rw[List.take_succ_eq_append_getElem (by rw[List.length_zip];omega),List.foldl_append,List.getElem_zip];rfl
structure Qxm(n:Nat)(out:List (List Tm)):Prop where
 l:out.length<=n
 f:∀f∈out,Sm4 f
theorem Qacv{n:Nat}{out:List (List Tm)}{x:List Tm×Int}(h:Qxm n out)(hx:Sm4 x.1):Qxm (n+1) (Qs2 out x):=by
 unfold Qs2
 have:=h.l
 split
 ·exact⟨by omega,h.f⟩
 ·split
  ·exact⟨by omega,h.f⟩
  ·refine⟨by rw[List.length_append,List.length_singleton];omega,fun f hf=> ?_⟩
   rcases List.mem_append.1 hf with hf|hf
   ·exact h.f f hf
   ·rw[List.mem_singleton.1 hf];exact hx
theorem Qpy{n:Nat}{out:List (List Tm)}{c:Crt}(h:Qxm n out)(hc:Qi0 c):∀k,k<=c.fs.length->Qxm (n+k) (Qes out c k)
 |0,_=>h
 |k+1,hk=>by
  rw[Qrt (by omega) (by have:=hc.l;omega)]
  exact Qacv (Qpy h hc k (by omega)) (hc.f _ (List.getElem_mem _)).1
theorem Qmr{l:List Crt}(h:∀c∈l,Qi0 c):∀i,i<=l.length->Qxm (5*i) (Qcg (l.take i))
 |0,_=>⟨by simp[Qcg],by simp[Qcg]⟩
 |i+1,hi=>by
  have hc:=h _ (List.getElem_mem (show i<l.length by omega))
  have h1:=Qpy (Qmr h i (by omega)) hc _ (Nat.le_refl _)
  rw[Qrs (by omega),<-Qt8 hc.l rfl]
  have:=hc.fl
  exact⟨by have:=h1.l;omega,h1.f⟩
theorem Q86{A:List (List Tm)}{m:Nat}{p:List Tm->Bool}(h:m<A.length):(A.take (m+1)).any p=((A.take m).any p||p A[m]):=by
 rw[List.take_succ_eq_append_getElem h,List.any_append];simp
theorem Qf0{l:List Crt}(h:∀c∈l,Qi0 c)(hl:l.length<=4):Qd Tryz.prog 11 [PV.crts l] (· =PV.polys (Qcg l)):=by
 refine Qf Ql Tryz.func11 rfl Qag6 (by simp[c11]) fun C hP=> ?_;simp only[c11,Zo,Zg,Zm,Zc,Zf,Zl,Zh,Zs,Zi,Zb,Zk,Zn,Zu,Zq,Zr,Zz]
 simp+decide (disch:=first|exact D0|fail) only[go_sem,↓reduceIte]
 refine Qgj 3 900 1 35 (by omega) T0 ?_
 refine Qw (by repeat (first|exact Qu|exact Qn|exact Qo|exact Qp|exact Qq|apply Qm|apply Qt|apply Qy|apply Q5|apply Q6|apply Qk|apply Q2)) [(3,3),(5,8),(10,10),(13,56)] [5,53,54,900] (fun q J hp=>∃i,q=l.length-i/\i<=l.length/\J 3= .ms 900 (Qcg (l.take i)).length/\J 13= .int .i64 (i:Nat)/\hp 900=some ⟨1,35,(Qcg (l.take i)).map PV.poly,false⟩) l.length ?_ ?_
 ·refine⟨0,rfl,by omega,?_⟩
  simp+decide (disch:=first|exact D0|fail) only[go_sem,↓reduceIte]
  exact⟨rfl,rfl,rfl⟩
 rintro _ J h' ⟨i,rfl,hi,h3,h13,h9⟩
 simp+decide (disch:=first|exact D1 h13|fail) only[go_sem,↓reduceIte,h13]
 refine Qb (fun hg=> ?_) (fun hg=> ?_)
 ·have hi':i<l.length:=by omega
  have hc:=h _ (List.getElem_mem hi')
  have hL:=Qmr h i hi
  have hnx:=Qrs hi'
  have hK:=fun k hk=>Qpy hL hc k hk
  rw[<-Qt8 hc.l rfl]at hnx
  have e0:Qcg (l.take i)=Qes (Qcg (l.take i)) l[i] 0:=rfl
  have hcl:=hc.l
  have hcf:=hc.fl
  generalize hx:l[i]=c at *
  generalize Qcg (l.take i)=A0 at *
  simp+decide (disch:=first|exact D3 h13 h3 hx|fail) only[go_sem,↓reduceIte,h13,h3,hx]
  refine Qw (by repeat (first|exact Qu|exact Qn|exact Qo|exact Qp|exact Qq|apply Qm|apply Qt|apply Qy|apply Q5|apply Q6|apply Qk|apply Q2)) [(3,3),(6,8),(10,10),(20,55)] [53,54,900] (fun q J hp=>∃k,q=c.fs.length-k/\k<=c.fs.length/\J 3= .ms 900 (Qes A0 c k).length/\J 20= .int .i64 (k:Nat)/\hp 5=some ⟨4,39,[PV.crt c],false⟩/\hp 900=some ⟨1,35,(Qes A0 c k).map PV.poly,false⟩) c.fs.length ?_ ?_
  ·refine⟨0,rfl,by omega,?_⟩
   simp+decide (disch:=first|exact D2 h3 h9|fail) only[go_sem,↓reduceIte,h3,h9]
   rw[<-e0]
   exact⟨rfl,rfl,rfl⟩
  rintro _ J2 h2 ⟨k,rfl,hk,g3,g20,g5,g9⟩
  simp+decide (disch:=first|exact D1 g20|fail) only[go_sem,↓reduceIte,g20]
  refine Qb (fun hg2=> ?_) (fun hg2=> ?_)
  ·have hk':k<c.fs.length:=by omega
   have hkp:k<c.ps.length:=by omega
   obtain⟨s1,s2⟩:=hc.f _ (List.getElem_mem hk')
   have hA:=hK k hk
   have hsu:Qes A0 c (k+1)=if c.ps[k]<1∨Qnk c.fs[k]<1 then Qes A0 c k else if((Qes A0 c k).any fun g=>decide (c.fs[k]=g))=true then Qes A0 c k else Qes A0 c k++[c.fs[k]]:=Qrt hk' hkp
   have hAl:=hA.l
   generalize Qes A0 c k=A at *
   generalize hf:c.fs[k]=f at *
   generalize hp:c.ps[k]=x at *
   have hdg:=Qur s1.b (by omega) (by have:=s1.l;omega)
   simp+decide (disch:=first|exact D4 g20 g5 hf hp|fail) only[go_sem,↓reduceIte,g20,g5,hf,hp]
   refine Qv (fun h4=> ?_) (fun h4=> ?_)
   ·
    simp+decide (disch:=first|exact D4 g20 g3 g5 g9|fail) only[go_sem,↓reduceIte,g20,g3,g5,g9]
    refine Qh (c.fs.length-(k+1)) (by omega) ⟨k+1,rfl,by omega,?_⟩
    rw[if_pos (by omega)]at hsu
    rw[hsu]
    simp+decide (disch:=first|exact D3 g3 g5 g9|fail) only[go_sem,↓reduceIte,g3,g5,g9]
   simp+decide (disch:=first|exact D4 g20 g5 hf hp|fail) only[go_sem,↓reduceIte,g20,g5,hf,hp]
   refine Qa hP hdg rfl rfl rfl ?_
   simp+decide (disch:=first|exact D2 g20 g5|fail) only[go_sem,↓reduceIte,g20,g5]
   refine Qb (fun h5=> ?_) (fun h5=> ?_)
   ·
    simp+decide (disch:=first|exact D4 g20 g3 g5 g9|fail) only[go_sem,↓reduceIte,g20,g3,g5,g9]
    refine Qh (c.fs.length-(k+1)) (by omega) ⟨k+1,rfl,by omega,?_⟩
    rw[if_pos (by omega)]at hsu
    rw[hsu]
    simp+decide (disch:=first|exact D3 g3 g5 g9|fail) only[go_sem,↓reduceIte,g3,g5,g9]
   rw[if_neg (by omega)]at hsu
   simp+decide (disch:=first|exact D3 g20 g3 g5|fail) only[go_sem,↓reduceIte,g20,g3,g5]
   refine Qw (by repeat (first|exact Qu|exact Qn|exact Qo|exact Qp|exact Qq|apply Qm|apply Qt|apply Qy|apply Q5|apply Q6|apply Qk|apply Q2)) [(8,8),(10,10),(38,48)] [] (fun q J hp=>∃m,q=A.length-m/\m<=A.length/\J 8= .bool ((A.take m).any fun g=>decide (f=g))/\J 38= .int .i64 (m:Nat)/\hp 5=some ⟨4,39,[PV.crt c],false⟩/\hp 900=some ⟨1,35,A.map PV.poly,false⟩) A.length ?_ ?_
   ·refine⟨0,rfl,by omega,?_⟩
    simp+decide (disch:=first|exact D2 g5 g9|fail) only[go_sem,↓reduceIte,g5,g9]
    rfl
   rintro _ J3 h3' ⟨m,rfl,hm,k8,k38,k5,k9⟩
   simp+decide (disch:=first|exact D1 k38|fail) only[go_sem,↓reduceIte,k38]
   refine Qb (fun hg3=> ?_) (fun hg3=> ?_)
   ·have hm':m<A.length:=by omega
    have hq:=hA.f _ (List.getElem_mem hm')
    have hat:=Q86 (p:=fun g=>decide (f=g)) hm'
    generalize hy:A[m]=y at *
    have heq:=Qjt s1.b hq.b (by omega) (by omega) (by have:=s1.l;omega) (by have:=hq.l;omega)
    simp+decide (disch:=first|exact D2 k38 k9|fail) only[go_sem,↓reduceIte,k38,k9]
    rw[Qacq hm',hy]
    simp+decide (disch:=first|exact D0|fail) only[go_sem,↓reduceIte]
    cases hb:(A.take m).any fun g=>decide (f=g)
    ·rw[hb]at hat k8
     simp+decide (disch:=first|exact D1 k8|fail) only[go_sem,↓reduceIte,k8]
     refine Qa hP heq rfl rfl rfl ?_
     simp+decide (disch:=first|exact D1 k38|fail) only[go_sem,↓reduceIte,k38]
     refine Qh (A.length-(m+1)) (by omega) ⟨m+1,rfl,by omega,?_⟩
     rw[hat,Bool.false_or]
     exact⟨rfl,rfl,k5,k9⟩
    ·rw[hb]at hat k8
     simp+decide (disch:=first|exact D2 k8 k38|fail) only[go_sem,↓reduceIte,k8,k38]
     refine Qh (A.length-(m+1)) (by omega) ⟨m+1,rfl,by omega,?_⟩
     rw[hat,Bool.true_or]
     exact⟨rfl,rfl,k5,k9⟩
   ·obtain rfl:m=A.length:=by omega
    rw[List.take_length]at k8
    simp (disch:=decide) only[Qbi,Qfy]
    simp+decide (disch:=first|exact D1 k8|fail) only[go_sem,↓reduceIte,k8]
    cases hb:A.any fun g=>decide (f=g)
    ·rw[hb,if_neg (by simp)]at hsu
     simp+decide (disch:=first|exact D4 g20 g3 k9 k5|fail) only[go_sem,↓reduceIte,g20,g3,k9,k5]
     rw[Qai (f:=PV.poly) (y:=f) (xs:=A) (ty':=35) (fz:=false) (T1 k9) Tr0 (by omega) rfl (by omega) (by omega)]
     simp+decide (disch:=first|exact D1 g20|fail) only[go_sem,↓reduceIte,g20]
     refine Qh (c.fs.length-(k+1)) (by omega) ⟨k+1,rfl,by omega,?_⟩
     rw[hsu]
     simp+decide (disch:=first|exact D1 k5|fail) only[go_sem,↓reduceIte,k5]
     simp
    ·rw[hb,if_pos rfl]at hsu
     simp+decide (disch:=first|exact D4 g20 g3 k5 k9|fail) only[go_sem,↓reduceIte,g20,g3,k5,k9]
     refine Qh (c.fs.length-(k+1)) (by omega) ⟨k+1,rfl,by omega,?_⟩
     rw[hsu]
     simp+decide (disch:=first|exact D3 g3 k5 k9|fail) only[go_sem,↓reduceIte,g3,k5,k9]
  ·obtain rfl:k=c.fs.length:=by omega
   simp (disch:=decide) only[Qbi,Qfy,Qx8]
   simp+decide (disch:=first|exact D1 h13|fail) only[go_sem,↓reduceIte,h13]
   refine Qh (l.length-(i+1)) (by omega) ⟨i+1,rfl,by omega,?_⟩
   rw[hnx]
   exact⟨g3,rfl,g9⟩
 ·obtain rfl:i=l.length:=by omega
  rw[List.take_length]at h3 h9
  simp+decide (disch:=first|exact E2 h3 h9|fail) only[go_sem,↓reduceIte,h3,h9,Qz,List.contains_cons,List.contains_nil,List.flatMap_cons,List.flatMap_nil,List.append_nil]
  exact Qc (by simp[List.take_of_length_le]) rfl
end Go.Proofs.YtdacdnoebgcjhaaGreat
namespace Go.Proofs.YtdacdnoebgcjhaaGreat
open Go Go.FW
set_option linter.unusedSimpArgs false
set_option linter.unusedVariables false
set_option maxRecDepth 100000
theorem Qxn{a:Rat}{n:Nat}(hB:1+rs a*n<=2^33)(hn:n<=2^40)(ha:rs a<=2^33):Qd Tryz.prog 48 [PV.rat a,.int .i64 n] (· =PV.rat (Qbo a n)):=by
 have h1:=Qwh
 have h1':((1:Int):Rat)=1:=rfl
 refine Qf Ql Tryz.func48 rfl Qagi (by simp[c48]) fun C hP=> ?_;simp only[c48,Zo,Zg,Zm,Zc,Zf,Zl,Zh,Zs,Zi,Zb,Zk,Zn,Zu,Zq,Zr,Zz]
 simp+decide (disch:=first|exact D0|fail) only[go_sem,↓reduceIte]
 refine Qa hP (Qkj (x:=1) (by omega) (by omega)) rfl rfl rfl ?_
 simp+decide (disch:=first|exact D0|fail) only[go_sem,↓reduceIte]
 refine Qw (by repeat (first|exact Qu|exact Qn|exact Qo|exact Qp|exact Qq|apply Qm|apply Qt|apply Qy|apply Q5|apply Q6|apply Qk)) [(1,1),(7,21)] [] (fun m J hp=>∃x o:Rat,m<=n/\rs o+rs x*m<=2^33/\o*Qbo x m=Qbo a n/\J 1= .int .i64 (m:Nat)/\hp 2=some ⟨3,50,[PV.rat x],false⟩/\hp 4=some ⟨3,50,[.agg [.bool false,.nilS,.nilS]],false⟩/\hp 5=some ⟨3,50,[PV.rat o],false⟩) n ?_ ?_
 ·refine⟨a,((1:Int):Rat),by omega,by rw[h1'];omega,by rw[h1'];grind,?_⟩
  simp+decide (disch:=first|exact D0|fail) only[go_sem,↓reduceIte]
  rfl
 rintro m J h ⟨x,o,hm,hrs,hq,hJ,hh2,hh4,hh5⟩
 simp+decide (disch:=first|exact D1 hJ|fail) only[go_sem,↓reduceIte,hJ]
 refine Qb (fun hg=> ?_) (fun hg=> ?_)
 ·have hx:rs x<=rs x*m:=Nat.le_mul_of_pos_right _ (by omega)
  have e2:(2:Int)=((2:Nat):Int):=rfl
  have hrem:∀d fr hp K,Qau .rem false (.int .i64 (m:Int)) (.int .i64 2) d fr hp K=K (upd fr d (.int .i64 ((m%2:Nat):Int))) hp:=fun d fr hp K=>by
   rw[e2,Qc3 (by omega)]
  have hquo:∀d fr hp K,Qau .quo false (.int .i64 (m:Int)) (.int .i64 2) d fr hp K=K (upd fr d (.int .i64 ((m/2:Nat):Int))) hp:=fun d fr hp K=>by
   rw[e2,Qoe (by omega) (by omega)]
  have hmm:=Qjo x x
  have hom:=Qjo o x
  have hd2:rs (x*x)*(m/2)<=rs x*(2*(m/2)):=by
   rw[<-Nat.mul_assoc];exact Nat.mul_le_mul_right _ (by omega)
  simp+decide (disch:=first|exact D5 hJ hh2 hh5 hrem hquo|fail) only[go_sem,↓reduceIte,hJ,hh2,hh5,hrem,hquo]
  refine Qb (fun h2=> ?_) (fun h2=> ?_)
  ·have hodd:m%2=1:=by omega
   have hqa:o*x*Qbo (x*x) (m/2)=Qbo a n:=by rw[<-hq,<-Qui hodd];grind
   have hqb:m=1->o*x*Qbo x (1/2)=Qbo a n:=fun h=>by
    rw[<-hq,h]
    show o*x*1=o*Qbo x 1
    rw[Q7x];grind
   have hm2:rs x*m=rs x*(2*(m/2))+rs x:=by
    rw[show m=2*(m/2)+1 by omega,Nat.mul_add,Nat.mul_one];congr 2;omega
   simp+decide (disch:=first|exact D5 hJ hh2 hh5 hrem hquo|fail) only[go_sem,↓reduceIte,hJ,hh2,hh5,hrem,hquo]
   refine Qa hP (Qrg (a:=o) (b:=x) (k:=2^33) (by omega) (by omega) (by omega)) rfl rfl rfl ?_
   simp+decide (disch:=first|exact D5 hJ hh2 hh5 hrem hquo|fail) only[go_sem,↓reduceIte,hJ,hh2,hh5,hrem,hquo]
   refine Qb (fun h3=> ?_) (fun h3=> ?_)
   ·simp+decide (disch:=first|exact D5 hJ hh2 hh5 hrem hquo|fail) only[go_sem,↓reduceIte,hJ,hh2,hh5,hrem,hquo]
    refine Qa hP (Qrg (a:=x) (b:=x) (k:=2^33) (by omega) (by omega) (by omega)) rfl rfl rfl ?_
    simp+decide (disch:=first|exact D5 hJ hh2 hh5 hrem hquo|fail) only[go_sem,↓reduceIte,hJ,hh2,hh5,hrem,hquo]
    refine Qh (m/2) (by omega) ⟨x*x,o*x,by omega,by omega,hqa,?_⟩
    simp+decide (disch:=first|exact D3 hh2 hh4 hh5|fail) only[go_sem,↓reduceIte,hh2,hh4,hh5]
   ·obtain rfl:m=1:=by omega
    simp+decide (disch:=first|exact D5 hJ hh2 hh5 hrem hquo|fail) only[go_sem,↓reduceIte,hJ,hh2,hh5,hrem,hquo]
    refine Qh (1/2) (by omega) ⟨x,o*x,by omega,by omega,(hqb rfl),?_⟩
    simp+decide (disch:=first|exact D3 hh2 hh4 hh5|fail) only[go_sem,↓reduceIte,hh2,hh4,hh5]
  ·have heven:m%2=0:=by omega
   have hqa:o*Qbo (x*x) (m/2)=Qbo a n:=by rw[<-hq,<-Qst heven]
   have hqb:m=1->o*Qbo x (1/2)=Qbo a n:=fun h=>by omega
   have hm2:rs x*m=rs x*(2*(m/2)):=by
    congr 1;omega
   simp+decide (disch:=first|exact D5 hJ hh2 hh5 hrem hquo|fail) only[go_sem,↓reduceIte,hJ,hh2,hh5,hrem,hquo]
   refine Qb (fun h3=> ?_) (fun h3=> ?_)
   ·simp+decide (disch:=first|exact D5 hJ hh2 hh5 hrem hquo|fail) only[go_sem,↓reduceIte,hJ,hh2,hh5,hrem,hquo]
    refine Qa hP (Qrg (a:=x) (b:=x) (k:=2^33) (by omega) (by omega) (by omega)) rfl rfl rfl ?_
    simp+decide (disch:=first|exact D5 hJ hh2 hh5 hrem hquo|fail) only[go_sem,↓reduceIte,hJ,hh2,hh5,hrem,hquo]
    refine Qh (m/2) (by omega) ⟨x*x,o,by omega,by omega,hqa,?_⟩
    simp+decide (disch:=first|exact D3 hh2 hh4 hh5|fail) only[go_sem,↓reduceIte,hh2,hh4,hh5]
   ·obtain rfl:m=1:=by omega
    simp+decide (disch:=first|exact D5 hJ hh2 hh5 hrem hquo|fail) only[go_sem,↓reduceIte,hJ,hh2,hh5,hrem,hquo]
    refine Qh (1/2) (by omega) ⟨x,o,by omega,by omega,(hqb rfl),?_⟩
    simp+decide (disch:=first|exact D3 hh2 hh4 hh5|fail) only[go_sem,↓reduceIte,hh2,hh4,hh5]
 ·obtain rfl:m=0:=by omega
  have hq':o=Qbo a n:=by rw[<-hq,Qnq];grind
  simp+decide (disch:=first|exact D3 hh2 hh4 hh5|fail) only[go_sem,↓reduceIte,hh2,hh4,hh5]
  refine Qa5 ?_
  simp+decide (disch:=first|exact D0|fail) only[go_sem,↓reduceIte]
  exact Qc (by rw[hq']) rfl
theorem Qyw{p:List Tm}{vs:List Rat}{K E W:Nat}(hp:PB K E p)(hv:∀v∈vs,rs v<=W)(hW:1<=W)(hB:1+p.length*(K+64*(1+W*E))+(K+64*(1+W*E))<=2^33)(hE:E<=2^38)(hlp:p.length<=2^36)(hlv:vs.length<=2^36):
  Qd Tryz.prog 24 [PV.poly p,PV.rats vs] (· =evR vs p):=by
 have h0:((0:Int):Rat)=0:=rfl
 refine Qf Ql Tryz.func24 rfl Qagj (by simp[c24]) fun C hP=> ?_;simp only[c24,Zo,Zg,Zm,Zc,Zf,Zl,Zh,Zs,Zi,Zb,Zk,Zn,Zu,Zq,Zr,Zz]
 simp+decide (disch:=first|exact D0|fail) only[go_sem,↓reduceIte]
 refine Qw (by repeat (first|exact Qu|exact Qn|exact Qo|exact Qp|exact Qq|apply Qm|apply Qt|apply Qy|apply Q5|apply Q6|apply Qk)) [(5,5),(7,7),(16,27)] [7] (fun n J hp=>∃i,n=p.length-i/\i<=p.length/\(∀t∈p.take i,¬vs.length<t.2.length)/\J 16= .int .i64 (i:Nat)/\hp 4=some ⟨3,50,[.agg [.bool false,.nilS,.nilS]],false⟩) p.length ?_ ?_
 ·refine⟨0,rfl,by omega,by simp,?_⟩
  simp+decide (disch:=first|exact D0|fail) only[go_sem,↓reduceIte]
  rfl
 rintro _ J h ⟨i,rfl,hi,h1,h16,hh4⟩
 simp+decide (disch:=first|exact D1 h16|fail) only[go_sem,↓reduceIte,h16]
 refine Qb (fun hg=> ?_) (fun hg=> ?_)
 ·have hi':i<p.length:=by omega
  have htp:=hp.get hi'
  have hmem:=List.getElem_mem hi'
  have htk:p.take (i+1)=p.take i++[p[i]]:=List.take_succ_eq_append_getElem hi'
  generalize hx:p[i]=x at *
  have hml:=htp.m.len
  have htr:=Qwf htp.l
  simp+decide (disch:=first|exact D2 h16 hx|fail) only[go_sem,↓reduceIte,h16,hx]
  refine Qa hP (Qyg (a:=x.2) (by omega)) rfl rfl rfl ?_
  rw[htr]
  simp+decide (disch:=first|exact D2 h16 hx|fail) only[go_sem,↓reduceIte,h16,hx]
  refine Qb (fun hc=> ?_) (fun hc=> ?_)
  ·have ho:Qnr vs p=true:=by
    unfold Qnr;rw[List.any_eq_true];exact⟨x,hmem,decide_eq_true (by omega)⟩
   simp+decide (disch:=first|exact D1 hh4|fail) only[go_sem,↓reduceIte,hh4]
   refine Ql6 ?_
   simp+decide (disch:=first|exact D0|fail) only[go_sem,↓reduceIte]
   exact Qdd (p':=PV.rr false [] []) (q':= .int .i64 2) (by rw[evR,if_pos ho]) rfl rfl ⟨rfl,trivial,trivial,trivial⟩ (Q8 _)
  ·simp+decide (disch:=first|exact D1 h16|fail) only[go_sem,↓reduceIte,h16]
   refine Qh (p.length-(i+1)) (by omega) ⟨i+1,rfl,by omega,?_,?_⟩
   ·rw[htk]
    intro z hz
    rcases List.mem_append.1 hz with hz|hz
    ·exact h1 z hz
    ·simp only[List.mem_singleton]at hz;subst hz;omega
   ·simp+decide (disch:=first|exact D1 hh4|fail) only[go_sem,↓reduceIte,hh4]
 ·obtain rfl:i=p.length:=by omega
  rw[List.take_length]at h1
  have ho:Qnr vs p=false:=by
   unfold Qnr;rw[List.any_eq_false];intro t ht;simpa using h1 t ht
  simp+decide (disch:=first|exact D1 hh4|fail) only[go_sem,↓reduceIte,hh4]
  refine Qa hP (Qkj (x:=0) (by omega) (by omega)) rfl rfl rfl ?_
  simp+decide (disch:=first|exact D1 hh4|fail) only[go_sem,↓reduceIte,hh4]
  refine Qw (by repeat (first|exact Qu|exact Qn|exact Qo|exact Qp|exact Qq|apply Qm|apply Qt|apply Qy|apply Q5|apply Q6|apply Qk)) [(10,13),(31,59)] [10,11] (fun n J hp=>∃i,n=p.length-i/\i<=p.length/\J 31= .int .i64 (i:Nat)/\hp 4=some ⟨3,50,[.agg [.bool false,.nilS,.nilS]],false⟩/\hp 8=some ⟨3,50,[PV.rat (Qeq vs (p.take i))],false⟩) p.length ?_ ?_
  ·refine⟨0,rfl,by omega,?_⟩
   simp+decide (disch:=first|exact D1 hh4|fail) only[go_sem,↓reduceIte,hh4]
   exact⟨rfl,rfl⟩
  rintro _ J1 h1' ⟨i,rfl,hi1,h31,hk4,hk8⟩
  simp+decide (disch:=first|exact D1 h31|fail) only[go_sem,↓reduceIte,h31]
  refine Qb (fun hg1=> ?_) (fun hg1=> ?_)
  ·have hi':i<p.length:=by omega
   have htp:=hp.get hi'
   have hxl:=h1 _ (List.getElem_mem hi')
   have htk:=Qq8 (vs:=vs) hi'
   have hrp:=Qpv hp hv hW i (by omega)
   generalize hx:p[i]=x at *
   have hml:=htp.m.len
   have hxc:=htp.c
   have hmono:i*(K+64*(1+W*E))<=p.length*(K+64*(1+W*E)):=Nat.mul_le_mul_right _ hi1
   have hme:=fun j=>Qsv (vs:=vs) htp.m hv hW x.1 j
   have hjm:∀j,j<=x.2.length->j*(1+W*E)<=64*(1+W*E):=fun j hj=>Nat.mul_le_mul_right _ (by omega)
   simp+decide (disch:=first|exact D2 h31 hx|fail) only[go_sem,↓reduceIte,h31,hx]
   refine Qw (by repeat (first|exact Qu|exact Qn|exact Qo|exact Qp|exact Qq|apply Qm|apply Qt|apply Qy|apply Q5|apply Q6|apply Qk)) [(12,13),(40,55)] [] (fun n J hp=>∃j,n=x.2.length-j/\j<=x.2.length/\J 40= .int .i64 (j:Nat)/\hp 4=some ⟨3,50,[.agg [.bool false,.nilS,.nilS]],false⟩/\hp 8=some ⟨3,50,[PV.rat (Qeq vs (p.take i))],false⟩/\hp 11=some ⟨3,50,[PV.rat (x.1*Qe6 vs x.2 j)],false⟩) x.2.length ?_ ?_
   ·refine⟨0,rfl,by omega,?_⟩
    have e0:x.1*Qe6 vs x.2 0=x.1:=by show x.1*1=x.1;grind
    rw[e0]
    simp+decide (disch:=first|exact D2 hk4 hk8|fail) only[go_sem,↓reduceIte,hk4,hk8]
    rfl
   rintro _ J2 h2 ⟨j,rfl,hj,h40,hl4,hl8,hl11⟩
   simp+decide (disch:=first|exact D1 h40|fail) only[go_sem,↓reduceIte,h40]
   refine Qb (fun hg2=> ?_) (fun hg2=> ?_)
   ·have hj':j<x.2.length:=by omega
    have hje:=Qcu hj'
    have hjb:=htp.m.eN j
    have hms:Qe6 vs x.2 (j+1)=Qe6 vs x.2 j*Qbo (vs.getD j 0) (eN x.2 j).toNat:=rfl
    generalize hy:x.2[j]=y at *
    obtain⟨m,rfl⟩:∃m:Nat,y=m:=⟨y.toNat,by omega⟩
    rw[hje,Int.toNat_natCast]at hms
    rw[hje]at hjb
    simp+decide (disch:=first|exact D2 h40 hy|fail) only[go_sem,↓reduceIte,h40,hy]
    refine Qb (fun hz=> ?_) (fun hz=> ?_)
    ·have hjv:j<vs.length:=by omega
     have hvg:vs.getD j 0=vs[j]:=by simp[List.getD_eq_getElem?_getD,hjv]
     have hvw:=hv _ (List.getElem_mem hjv)
     rw[hvg]at hms
     generalize hvj:vs[j]=v at *
     have hwe:rs v*m<=W*E:=Nat.mul_le_mul hvw (by omega)
     have hv1:rs v<=rs v*m:=Nat.le_mul_of_pos_right _ (by omega)
     have hqp:=Qsu v m
     have hm1:=hme j
     have hm2:=hjm j hj
     simp+decide (disch:=first|exact D4 h40 hy hl11 hvj|fail) only[go_sem,↓reduceIte,h40,hy,hl11,hvj]
     refine Qa hP (Qxn (a:=v) (n:=m) (by omega) (by omega) (by omega)) rfl rfl rfl ?_
     simp+decide (disch:=first|exact D4 h40 hy hl11 hvj|fail) only[go_sem,↓reduceIte,h40,hy,hl11,hvj]
     refine Qa hP (Qrg (a:=x.1*Qe6 vs x.2 j) (b:=Qbo v m) (k:=2^33) (by omega) (by omega) (by omega)) rfl rfl rfl ?_
     simp+decide (disch:=first|exact D4 h40 hy hl11 hvj|fail) only[go_sem,↓reduceIte,h40,hy,hl11,hvj]
     refine Qh (x.2.length-(j+1)) (by omega) ⟨j+1,rfl,by omega,?_⟩
     have e1:x.1*Qe6 vs x.2 (j+1)=x.1*Qe6 vs x.2 j*Qbo v m:=by rw[hms];grind
     rw[e1]
     simp+decide (disch:=first|exact D2 hl4 hl8|fail) only[go_sem,↓reduceIte,hl4,hl8]
    ·obtain rfl:m=0:=by omega
     simp+decide (disch:=first|exact D2 h40 hy|fail) only[go_sem,↓reduceIte,h40,hy]
     refine Qh (x.2.length-(j+1)) (by omega) ⟨j+1,rfl,by omega,?_⟩
     have e1:x.1*Qe6 vs x.2 (j+1)=x.1*Qe6 vs x.2 j:=by rw[hms,Qnq];grind
     rw[e1]
     simp+decide (disch:=first|exact D3 hl4 hl8 hl11|fail) only[go_sem,↓reduceIte,hl4,hl8,hl11]
   ·obtain rfl:j=x.2.length:=by omega
    have hm1:=hme x.2.length
    have hm2:=hjm x.2.length (Nat.le_refl _)
    have hra:=Qli (Qeq vs (p.take i)) (x.1*mev vs x.2)
    rw[show Qe6 vs x.2 x.2.length=mev vs x.2 from rfl]at hl11 hm1
    simp+decide (disch:=first|exact D4 h31 h40 hl8 hl11|fail) only[go_sem,↓reduceIte,h31,h40,hl8,hl11]
    refine Qa hP (Q9g (a:=Qeq vs (p.take i)) (b:=x.1*mev vs x.2) (k:=2^33) (by omega) (by omega) (by omega)) rfl rfl rfl ?_
    simp+decide (disch:=first|exact D4 h31 h40 hl8 hl11|fail) only[go_sem,↓reduceIte,h31,h40,hl8,hl11]
    simp (disch:=decide) only[Qbi,Qfy]
    refine Qh (p.length-(i+1)) (by omega) ⟨i+1,rfl,by omega,?_⟩
    rw[htk]
    simp+decide (disch:=first|exact D1 hl4|fail) only[go_sem,↓reduceIte,hl4]
  ·obtain rfl:i=p.length:=by omega
   rw[List.take_length]at hk8
   simp+decide (disch:=first|exact D2 hk4 hk8|fail) only[go_sem,↓reduceIte,hk4,hk8]
   refine Ql6 ?_
   simp+decide (disch:=first|exact D0|fail) only[go_sem,↓reduceIte]
   exact Qdd (by rw[evR,if_neg (by simp[ho])]) rfl rfl (Q8 _) (Q8 _)
end Go.Proofs.YtdacdnoebgcjhaaGreat
namespace Go.Proofs.YtdacdnoebgcjhaaGreat
open Go Go.FW
set_option linter.unusedSimpArgs false
set_option linter.unusedVariables false
set_option maxRecDepth 100000
end Go.Proofs.YtdacdnoebgcjhaaGreat
namespace Go.Proofs.YtdacdnoebgcjhaaGreat
open Go Go.FW
set_option linter.unusedSimpArgs false
set_option linter.unusedVariables false
set_option maxRecDepth 100000
def Qg8(vs:List Rat):List (List Tm)->Bool->Bool×Int
 | [],b=>(b,0)
 |f::l,b=>if Qnr vs f then(false,2)else Qg8 vs l (b&&decide (Qeq vs f≠0))
abbrev PV.be(r:Bool×Int):PV:= .tup [.bool r.1,.int .i64 r.2]
theorem Qahb{q:Rat}:decide (Qc6 q≠0)=decide (q≠0):=decide_eq_decide.2 (not_congr Qaw)
theorem Q41{vs:List Rat}{l:List (List Tm)}{b:Bool}{i:Nat}(h:i<l.length):Qg8 vs (l.drop i) b=if Qnr vs l[i]then(false,2)else Qg8 vs (l.drop (i+1)) (b&&decide (Qeq vs l[i]≠0)):=by
 rw[List.drop_eq_getElem_cons h];rfl
theorem ev31{p:List Tm}{vs:List Rat}(hp:Sm4 p)(hv:∀v∈vs,rs v<=2)(hl:vs.length<=12):rs (Qeq vs p)<2^36/\1+p.length*(3+64*(1+2*4))+(3+64*(1+2*4))<=2^31:=by
 have h1:=hp.l
 have hr:=Qpv hp.b hv (by omega) p.length (Nat.le_refl _)
 rw[List.take_length]at hr
 exact⟨by omega,by omega⟩
theorem Qg9{l:List Crt}{vs:List Rat}(h:∀c∈l,Qi0 c)(hl:l.length<=4)(hv:∀v∈vs,rs v<=2)(hvl:vs.length<=12):Qd Tryz.prog 8 [PV.crts l,PV.rats vs] (· =PV.be (Qg8 vs (Qcg l) true)):=by
 have hF:=Qmr h _ (Nat.le_refl _)
 rw[List.take_length]at hF
 have hFl:=hF.l
 have hfa:=Qf0 h hl
 refine Qf Ql Tryz.func8 rfl Qaio (by simp[c8]) fun C hP=> ?_;simp only[c8,Zo,Zg,Zm,Zc,Zf,Zl,Zh,Zs,Zi,Zb,Zk,Zn,Zu,Zq,Zr,Zz]
 simp+decide (disch:=first|exact D0|fail) only[go_sem,↓reduceIte]
 refine Qa hP hfa rfl rfl rfl ?_
 generalize Qcg l=A at *
 simp+decide (disch:=first|exact D0|fail) only[go_sem,↓reduceIte]
 refine Qw (by repeat (first|exact Qu|exact Qn|exact Qo|exact Qp|exact Qq|apply Qm|apply Qt|apply Qy|apply Q5|apply Q6|apply Qk|apply Q2)) [(4,6),(8,10),(14,33)] [9] (fun q J hp=>∃i b,q=A.length-i/\i<=A.length/\Qg8 vs (A.drop i) b=Qg8 vs A true/\J 6= .bool b/\J 14= .int .i64 (i:Nat)) A.length ?_ ?_
 ·refine⟨0,true,rfl,by omega,rfl,?_⟩
  simp+decide (disch:=first|exact D0|fail) only[go_sem,↓reduceIte]
  rfl
 rintro _ J h' ⟨i,b,rfl,hi,hm,h6,h14⟩
 simp+decide (disch:=first|exact D1 h14|fail) only[go_sem,↓reduceIte,h14]
 refine Qb (fun hg=> ?_) (fun hg=> ?_)
 ·have hi':i<A.length:=by omega
  have hq:=hF.f _ (List.getElem_mem hi')
  rw[Q41 hi']at hm
  obtain⟨e1,e2⟩:=ev31 hq hv hvl
  generalize hx:A[i]=x at *
  have hev:=Qyw (W:=2) hq.b hv (by omega) (by omega) (by omega) (by have:=hq.l;omega) (by omega)
  have hsg:=Qnw e1
  unfold evR at hev
  cases ho:Qnr vs x
  ·rw[ho,if_neg (by decide)]at hev hm
   simp+decide (disch:=first|exact D2 h14 hx|fail) only[go_sem,↓reduceIte,h14,hx]
   refine Qa hP hev rfl rfl rfl ?_
   cases b
   ·simp+decide (disch:=first|exact D2 h14 h6|fail) only[go_sem,↓reduceIte,h14,h6]
    refine Qh (A.length-(i+1)) (by omega) ⟨i+1,false,rfl,by omega,by rw[<-hm];rfl,?_⟩
    simp+decide (disch:=first|exact D0|fail) only[go_sem,↓reduceIte]
   ·simp+decide (disch:=first|exact D2 h14 h6|fail) only[go_sem,↓reduceIte,h14,h6]
    refine Qa hP hsg rfl rfl rfl ?_
    simp+decide (disch:=first|exact D1 h14|fail) only[go_sem,↓reduceIte,h14]
    refine Qh (A.length-(i+1)) (by omega) ⟨i+1,decide (Qeq vs x≠0),rfl,by omega,by rw[<-hm];rfl,?_⟩
    refine⟨?_,rfl⟩
    rw[<-Qahb];rfl
  ·rw[ho,if_pos rfl]at hev hm
   simp+decide (disch:=first|exact D2 h14 hx|fail) only[go_sem,↓reduceIte,h14,hx]
   refine Qa hP hev rfl rfl rfl ?_
   simp+decide (disch:=first|exact D0|fail) only[go_sem,↓reduceIte]
   exact Qdd (r:=PV.be (Qg8 vs A true)) (by rw[<-hm]) rfl rfl (Q8 _) (Q8 _)
 ·obtain rfl:i=A.length:=by omega
  rw[List.drop_length]at hm
  simp+decide (disch:=first|exact D1 h6|fail) only[go_sem,↓reduceIte,h6]
  exact Qdd (r:=PV.be (Qg8 vs A true)) (by rw[<-hm];rfl) rfl rfl (Q8 _) (Q8 _)
end Go.Proofs.YtdacdnoebgcjhaaGreat
namespace Go.Proofs.YtdacdnoebgcjhaaGreat
open Go Go.FW
set_option linter.unusedSimpArgs false
set_option linter.unusedVariables false
set_option maxRecDepth 100000
theorem Q9i{fr:Fr}{hp:HP}{K:Qg}{β j o d:Nat}:Qhp 2 2 (.mp β j o) (.int .i64 1) d fr hp K=K (upd fr d (.mp β j (o+2))) hp:=Qzk (i:=1) (by omega)
theorem Qaiq{fr:Fr}{hp:HP}{K:Qg}{β j o d:Nat}:Qhp 2 2 (.mp β j o) (.int .i64 0) d fr hp K=K (upd fr d (.mp β j o)) hp:=Qzk (i:=0) (by omega)
abbrev prb(M S G:List Tm):PV:= .agg [.nilS,.nilS,.nilS,.nilS,.sl 1 [PV.poly M],.sl 1 [PV.poly S],.sl 1 [.sl 1 [PV.poly G]]]
theorem Q87{M S G V:List Tm}(hS:Sm4 S)(hS0:S≠[])(hV:Sm4 V)(hV0:V≠[])(e:Qc7 V ((hdT S).1/(hdT V).1)=S):Qd Tryz.prog 22 [prb M S G,PV.poly V] (· = .tup [.int .i64 0,.bool true]):=by
 have hl:0<S.length:=List.length_pos_iff.2 hS0
 have hl2:0<V.length:=List.length_pos_iff.2 hV0
 have g1:=Qzp hl
 have g2:=Qzp hl2
 have m1:=Qoi hS0
 have m2:=Qoi hV0
 have r1:=(hS.b _ m1).c
 have r2:=(hV.b _ m2).c
 have hz:=hV.n.z _ m2
 have hd:=Qah6 (a:=(hdT S).1) (b:=(hdT V).1) (k:=3) (by omega) (by omega) (by omega) hz
 have hrd:rs ((hdT S).1/(hdT V).1)<=rs (hdT S).1+1*rs (hdT V).1:=Qzx hz (Nat.le_refl _) 1
 have hsc:=Qw9 (p:=V) (a:=(hdT S).1/(hdT V).1) (K:=100) (E:=4) (hV.b.mono (by omega) (by omega)) (by omega) (by omega) (by omega) (by have:=hV.l;omega)
 have heq:=Qjt hS.b hS.b (by omega) (by omega) (by have:=hS.l;omega) (by have:=hS.l;omega)
 rw[decide_eq_true rfl]at heq
 rw[e]at hsc
 refine Qf Ql Tryz.func22 rfl Qag7 (by simp[c22]) fun C hP=> ?_;simp only[c22,Zo,Zg,Zm,Zc,Zf,Zl,Zh,Zs,Zi,Zb,Zk,Zn,Zu,Zq,Zr,Zz]
 simp+decide (disch:=first|exact D0|fail) only[go_sem,↓reduceIte]
 refine Qb (fun h=>absurd h (by omega)) (fun _=> ?_)
 simp+decide (disch:=first|exact D0|fail) only[go_sem,↓reduceIte]
 refine Qw (by repeat (first|exact Qu|exact Qn|exact Qo|exact Qp|exact Qq|apply Qm|apply Qt|apply Qy|apply Q5|apply Q6|apply Qk|apply Q2)) [(4,9),(16,42)] [8] (fun q J hp=>q=0/\J 16= .int .i64 0/\hp 2=some ⟨7,62,[prb M S G],false⟩) 0 ?_ ?_
 ·simp+decide (disch:=first|exact D0|fail) only[go_sem,↓reduceIte]
 rintro _ J h ⟨rfl,h16,b2⟩
 simp+decide (disch:=first|exact D1 h16|fail) only[go_sem,↓reduceIte,h16]
 refine Qb (fun h=>absurd h (by omega)) (fun _=> ?_)
 simp+decide (disch:=first|exact D3 h16 g1 g2|fail) only[go_sem,↓reduceIte,h16,g1,g2]
 refine Qgf ?_ ?_
 all_goals
  first|simp+decide (disch:=first|exact D0|fail) only[go_sem,↓reduceIte]|skip
  refine Qa hP hd rfl rfl rfl ?_
  simp+decide (disch:=first|exact D0|fail) only[go_sem,↓reduceIte]
  refine Qa hP hsc rfl rfl rfl ?_
  simp+decide (disch:=first|exact D0|fail) only[go_sem,↓reduceIte]
  refine Qa hP heq rfl rfl rfl ?_
  simp+decide (disch:=first|exact D1 h16|fail) only[go_sem,↓reduceIte,h16]
  exact Qdd (r:= .tup [.int .i64 0,.bool true]) rfl rfl rfl (Q8 _) (Q8 _)
theorem Q88{F D:List Tm}(hF:Sm4 F)(hD:Sm4 D):PV.cert [F] [1] 1 [D]=PV.rcert ⟨[F.map toR],[1],1,[D.map toR]⟩/\RC 4 ⟨[F.map toR],[1],1,[D.map toR]⟩:=by
 have key:∀ {p:List Tm},Sm4 p->(∀t∈p.map toR,RB 4 t)/\(p.map toR).length<2^40:=fun {p} hp=>by
  refine⟨fun t ht=> ?_,by rw[List.length_map];have:=hp.l;omega⟩
  obtain⟨s,hs,rfl⟩:=List.mem_map.1 ht
  have:=(hp.b s hs).c
  exact Qaey (by omega) (by have:=(hp.b s hs).m.len;omega)
 refine⟨?_,⟨fun l hl=> ?_,fun l hl=> ?_,by simp,by simp,by simp⟩⟩
 ·show PV.agg [.sl 1 [PV.poly F],PV.mono [1],.int .i64 1,.sl 1 [PV.poly D]]=PV.agg [.sl 1 [PV.rpoly (F.map toR)],PV.mono [1],.int .i64 1,.sl 1 [PV.rpoly (D.map toR)]]
  rw[Qwx,Qwx]
 ·rw[List.mem_singleton.1 hl];exact key hF
 ·rw[List.mem_singleton.1 hl];exact key hD
theorem Q89{M S G F D:List Tm}{e:Int}(hF:Sm4 F)(hD:Sm4 D)(hr:Qb6 ⟨[F.map toR],[1],1,[D.map toR]⟩=true)(hc:Qd Tryz.prog 78 [PV.cert [F] [1] 1 [D],PV.polys [M],PV.poly G] (· = .int .i64 e)):
  Qd Tryz.prog 44 [prb M S G,PV.poly G,PV.cert [F] [1] 1 [D]] (· = .agg [.int .i64 0,.int .i64 0,.int .i64 0,.int .i64 e]):=by
 obtain⟨c1,c2⟩:=Q88 hF hD
 have hrt:=Qys c2 (by omega) (by omega)
 rw[hr,<-c1]at hrt
 refine Qf Ql Tryz.func44 rfl Qag8 (by simp[c44]) fun C hP=> ?_;simp only[c44,Zo,Zg,Zm,Zc,Zf,Zl,Zh,Zs,Zi,Zb,Zk,Zn,Zu,Zq,Zr,Zz]
 simp+decide (disch:=first|exact D0|fail) only[go_sem,↓reduceIte]
 refine Qa hP hrt rfl rfl rfl ?_
 simp+decide (disch:=first|exact D0|fail) only[go_sem,↓reduceIte]
 refine Qa hP hc rfl rfl rfl ?_
 simp+decide (disch:=first|exact D0|fail) only[go_sem,↓reduceIte]
 rw[Q9i]
 simp+decide (disch:=first|exact D0|fail) only[go_sem,↓reduceIte]
 refine Qa5 ?_
 simp+decide (disch:=first|exact D0|fail) only[go_sem,↓reduceIte]
 exact Qc rfl rfl
theorem Qyx{M S G:List Tm}(c:PV):Qd Tryz.prog 23 [prb M S G,.int .i64 1,c] (· = .int .i64 2):=by
 refine Qf Ql Tryz.func23 rfl Qxl (by simp[c23]) fun C hP=> ?_;simp only[c23,Zo,Zg,Zm,Zc,Zf,Zl,Zh,Zs,Zi,Zb,Zk,Zn,Zu,Zq,Zr,Zz]
 simp+decide (disch:=first|exact D0|fail) only[go_sem,↓reduceIte]
 exact Qc rfl rfl
theorem Q42{M S G:List Tm}:Qd Tryz.prog 23 [prb M S G,.int .i64 0,.nilS] (· = .int .i64 16):=by
 refine Qf Ql Tryz.func23 rfl Qxl (by simp[c23]) fun C hP=> ?_;simp only[c23,Zo,Zg,Zm,Zc,Zf,Zl,Zh,Zs,Zi,Zb,Zk,Zn,Zu,Zq,Zr,Zz]
 simp+decide (disch:=first|exact D0|fail) only[go_sem,↓reduceIte]
 exact Qc rfl rfl
theorem Q9a{M S G F D:List Tm}(hm:Qd Tryz.prog 44 [prb M S G,PV.poly G,PV.cert [F] [1] 1 [D]] (· = .agg [.int .i64 0,.int .i64 0,.int .i64 0,.int .i64 0])):
  Qd Tryz.prog 23 [prb M S G,.int .i64 0,.sl 4 [PV.cert [F] [1] 1 [D]]] (· = .int .i64 0):=by
 refine Qf Ql Tryz.func23 rfl Qxl (by simp[c23]) fun C hP=> ?_;simp only[c23,Zo,Zg,Zm,Zc,Zf,Zl,Zh,Zs,Zi,Zb,Zk,Zn,Zu,Zq,Zr,Zz]
 simp+decide (disch:=first|exact D0|fail) only[go_sem,↓reduceIte]
 refine Qw (by repeat (first|exact Qu|exact Qn|exact Qo|exact Qp|exact Qq|apply Qm|apply Qt|apply Qy|apply Q5|apply Q6|apply Qk|apply Q2)) [(6,9),(30,61)] [8,9] (fun q J hp=>((q=1/\J 30= .int .i64 0)∨(q=0/\J 30= .int .i64 1))/\hp 3=some ⟨7,62,[prb M S G],false⟩) 1 ?_ ?_
 ·refine⟨.inl ⟨rfl,?_⟩,?_⟩
  ·simp+decide (disch:=first|exact D0|fail) only[go_sem,↓reduceIte]
  ·simp+decide (disch:=first|exact D0|fail) only[go_sem,↓reduceIte]
 rintro _ J h ⟨⟨rfl,h30⟩|⟨rfl,h30⟩,b3⟩
 ·simp+decide (disch:=first|exact D2 h30 b3|fail) only[go_sem,↓reduceIte,h30,b3]
  refine Qgf ?_ ?_
  all_goals
   first|simp+decide (disch:=first|exact D0|fail) only[go_sem,↓reduceIte]|skip
   refine Qa hP hm rfl rfl rfl ?_
   simp+decide (disch:=first|exact D0|fail) only[go_sem,↓reduceIte]
   rw[Qaiq]
   simp+decide (disch:=first|exact D0|fail) only[go_sem,↓reduceIte]
   rw[Q9i]
   simp+decide (disch:=first|exact D1 h30|fail) only[go_sem,↓reduceIte,h30]
   refine Qh 0 (by omega) ⟨.inr ⟨rfl,?_⟩,?_⟩
   ·simp+decide (disch:=first|exact D0|fail) only[go_sem,↓reduceIte]
    rfl
   ·simp+decide (disch:=first|exact D1 b3|fail) only[go_sem,↓reduceIte,b3]
 ·simp+decide (disch:=first|exact D1 h30|fail) only[go_sem,↓reduceIte,h30]
  exact Qc rfl rfl
end Go.Proofs.YtdacdnoebgcjhaaGreat
namespace Go.Proofs.YtdacdnoebgcjhaaGreat
open Go Go.FW
set_option linter.unusedSimpArgs false
set_option linter.unusedVariables false
set_option maxRecDepth 100000
def c7:SFn:=⟨98,[.t 0],Zr (Zo (.mv 0 (.c (.bool false))) .nil)<|Zr (Zq 11 false 17 [.c (Zz 0)]<|
 Zq 12 false 17 [.c (Zz 1)]<|
 Zm 1 11<|
 Zm 2 12 .nil)<|Zr (Zm 13 1<|
 Zm 14 2<|
 Zq 15 false 18 [.t 13,.t 14]<|
 Zo (.bs 16 1 35 [.t 15])<|
 .wk<|Zm 17 1<|
 Zq 18 false 20 [.c (Zz 2)]<|
 Zq 19 false 19 [.t 17,.t 18]<|
 Zo (.bs 20 1 35 [.t 19])<|
 .wk<|Zm 21 2<|
 Zo (.bs 22 1 35 [.t 21])<|
 .wk<|Zo (.bs 23 1 31 [.t 22])<|
 .wk<|Zo (.bld 24 [.nilS,.nilS,.nilS,.nilS,.nilS,.nilS,.nilS] [(4,1,.t 16),(5,1,.t 20),(6,1,.t 23)])<|
 Zo (.alloc 3 7 62 (.agg [.nilS,.nilS,.nilS,.nilS,.nilS,.nilS,.nilS]))<|
 Zs 7 3 24 .nil)<|Zr (Zm 25 1<|
 Zo (.bs 26 1 35 [.t 25])<|
 .wk<|Zo (.bs 27 1 3 [.c (Zz 1)])<|
 .wk<|Zq 28 false 20 [.c (Zz 1)]<|
 Zq 29 false 21 [.t 28]<|
 Zo (.bs 30 1 35 [.t 29])<|
 .wk<|Zo (.bld 31 [.nilS,.nilS,Zz 0,.nilS] [(0,1,.t 26),(1,1,.t 27),(2,1,.c (Zz 1)),(3,1,.t 30)])<|
 Zo (.bs 32 4 39 [.t 31])<|
 .wk<|Zm 4 32 .nil)<|Zr (Zm 34 4<|
 Zq 35 false 20 [.c (Zz 0)]<|
 Zq 36 false 20 [.c (Zz 5)]<|
 Zo (.bs 37 3 50 [.t 35,.t 36])<|
 .wk<|Zq 38 false 8 [.t 34,.t 37]<|
 Zm 33 38<|
 Zo (.ext 39 (.t 33) 0)<|
 Zo (.ext 40 (.t 33) 1)<|
 Zm 5 39<|
 Zm 6 40 .nil)<|Zr (Zm 42 4<|
 Zq 43 false 20 [.c (Zz 1)]<|
 Zq 44 false 20 [.c (Zz 0)]<|
 Zo (.bs 45 3 50 [.t 43,.t 44])<|
 .wk<|Zq 46 false 8 [.t 42,.t 45]<|
 Zm 41 46<|
 Zo (.ext 47 (.t 41) 0)<|
 Zo (.ext 48 (.t 41) 1)<|
 Zm 7 47<|
 Zm 8 48 .nil)<|Zr (Zh 50 7 3<|
 Zm 51 1<|
 Zq 52 false 22 [.t 50,.t 51]<|
 Zm 49 52<|
 Zo (.ext 53 (.t 49) 0)<|
 Zo (.ext 54 (.t 49) 1)<|
 Zm 9 53<|
 Zm 10 54 .nil)<|Zr (Zh 55 7 3<|
 Zm 56 4<|
 Zq 57 false 23 [.t 55,.c (Zz 0),.t 56]<|
 Zk 58 .eql 57 0<|
 Zm 59 58<|
 Zg 59 true (.ld 60 7 true (.t 3))<|
 Zg 59 true (.call (some 61) false (.c (.fn 23 [] [])) [.t 60,.c (Zz 0),.c .nilS])<|
 Zg 59 true (.bin 62 .eql false (.t 61) (.c (Zz 16)))<|
 Zo (.pick 63 (.t 59) (.t 62) (.c (.bool false)))<|
 Zm 64 63<|
 Zg 64 true (.ld 65 7 true (.t 3))<|
 Zg 64 true (.mv 66 (.t 4))<|
 Zg 64 true (.call (some 67) false (.c (.fn 23 [] [])) [.t 65,.c (Zz 1),.t 66])<|
 Zg 64 true (.bin 68 .eql false (.t 67) (.c (Zz 2)))<|
 Zo (.pick 69 (.t 64) (.t 68) (.c (.bool false)))<|
 Zm 70 69<|
 Zg 70 true (.mv 71 (.t 5))<|
 Zg 70 true (.un 72 .not (.t 71))<|
 Zo (.pick 73 (.t 70) (.t 72) (.c (.bool false)))<|
 Zm 74 73<|
 Zg 74 true (.mv 75 (.t 6))<|
 Zg 74 true (.bin 76 .eql false (.t 75) (.c (Zz 0)))<|
 Zo (.pick 77 (.t 74) (.t 76) (.c (.bool false)))<|
 Zm 78 77<|
 Zg 78 true (.mv 79 (.t 7))<|
 Zo (.pick 80 (.t 78) (.t 79) (.c (.bool false)))<|
 Zm 81 80<|
 Zg 81 true (.mv 82 (.t 8))<|
 Zg 81 true (.bin 83 .eql false (.t 82) (.c (Zz 0)))<|
 Zo (.pick 84 (.t 81) (.t 83) (.c (.bool false)))<|
 Zm 85 84<|
 Zg 85 true (.mv 86 (.t 9))<|
 Zg 85 true (.bin 87 .eql false (.t 86) (.c (Zz 0)))<|
 Zo (.pick 88 (.t 85) (.t 87) (.c (.bool false)))<|
 Zm 89 88<|
 Zg 89 true (.mv 90 (.t 10))<|
 Zo (.pick 91 (.t 89) (.t 90) (.c (.bool false)))<|
 Zm 92 91<|
 Zg 92 true (.mv 93 (.t 4))<|
 Zg 92 true (.call (some 94) false (.c (.fn 11 [] [])) [.t 93])<|
 Zg 92 true (.len 95 (.t 94))<|
 Zg 92 true (.bin 96 .eql false (.t 95) (.c (Zz 1)))<|
 Zo (.pick 97 (.t 92) (.t 96) (.c (.bool false)))<|
 Zm 0 97 .nil) .ret⟩
theorem Qair:Qe Tryz.prog Tryz.f7=some c7.strip:=by kernel_rfl
theorem Qahc:Qg8 [((0:Int):Rat),((5:Int):Rat)] (Qcg [⟨[Qa0 0],[1],1,[Qbm 1]⟩]) true=(false,0):=by decide+kernel
theorem Qahd:Qg8 [((1:Int):Rat),((0:Int):Rat)] (Qcg [⟨[Qa0 0],[1],1,[Qbm 1]⟩]) true=(true,0):=by decide+kernel
theorem Qahe:Qcg [⟨[Qa0 0],[1],1,[Qbm 1]⟩]=[Qa0 0]:=by decide+kernel
theorem Qahf:Qb6 ⟨[(Qa0 0).map toR],[1],1,[(Qbm 1).map toR]⟩=true:=by decide+kernel
theorem Qahg:Qc7 (Qa0 0) ((hdT (Qc7 (Qa0 0) ((2:Int):Rat))).1/(hdT (Qa0 0)).1)=Qc7 (Qa0 0) ((2:Int):Rat):=by decide+kernel
theorem Qeg:Qd Tryz.prog 7 [] (· = .bool true):=by
 have s0:Sm4 (Qa0 0):=Qn1 (by decide+kernel)
 have s1:Sm4 (Qa0 1):=Qn1 (by decide+kernel)
 have s2:Sm4 (Qbm 1):=Qn1 (by decide+kernel)
 have s3:Sm4 (Qc7 (Qa0 0) ((2:Int):Rat)):=Qn1 (by decide+kernel)
 have s4:Sm4 (Qbb (Qa0 0) (Qa0 1)):=Qn1 (by decide+kernel)
 have n0:Qa0 0≠[]:=by decide+kernel
 have n3:Qc7 (Qa0 0) ((2:Int):Rat)≠[]:=by decide+kernel
 have hv0:Qd Tryz.prog 17 [.int .i64 0] (· =PV.poly (Qa0 0)):=Qpd (v:=0) (by omega)
 have hv1:Qd Tryz.prog 17 [.int .i64 1] (· =PV.poly (Qa0 1)):=Qpd (v:=1) (by omega)
 have hm1:=Qah5 (m:=4) (P:=Qa0 0) (q:=Qa0 1) ⟨s0.sml.z.mono (by omega) (by omega) (by omega),s0.n,by have:=s0.l;omega⟩ s1.sml (by omega)
 have ho2:Qd Tryz.prog 20 [.int .i64 2] (· =PV.rat ((2:Int):Rat)):=Qg4 (by omega) (by omega)
 have ho1:Qd Tryz.prog 20 [.int .i64 1] (· =PV.rat ((1:Int):Rat)):=Qg4 (by omega) (by omega)
 have ho0:Qd Tryz.prog 20 [.int .i64 0] (· =PV.rat ((0:Int):Rat)):=Qg4 (by omega) (by omega)
 have ho5:Qd Tryz.prog 20 [.int .i64 5] (· =PV.rat ((5:Int):Rat)):=Qg4 (by omega) (by omega)
 have hsc:=Qup (p:=Qa0 0) (a:=((2:Int):Rat)) (K:=3) (E:=4) s0.b s0.n.z (by decide+kernel) (by omega) (by omega) (by have:=s0.l;omega)
 have hco:Qd Tryz.prog 21 [PV.rat ((1:Int):Rat)] (· =PV.poly (Qbm 1)):=Q1o (a:=((1:Int):Rat)) (k:=4) (by decide+kernel) (by omega)
 have hna:=Q87 (M:=Qbb (Qa0 0) (Qa0 1)) (G:=Qa0 1) s3 n3 s0 n0 Qahg
 have hic:=Qxh (fs:=[Qa0 0]) (ps:=[1]) (n:=1) (cs:=[Qbm 1]) (hs:=[Qbb (Qa0 0) (Qa0 1)]) (g:=Qa0 1) (by simp;exact s0.sml) (by simp) (by simp) (by simp;exact s2.sml.big) (by simp) (by simp;exact s4.sml) (by simp) s1.sml
 rw[Qail]at hic
 have hmk:=Q89 (S:=Qc7 (Qa0 0) ((2:Int):Rat)) s0 s2 Qahf hic
 have hk0:=Q9a hmk
 have hk1:=Q42 (M:=Qbb (Qa0 0) (Qa0 1)) (S:=Qc7 (Qa0 0) ((2:Int):Rat)) (G:=Qa0 1)
 have hk2:=Qyx (M:=Qbb (Qa0 0) (Qa0 1)) (S:=Qc7 (Qa0 0) ((2:Int):Rat)) (G:=Qa0 1) (.sl 4 [PV.cert [Qa0 0] [1] 1 [Qbm 1]])
 have hgc:∀c∈[(⟨[Qa0 0],[1],1,[Qbm 1]⟩:Crt)],Qi0 c:=by
  intro c hc
  rw[List.mem_singleton.1 hc]
  exact⟨rfl,by simp;exact⟨s0,n0⟩,by simp⟩
 have hf:=Qf0 hgc (by simp)
 have he1:=Qg9 (vs:=[((0:Int):Rat),((5:Int):Rat)]) hgc (by simp) (by decide+kernel) (by simp)
 have he2:=Qg9 (vs:=[((1:Int):Rat),((0:Int):Rat)]) hgc (by simp) (by decide+kernel) (by simp)
 rw[Qahc]at he1
 rw[Qahd]at he2
 rw[Qahe]at hf
 clear hic hmk hgc s0 s1 s2 s3 s4 n0 n3
 generalize Qc7 (Qa0 0) ((2:Int):Rat)=S2 at *
 generalize Qbb (Qa0 0) (Qa0 1)=M at *
 generalize Qbm 1=O at *
 generalize Qa0 0=V0 at *
 generalize Qa0 1=V1 at *
 generalize((0:Int):Rat)=q0 at *
 generalize((1:Int):Rat)=q1 at *
 generalize((2:Int):Rat)=q2 at *
 generalize((5:Int):Rat)=q5 at *
 refine Qt6 Ql Tryz.func7 rfl Qair (by simp[c7]) fun C hP=> ?_;simp only[c7,Zo,Zg,Zm,Zc,Zf,Zl,Zh,Zs,Zi,Zb,Zk,Zn,Zu,Zq,Zr,Zz]
 simp+decide (disch:=first|exact D0|fail) only[go_sem,↓reduceIte]
 refine Qa hP hv0 rfl rfl rfl ?_
 simp+decide (disch:=first|exact D0|fail) only[go_sem,↓reduceIte]
 refine Qa hP hv1 rfl rfl rfl ?_
 simp+decide (disch:=first|exact D0|fail) only[go_sem,↓reduceIte]
 refine Qa hP hm1 rfl rfl rfl ?_
 simp+decide (disch:=first|exact D0|fail) only[go_sem,↓reduceIte]
 refine Qf6 (Qdm 16 U0) ?_
 simp+decide (disch:=first|exact E0|fail) only[go_sem,↓reduceIte,Qz,List.contains_cons,List.contains_nil,List.flatMap_cons,List.flatMap_nil,List.append_nil]
 refine Qa hP ho2 rfl rfl rfl ?_
 simp+decide (disch:=first|exact E0|fail) only[go_sem,↓reduceIte,Qz,List.contains_cons,List.contains_nil,List.flatMap_cons,List.flatMap_nil,List.append_nil]
 refine Qa hP hsc rfl rfl rfl ?_
 simp+decide (disch:=first|exact E0|fail) only[go_sem,↓reduceIte,Qz,List.contains_cons,List.contains_nil,List.flatMap_cons,List.flatMap_nil,List.append_nil]
 refine Qf6 (Qdm 20 U0) ?_
 simp+decide (disch:=first|exact E0|fail) only[go_sem,↓reduceIte,Qz,List.contains_cons,List.contains_nil,List.flatMap_cons,List.flatMap_nil,List.append_nil]
 refine Qf6 (Qdm 22 U0) ?_
 simp+decide (disch:=first|exact E0|fail) only[go_sem,↓reduceIte,Qz,List.contains_cons,List.contains_nil,List.flatMap_cons,List.flatMap_nil,List.append_nil]
 refine Qf6 (Qdm 23 U0) ?_
 simp+decide (disch:=first|exact E0|fail) only[go_sem,↓reduceIte,Qz,List.contains_cons,List.contains_nil,List.flatMap_cons,List.flatMap_nil,List.append_nil]
 refine Qf6 (Qdm 26 U0) ?_
 simp+decide (disch:=first|exact E0|fail) only[go_sem,↓reduceIte,Qz,List.contains_cons,List.contains_nil,List.flatMap_cons,List.flatMap_nil,List.append_nil]
 refine Qf6 (Qdm 27 U0) ?_
 simp+decide (disch:=first|exact E0|fail) only[go_sem,↓reduceIte,Qz,List.contains_cons,List.contains_nil,List.flatMap_cons,List.flatMap_nil,List.append_nil]
 refine Qa hP ho1 rfl rfl rfl ?_
 simp+decide (disch:=first|exact E0|fail) only[go_sem,↓reduceIte,Qz,List.contains_cons,List.contains_nil,List.flatMap_cons,List.flatMap_nil,List.append_nil]
 refine Qa hP hco rfl rfl rfl ?_
 simp+decide (disch:=first|exact E0|fail) only[go_sem,↓reduceIte,Qz,List.contains_cons,List.contains_nil,List.flatMap_cons,List.flatMap_nil,List.append_nil]
 refine Qf6 (Qdm 30 U0) ?_
 simp+decide (disch:=first|exact E0|fail) only[go_sem,↓reduceIte,Qz,List.contains_cons,List.contains_nil,List.flatMap_cons,List.flatMap_nil,List.append_nil]
 rw[Qaij (Qey.flat rfl) (Qey.flat rfl) (Qey.flat rfl) (Qey.flat rfl)]
 refine⟨⟨rfl,by simp⟩,⟨rfl,by simp⟩,⟨rfl,by simp⟩,⟨rfl,by simp⟩,?_⟩
 simp+decide (disch:=first|exact E0|fail) only[go_sem,↓reduceIte,Qz,List.contains_cons,List.contains_nil,List.flatMap_cons,List.flatMap_nil,List.append_nil]
 refine Qf6 (Qdm 32 U0) ?_
 simp+decide (disch:=first|exact E0|fail) only[go_sem,↓reduceIte,Qz,List.contains_cons,List.contains_nil,List.flatMap_cons,List.flatMap_nil,List.append_nil]
 refine Qa hP ho0 rfl rfl rfl ?_
 simp+decide (disch:=first|exact E0|fail) only[go_sem,↓reduceIte,Qz,List.contains_cons,List.contains_nil,List.flatMap_cons,List.flatMap_nil,List.append_nil]
 refine Qa hP ho5 rfl rfl rfl ?_
 simp+decide (disch:=first|exact E0|fail) only[go_sem,↓reduceIte,Qz,List.contains_cons,List.contains_nil,List.flatMap_cons,List.flatMap_nil,List.append_nil]
 refine Qf6 (Qdm 37 U0) ?_
 simp+decide (disch:=first|exact E0|fail) only[go_sem,↓reduceIte,Qz,List.contains_cons,List.contains_nil,List.flatMap_cons,List.flatMap_nil,List.append_nil]
 refine Qa hP he1 rfl rfl rfl ?_
 simp+decide (disch:=first|exact E0|fail) only[go_sem,↓reduceIte,Qz,List.contains_cons,List.contains_nil,List.flatMap_cons,List.flatMap_nil,List.append_nil]
 refine Qa hP ho1 rfl rfl rfl ?_
 simp+decide (disch:=first|exact E0|fail) only[go_sem,↓reduceIte,Qz,List.contains_cons,List.contains_nil,List.flatMap_cons,List.flatMap_nil,List.append_nil]
 refine Qa hP ho0 rfl rfl rfl ?_
 simp+decide (disch:=first|exact E0|fail) only[go_sem,↓reduceIte,Qz,List.contains_cons,List.contains_nil,List.flatMap_cons,List.flatMap_nil,List.append_nil]
 refine Qf6 (Qdm 45 U0) ?_
 simp+decide (disch:=first|exact E0|fail) only[go_sem,↓reduceIte,Qz,List.contains_cons,List.contains_nil,List.flatMap_cons,List.flatMap_nil,List.append_nil]
 refine Qa hP he2 rfl rfl rfl ?_
 simp+decide (disch:=first|exact E0|fail) only[go_sem,↓reduceIte,Qz,List.contains_cons,List.contains_nil,List.flatMap_cons,List.flatMap_nil,List.append_nil]
 refine Qa hP hna rfl rfl rfl ?_
 simp+decide (disch:=first|exact E0|fail) only[go_sem,↓reduceIte,Qz,List.contains_cons,List.contains_nil,List.flatMap_cons,List.flatMap_nil,List.append_nil]
 refine Qa hP hk0 rfl rfl rfl ?_
 simp+decide (disch:=first|exact E0|fail) only[go_sem,↓reduceIte,Qz,List.contains_cons,List.contains_nil,List.flatMap_cons,List.flatMap_nil,List.append_nil]
 refine Qa hP hk1 rfl rfl rfl ?_
 simp+decide (disch:=first|exact E0|fail) only[go_sem,↓reduceIte,Qz,List.contains_cons,List.contains_nil,List.flatMap_cons,List.flatMap_nil,List.append_nil]
 refine Qa hP hk2 rfl rfl rfl ?_
 simp+decide (disch:=first|exact E0|fail) only[go_sem,↓reduceIte,Qz,List.contains_cons,List.contains_nil,List.flatMap_cons,List.flatMap_nil,List.append_nil]
 refine Qa hP hf rfl rfl rfl ?_
 simp+decide (disch:=first|exact E0|fail) only[go_sem,↓reduceIte,Qz,List.contains_cons,List.contains_nil,List.flatMap_cons,List.flatMap_nil,List.append_nil]
 refine Qhl (Wk.refl _ _) ?_
 simp+decide (disch:=first|exact D0|fail) only[go_sem,↓reduceIte]
 exact Qc rfl rfl
end Go.Proofs.YtdacdnoebgcjhaaGreat
namespace Go.Proofs.YtdacdnoebgcjhaaGreat
open Go Go.FW
set_option linter.unusedSimpArgs false
set_option linter.unusedVariables false
set_option maxRecDepth 100000
def crt(c:Qb9):Crt:=⟨tms c.fs,c.ps,c.n,tms c.cs⟩
theorem Qpe{c:Qb9}{k:Nat}(hb:RC k c)(h:Qd2 c=true):PV.rcert c=PV.crt (crt c)/\Qi0 (crt c)/\(crt c).fs.length<=4:=by
 simp only[Qd2,Bool.and_eq_true]at h
 obtain⟨h1,h2,_⟩:=h
 obtain⟨e,f4,fl4,_,_,_⟩:=Q40 hb h1
 simp only[Qb6,Bool.and_eq_true,decide_eq_true_eq,List.all_eq_true,List.mem_range]at h2
 obtain⟨⟨g1,_⟩,g2,_⟩:=h2
 have hl:(tms c.fs).length=c.fs.length:=by simp[tms]
 refine⟨e,⟨by show c.ps.length=(tms c.fs).length;omega,fun f hf=>⟨f4 f hf,?_⟩,by show(tms c.fs).length<=5;omega⟩,fl4⟩
 obtain⟨i,hi,rfl⟩:=List.getElem_of_mem (show f∈tms c.fs from hf)
 have hi2:i<c.fs.length:=by omega
 have:=g2 i hi2
 simp only[Qd1,Bool.and_eq_true,decide_eq_true_eq]at this
 have e2:c.fs.getD i []=c.fs[i]:=by simp[hi2]
 rw[e2]at this
 intro h0
 refine this.2.1 ?_
 have:c.fs[i].map RTm.tm=[]:=by simpa[tms]using h0
 exact List.map_eq_nil_iff.1 this
theorem Q1u{l:List Qb9}{k:Nat}(hb:∀c∈l,RC k c)(h:Qkn l=true):PV.rcerts l=PV.crts (l.map crt)/\(∀c∈l.map crt,Qi0 c/\c.fs.length<=4)/\(l.map crt).length<=3:=by
 simp only[Qkn,Bool.and_eq_true,decide_eq_true_eq,List.all_eq_true]at h
 obtain⟨h1,h2⟩:=h
 refine⟨?_,fun c hc=> ?_,by simpa using h1⟩
 ·show PV.sl 4 (l.map PV.rcert)=PV.sl 4 ((l.map crt).map PV.crt)
  rw[List.map_map]
  exact congrArg _ (List.map_congr_left fun c hc=>(Qpe (hb c hc) (h2 c hc)).1)
 ·obtain⟨d,hd,rfl⟩:=List.mem_map.1 hc
  exact(Qpe (hb d hd) (h2 d hd)).2
theorem Qacw{l:List Crt}(h:∀c∈l,Qi0 c)(hl:l.length<=4):Q8z (Qcg l):=by
 have h1:=Qmr h _ (Nat.le_refl _)
 rw[List.take_length]at h1
 exact⟨fun p hp=>⟨(h1.f p hp).b.mono (by omega) (by omega),by have:=(h1.f p hp).l;omega⟩,by have:=h1.l;omega⟩
theorem Qais{fr:Fr}{hp:HP}{K:Qg}{ty β:Nat}{c:Crt}{L:List Crt}{l:List (List Tm)}(h:0<L.length)(hc:L[0]=c):stM (some ⟨4,ty,L.map PV.crt,false⟩) β 1 0 0 (PV.polys l) fr hp K=K fr (Qx hp β ⟨4,ty,(L.set 0 ⟨l,c.ps,c.n,c.cs⟩).map PV.crt,false⟩):=by
 subst hc
 refine(Qvn (n:=1) (o:=0) (v:=PV.polys l) (by simpa using h) rfl rfl (by omega)).trans ?_
 rw[if_neg (by omega),List.getElem_map,List.map_set];rfl
theorem Qait{fr:Fr}{hp:HP}{K:Qg}{ty β:Nat}{c:Crt}{L:List Crt}{l:List Int}(h:0<L.length)(hc:L[0]=c):stM (some ⟨4,ty,L.map PV.crt,false⟩) β 1 0 1 (PV.mono l) fr hp K=K fr (Qx hp β ⟨4,ty,(L.set 0 ⟨c.fs,l,c.n,c.cs⟩).map PV.crt,false⟩):=by
 subst hc
 refine(Qvn (n:=1) (o:=1) (v:=PV.mono l) (by simpa using h) rfl rfl (by omega)).trans ?_
 rw[if_neg (by omega),List.getElem_map,List.map_set];rfl
def c4:SFn:=⟨88,[.t 6],Zr (Zo (.mv 6 (.c (.bool false))) .nil)<| .seq (Zr (Zm 12 0<|
 Zq 13 false 5 [.t 12]<|
 Zu 14 13<|
 Zm 15 14<|
 Zg 15 false (.mv 16 (.t 1))<|
 Zg 15 false (.call (some 17) false (.c (.fn 13 [] [])) [.t 16])<|
 Zg 15 false (.un 18 .not (.t 17))<|
 Zo (.pick 19 (.t 15) (.c (.bool true)) (.t 18))<|
 Zm 20 19<|
 Zg 20 false (.mv 21 (.t 1))<|
 Zg 20 false (.len 22 (.t 21))<|
 Zg 20 false (.bin 23 .eql false (.t 22) (.c (Zz 0)))<|
 Zo (.pick 24 (.t 20) (.c (.bool true)) (.t 23))<|
 Zm 25 24<|
 Zg 25 false (.mv 26 (.t 2))<|
 Zg 25 false (.call (some 27) false (.c (.fn 6 [] [])) [.t 26])<|
 Zg 25 false (.un 28 .not (.t 27))<|
 Zo (.pick 29 (.t 25) (.c (.bool true)) (.t 28))<|
 Zm 30 29<|
 Zg 30 false (.mv 31 (.t 0))<|
 Zg 30 false (.len 32 (.t 31))<|
 Zg 30 false (.bin 33 .eql false (.t 32) (.c (Zz 0)))<|
 Zo (.pick 34 (.t 30) (.c (.bool true)) (.t 33)) .nil)<| .cond (.t 34) (Zr (Zq 35 false 7 []<|
 Zm 6 35 .nil) .ret) .skip)<|Zr (Zo (.bs 36 4 39 [])<|
 Zm 37 0<|
 Zo (.app 38 4 80 39 (.t 36) (.t 37))<|
 Zm 7 38 .nil)<|Zr (Zm 39 7<|
 Zm 40 1<|
 Zo (.bs 41 1 35 [.t 40])<|
 Zm 42 0<|
 Zo (.idx 43 4 (.t 42) (.c (Zz 0)))<|
 Zf 44 0 43<|
 Zl 45 1 44<|
 Zo (.app 46 1 24 35 (.t 41) (.t 45))<|
 .wk<|Zo (.idx 47 4 (.t 39) (.c (Zz 0)))<|
 Zf 48 0 47<|
 Zs 1 48 46 .nil)<|Zr (Zm 49 7<|
 Zo (.bs 50 1 3 [.c (Zz 0)])<|
 Zm 51 0<|
 Zo (.idx 52 4 (.t 51) (.c (Zz 0)))<|
 Zf 53 1 52<|
 Zl 54 1 53<|
 Zo (.app 55 1 8 3 (.t 50) (.t 54))<|
 .wk<|Zo (.idx 56 4 (.t 49) (.c (Zz 0)))<|
 Zf 57 1 56<|
 Zs 1 57 55 .nil)<|Zr (Zm 59 0<|
 Zm 60 2<|
 Zq 61 false 8 [.t 59,.t 60]<|
 Zm 58 61<|
 Zo (.ext 62 (.t 58) 0)<|
 Zo (.ext 63 (.t 58) 1)<|
 Zm 8 62<|
 Zm 9 63 .nil)<|Zr (Zm 65 7<|
 Zm 66 2<|
 Zq 67 false 8 [.t 65,.t 66]<|
 Zm 64 67<|
 Zo (.ext 68 (.t 64) 0)<|
 Zo (.ext 69 (.t 64) 1)<|
 Zm 10 68<|
 Zm 11 69 .nil)<|Zr (Zm 70 0<|
 Zq 71 false 11 [.t 70]<|
 Zm 72 7<|
 Zq 73 false 11 [.t 72]<|
 Zq 74 false 10 [.t 71,.t 73]<|
 Zm 75 74<|
 Zg 75 true (.mv 76 (.t 8))<|
 Zg 75 true (.mv 77 (.t 10))<|
 Zg 75 true (.bin 78 .eql true (.t 76) (.t 77))<|
 Zo (.pick 79 (.t 75) (.t 78) (.c (.bool false)))<|
 Zm 80 79<|
 Zg 80 true (.mv 81 (.t 9))<|
 Zg 80 true (.mv 82 (.t 11))<|
 Zg 80 true (.bin 83 .eql false (.t 81) (.t 82))<|
 Zo (.pick 84 (.t 80) (.t 83) (.c (.bool false)))<|
 Zm 85 84<|
 Zg 85 true (.call (some 86) false (.c (.fn 7 [] [])) [])<|
 Zo (.pick 87 (.t 85) (.t 86) (.c (.bool false)))<|
 Zm 6 87 .nil) .ret⟩
theorem Qaiu:Qe Tryz.prog Tryz.f4=some c4.strip:=by kernel_rfl
theorem Qms{l:List Qb9}{q:List RTm}{x:List RQ}{k:Nat}(hb:∀c∈l,RC k c)(hg0:(∀t∈q,RB k t)/\q.length<2^40)(hq:∀q∈x,Raw k q.n q.a q.d)(hk1:1<=k)(hk:k<2^36)(hl:l.length<2^40)(hxl:x.length<2^40):
  Qd Tryz.prog 4 [PV.rcerts l,PV.rpoly q,PV.rqs x] (· = .bool true):=by
 have hfa:=Qyt hb hk1 hk hl
 have hmi:=Qyv hq hk hxl
 refine Qt6 Ql Tryz.func4 rfl Qaiu (by simp[c4]) fun C hP=> ?_;simp only[c4,Zo,Zg,Zm,Zc,Zf,Zl,Zh,Zs,Zi,Zb,Zk,Zn,Zu,Zq,Zr,Zz]
 simp+decide (disch:=first|exact D0|fail) only[go_sem,↓reduceIte]
 refine Qa hP hfa rfl rfl rfl ?_
 cases h1:Qkn l
 ·simp+decide (disch:=first|exact D0|fail) only[go_sem,↓reduceIte]
  refine Qa hP Qeg rfl rfl rfl ?_
  simp+decide (disch:=first|exact D0|fail) only[go_sem,↓reduceIte]
  refine Qhl (Wk.refl _ _) ?_
  simp+decide (disch:=first|exact D0|fail) only[go_sem,↓reduceIte]
  exact Qc rfl rfl
 obtain⟨e1,hg',h3⟩:=Q1u hb h1
 have hg:=fun c hc=>(hg' c hc).1
 simp+decide (disch:=first|exact D0|fail) only[go_sem,↓reduceIte]
 refine Qa hP (Qln hg0.1 hk1 hk hg0.2) rfl rfl rfl ?_
 cases h4:Qgg q
 ·simp+decide (disch:=first|exact D0|fail) only[go_sem,↓reduceIte]
  refine Qa hP Qeg rfl rfl rfl ?_
  simp+decide (disch:=first|exact D0|fail) only[go_sem,↓reduceIte]
  refine Qhl (Wk.refl _ _) ?_
  simp+decide (disch:=first|exact D0|fail) only[go_sem,↓reduceIte]
  exact Qc rfl rfl
 obtain⟨e4,q4⟩:=Qn2 hg0.1 h4
 rw[e4]
 generalize q.map RTm.tm=Q at *
 have hQl:=q4.l
 simp+decide (disch:=first|exact D0|fail) only[go_sem,↓reduceIte]
 refine Qv (fun h5=> ?_) (fun h5=> ?_)
 ·simp+decide (disch:=first|exact D0|fail) only[go_sem,↓reduceIte]
  refine Qa hP Qeg rfl rfl rfl ?_
  simp+decide (disch:=first|exact D0|fail) only[go_sem,↓reduceIte]
  refine Qhl (Wk.refl _ _) ?_
  simp+decide (disch:=first|exact D0|fail) only[go_sem,↓reduceIte]
  exact Qc rfl rfl
 have hQ:Q≠[]:=fun e=>by rw[e]at h5;simp at h5
 simp+decide (disch:=first|exact D0|fail) only[go_sem,↓reduceIte]
 refine Qa hP hmi rfl rfl rfl ?_
 cases h2:Qiz x
 ·simp+decide (disch:=first|exact D0|fail) only[go_sem,↓reduceIte]
  refine Qa hP Qeg rfl rfl rfl ?_
  simp+decide (disch:=first|exact D0|fail) only[go_sem,↓reduceIte]
  refine Qhl (Wk.refl _ _) ?_
  simp+decide (disch:=first|exact D0|fail) only[go_sem,↓reduceIte]
  exact Qc rfl rfl
 obtain⟨e2,hv,hvl⟩:=Qacu hq h2
 rw[e1,e2]
 have hll:l.length=(l.map crt).length:=by simp
 generalize l.map crt=L at *
 generalize x.map rqV=V at *
 simp+decide (disch:=first|exact D0|fail) only[go_sem,↓reduceIte]
 refine Qb (fun h6=> ?_) (fun h6=> ?_)
 ·simp+decide (disch:=first|exact D0|fail) only[go_sem,↓reduceIte]
  refine Qa hP Qeg rfl rfl rfl ?_
  simp+decide (disch:=first|exact D0|fail) only[go_sem,↓reduceIte]
  refine Qhl (Wk.refl _ _) ?_
  simp+decide (disch:=first|exact D0|fail) only[go_sem,↓reduceIte]
  exact Qc rfl rfl
 have hL0:0<L.length:=by omega
 have hc:=hg _ (List.getElem_mem hL0)
 have hcf4:=(hg' _ (List.getElem_mem hL0)).2
 have hcl:=hc.l
 have hcf:=hc.fl
 generalize hx:L[0]=c at *
 simp+decide (disch:=first|exact D0|fail) only[go_sem,↓reduceIte]
 rw[Qsg rfl (by simp) (by omega)]
 simp+decide (disch:=first|exact D0|fail) only[go_sem,↓reduceIte]
 rw[Qcd (n:=0) (f:=PV.crt) (xs:=[]) (ys:=L) Tr0 rfl (by omega) (by simp;omega) (by simp;omega)]
 simp+decide (disch:=first|omega|rfl|(simp+decide only[go_sem,↓reduceIte,List.nil_append,hx]<;>rfl)|fail) only[go_sem,↓reduceIte,List.nil_append,hx]
 obtain⟨l2,hl2⟩:∃l2,l2=Q::c.fs:=⟨_,rfl⟩
 have ht:List.take (1+c.fs.length) (PV.poly Q::List.map PV.poly c.fs)=l2.map PV.poly:=by
  rw[List.take_of_length_le (by simp;omega),hl2];rfl
 obtain⟨p2,hp2⟩:∃p2,p2=0::c.ps:=⟨_,rfl⟩
 have hu:List.take (1+c.ps.length) (PV.int .i64 0::Qjm c.ps)=Qjm p2:=by
  rw[List.take_of_length_le (by simp;omega),hp2];rfl
 have hL1:0<(L.set 0 ⟨l2,c.ps,c.n,c.cs⟩).length:=by rw[List.length_set];exact hL0
 have hx1:(L.set 0 ⟨l2,c.ps,c.n,c.cs⟩)[0]=⟨l2,c.ps,c.n,c.cs⟩:=List.getElem_set_self ..
 rw[Qcd (n:=1) (f:=PV.poly) (xs:=[Q]) (ys:=c.fs) Tr0 rfl (by omega) (by omega) (by omega)]
 simp+decide (disch:=first|exact D0|fail) only[go_sem,↓reduceIte]
 refine Qf6 (Qdm 46 U0) ?_
 simp+decide (disch:=first|exact E1 ht|fail) only[go_sem,↓reduceIte,Qz,List.contains_cons,List.contains_nil,List.flatMap_cons,List.flatMap_nil,List.append_nil,ht]
 rw[Qxk (ty:=39) (xs:=L.map PV.crt) (fz:=false) U0 (by omega)]
 simp+decide (disch:=first|exact E0|fail) only[go_sem,↓reduceIte,Qz,List.contains_cons,List.contains_nil,List.flatMap_cons,List.flatMap_nil,List.append_nil]
 rw[Qais hL0 hx]
 simp+decide (disch:=first|exact E1 hx|fail) only[go_sem,↓reduceIte,Qz,List.contains_cons,List.contains_nil,List.flatMap_cons,List.flatMap_nil,List.append_nil,hx]
 rw[Qcd (n:=1) (f:=fun(x:Int)=>PV.int .i64 x) (xs:=[0]) (ys:=c.ps) Tr0 rfl (by omega) (by omega) (by omega)]
 simp+decide (disch:=first|exact D0|fail) only[go_sem,↓reduceIte]
 refine Qf6 (Qdm 55 U0) ?_
 simp+decide (disch:=first|exact E1 hu|fail) only[go_sem,↓reduceIte,Qz,List.contains_cons,List.contains_nil,List.flatMap_cons,List.flatMap_nil,List.append_nil,hu]
 rw[Qxk (ty:=39) (xs:=(L.set 0 ⟨l2,c.ps,c.n,c.cs⟩).map PV.crt) (fz:=false) U0 (by omega)]
 simp+decide (disch:=first|exact E0|fail) only[go_sem,↓reduceIte,Qz,List.contains_cons,List.contains_nil,List.flatMap_cons,List.flatMap_nil,List.append_nil]
 rw[Qait hL1 hx1]
 rw[List.set_set]
 have hmg:∀d∈L.set 0 ⟨l2,p2,c.n,c.cs⟩,Qi0 d:=fun d hd=>by
  rcases List.mem_or_eq_of_mem_set hd with h|rfl
  ·exact hg d h
  ·refine⟨by rw[hl2,hp2];simp[hcl],fun f hf=> ?_,by rw[hl2];simpa using hcf4⟩
   rw[hl2]at hf
   rcases List.mem_cons.1 hf with rfl|hf
   ·exact⟨q4,hQ⟩
   ·exact hc.f f hf
 have hfe:Qcg (L.set 0 ⟨l2,p2,c.n,c.cs⟩)=Qcg L:=by
  subst hl2
  subst hp2
  cases L with
  |nil=>rfl
  |cons d T=>
   obtain rfl:d=c:=hx
   show Qcg (_::T)=Qcg (d::T)
   unfold Qcg Qrr
   simp only[List.foldl_cons,List.zip_cons_cons]
   rw[show Qs2 [] (Q,0)=[]from rfl]
 have hml:(L.set 0 ⟨l2,p2,c.n,c.cs⟩).length=L.length:=List.length_set
 have m1:=Qg9 hg (by omega) hv hvl
 have m2:=Qg9 hmg (by omega) hv hvl
 have f1:=Qf0 hg (by omega)
 have f2:=Qf0 hmg (by omega)
 have hp:=Qacw hg (by omega)
 have sl:=Q1p hp hp
 rw[decide_eq_true rfl]at sl
 rw[hfe]at m2 f2
 generalize Qg8 V (Qcg L) true=r at *
 generalize L.set 0 ⟨l2,p2,c.n,c.cs⟩=M at *
 have hsn:List.take L.length (M.map PV.crt)=M.map PV.crt:=List.take_of_length_le (by simp;omega)
 obtain⟨b,z⟩:=r
 simp+decide (disch:=first|exact E0|fail) only[go_sem,↓reduceIte,Qz,List.contains_cons,List.contains_nil,List.flatMap_cons,List.flatMap_nil,List.append_nil]
 refine Qa hP m1 rfl rfl rfl ?_
 simp+decide (disch:=first|exact E0|fail) only[go_sem,↓reduceIte,Qz,List.contains_cons,List.contains_nil,List.flatMap_cons,List.flatMap_nil,List.append_nil]
 refine Qc2 hP m2 (Ur1 hsn) rfl ?_
 simp+decide (disch:=first|exact E0|fail) only[go_sem,↓reduceIte,Qz,List.contains_cons,List.contains_nil,List.flatMap_cons,List.flatMap_nil,List.append_nil]
 refine Qa hP f1 rfl rfl rfl ?_
 simp+decide (disch:=first|exact E0|fail) only[go_sem,↓reduceIte,Qz,List.contains_cons,List.contains_nil,List.flatMap_cons,List.flatMap_nil,List.append_nil]
 refine Qc2 hP f2 (Ur1 hsn) rfl ?_
 simp+decide (disch:=first|exact E0|fail) only[go_sem,↓reduceIte,Qz,List.contains_cons,List.contains_nil,List.flatMap_cons,List.flatMap_nil,List.append_nil]
 refine Qa hP sl rfl rfl rfl ?_
 cases b
 all_goals
  simp+decide (disch:=first|omega|rfl|(simp+decide only[go_sem,↓reduceIte,beq_self_eq_true]<;>rfl)|fail) only[go_sem,↓reduceIte,beq_self_eq_true]
  refine Qa hP Qeg rfl rfl rfl ?_
  simp+decide (disch:=first|exact D0|fail) only[go_sem,↓reduceIte]
  refine Qhl (Wk.refl _ _) ?_
  simp+decide (disch:=first|exact D0|fail) only[go_sem,↓reduceIte]
  exact Qc rfl rfl
end Go.Proofs.YtdacdnoebgcjhaaGreat
namespace Go.Proofs.YtdacdnoebgcjhaaGreat
open Go Go.FW Go.ChangeShapes Go.WideShapes Go.ChangeAt Go.RowKit
set_option linter.unusedSimpArgs false
set_option linter.unusedVariables false
set_option maxRecDepth 100000
variable {H : Type} {enc : TypeId × Value -> H}
def Qxo(l:List Qb9):Prop:=l.length<=1048576/\∀c∈l,Quy c
instance : Inhabited Qb9 := ⟨⟨[], [], 0, []⟩⟩
theorem Qru:Tryz.prog.cellsOf 39=4:=by kernel_rfl
theorem Q9b:Rd enc 22 fun ps=>∃l:List Qb9,ps=[PV.rcerts l]/\Qxo l:=by
 refine(Qeb (α:=Qb9) (f:=PV.rcert) (G:=Quy) Qa9 Tryz.underlying22 (by rw[Qru];omega) Qact).mono ?_
 rintro ps ⟨l,rfl,h1,h2⟩
 exact⟨l,by rw[Qru],h1,h2⟩
variable {w : World} {base : Nat} {spare : Nat -> Bool} {held : Bool} {r : Reach} {b0 : Nat} {v : Value} {d : DataW H} {ps : List MemPlace}
theorem Q43(Qch:Value.okWide Tryz.prog w r b0 22 v)(hd:DataW.Trod enc Tryz.prog w base spare held 22 v d ps)(hn:Rows.uptoBulk d<=1048576):∃l,Qae w Qa6 (PV.rcerts l) v/\Qxo l:=by
 obtain⟨p,⟨l,e,h⟩,h2⟩:=Qnm Tryz.underlying22 Qch Q9b hd hn
 obtain rfl:p=PV.rcerts l:=by simpa using e
 exact⟨l,h2,h⟩
theorem Qm0{l:List Qb9}{q:List RTm}{x:List RQ}(hc:Qxo l)(hq:Qrc q)(hx:Q1e x):Qd Tryz.prog 4 [PV.rcerts l,PV.rpoly q,PV.rqs x] (· = .bool true):=
 Qms (k:=1048576) (fun c h=>Qaim (hc.2 c h)) ⟨fun t ht=>(hq.2 t ht).1,by have:=hq.1;omega⟩ hx.2 (by omega) (by omega) (by have:=hc.1;omega) (by have:=hx.1;omega)
end Go.Proofs.YtdacdnoebgcjhaaGreat
namespace Go.Proofs.YtdacdnoebgcjhaaGreat
open Go Go.FW Go.ChangeShapes Go.WideShapes Go.ChangeAt Go.RowKit
set_option linter.unusedSimpArgs false
set_option linter.unusedVariables false
set_option maxRecDepth 100000
theorem Qjx(H:Type)(enc:TypeId×Value->H)(W:World)(base:Nat)(args:Array Value)(ds gs:List (DataW H))(before:List MemPlace)
  (Qch:∀(j:Nat) t v,Tryz.f4.params[j]? =some t->args[j]? =some v->Value.okWide Tryz.prog W .any base t v)
  (hW:DataW.Whole enc Tryz.prog Tryz.f4.params.toList Rows.certcheckPowersSpec.vars false W args.toList ds gs before) (hk:Rows.uptoSmall H (ds++gs)=true):
  Calls Tryz.prog 4 args W fun e W'=>∃v,e= .returned v/\Rows.certcheckPowersSpec.post enc Tryz.prog Tryz.f4 false true false false W args v W':=by
 have hW':=hW
 obtain⟨p,q,hA0,hV,rfl,hfz,hnd⟩:=hW
 have hA:DataW.TrodAll enc Tryz.prog W 0 (fun _=>true) true Tryz.f4.params.toList args.toList ds p:=hA0
 rw[Tryz.params4]at hA Qch
 obtain⟨v0,vs0,e0,ds0,p0,q0,hargs,rfl,rfl,h0,r0⟩:=trodAll_cons hA
 obtain⟨v1,vs1,e1,ds1,p1,q1,rfl,rfl,rfl,h1,r1⟩:=trodAll_cons r0
 obtain⟨v2,vs2,e2,ds2,p2,q2,rfl,rfl,rfl,h2,r2⟩:=trodAll_cons r1
 obtain⟨rfl,rfl,rfl⟩:=trodAll_nil r2
 obtain rfl:args= #[v0,v1,v2]:=by cases args;simp_all
 obtain⟨rfl,rfl⟩:=trodVars_none hV
 have hb:=Q73 hk
 simp only[List.append_nil,Rows.uptoBulkAll]at hb
 obtain⟨a0,g0,b0⟩:=Q43 (Qch 0 _ v0 rfl rfl) h0 (by omega)
 obtain⟨a1,g1,b1⟩:=Q74 (Qch 1 _ v1 rfl rfl) h1 (by omega)
 obtain⟨a2,g2,b2⟩:=Q75 (Qch 2 _ v2 rfl rfl) h2 (by omega)
 exact Q39 hW' rfl (by kernel_rfl) (by kernel_rfl) rfl (Qm0 b0 b1 b2) rfl
  (Q76 (vs:=[v0,v1,v2]) (by
   intro i x hx v hv
   match i,hx,hv with
   |0,hx,hv=>simp at hx hv;subst hx hv;exact g0
   |1,hx,hv=>simp at hx hv;subst hx hv;exact g1
   |2,hx,hv=>simp at hx hv;subst hx hv;exact g2
   |i+3,hx,hv=>simp at hx) rfl)
theorem Qk3(os:Os)(started:os.Started)(H:Type)(enc:TypeId×Value->H)(F:Stop.Interp):
  ReturnsInHanded {} Tryz.checked os 4 .any ((Rows.OpenSpec.upto Rows.certcheckPowersSpec).pre6 enc Tryz.prog Tryz.f4 Rows.certcheckPowersUptoRow.domain false) (((Rows.OpenSpec.upto Rows.certcheckPowersSpec).at F).post enc Tryz.prog Tryz.f4 false true false false):=by
 refine returnsInHanded_of_cond (C:=Tryz.checked) (s:=Rows.OpenSpec.upto Rows.certcheckPowersSpec) (k:=Rows.uptoSmall) rfl own started (by kernel_rfl) Tryz.func4
  (OpenSpec.witness (enc:=enc) (C:=Tryz.checked) (s:=Rows.OpenSpec.upto Rows.certcheckPowersSpec) (k:=Rows.uptoSmall) rfl false ⟨#[],#[.slice none 0 0,.slice none 0 0,.slice none 0 0],[]⟩ 8 (by kernel_rfl) (by kernel_rfl) (by kernel_rfl)
   (x:=([.nil,.nil,.nil],[],[])) (by kernel_rfl) rfl (by kernel_rfl)) ?_
 intro W base args ds gs before Qch hW _ hk _
 exact Qjx H enc W base args ds gs before Qch hW hk
theorem certcheckPowers_proved:Rows.CertcheckPowersUptoSaid:=
 OpenClaim.holds_of_cond 4 Tryz.f4 rfl rfl rfl rfl rfl rfl rfl ⟨rfl,rfl,rfl,rfl,rfl⟩ rfl rfl rfl rfl rfl (by kernel_rfl) Tryz.func4 (by kernel_rfl)
  (of_decide_eq_true (by kernel_rfl)) (by unfold Func.isWrapper;first|(rw[if_pos (by decide+kernel)];kernel_rfl)|(rw[if_neg (by decide+kernel)];exact⟨rfl,rfl⟩))
  (fun os started H enc _ F=>Qk3 os started H enc F)
end Go.Proofs.YtdacdnoebgcjhaaGreat
