/- Part 11 of the proof of MatrixSolves: Y1, Y2, B3, FwUE, FwVD. Own lemmas; no conditions. -/
import Derived.Test.YtkoclfmjlolkhaaGreatMatrixSolvesPart10
set_option linter.unusedSimpArgs false
set_option linter.unusedVariables false
set_option linter.unnecessarySimpa false
set_option maxRecDepth 100000
namespace Go.Proofs.YtkoclfmjlolkhaaGreat
open Go Go.FW
theorem Q9a{l:List Rat}{R m:Nat}(hl:l.length=R*m)(hR:0<R)(hR2:R<=40)(hm:m<=40):
  Qbr Tryz.prog 59 [PV.mat R m l] (fun _=> .undef) hp0 (fun r F H=>r= .nso 4000018 0 R/\F 4000018= .nst 4000018 1 22 (Qx (rws 5000000 R fun _=>m))/\H 4000018=some ⟨1,22,[],false⟩/\
   ∀i,i<R->H (5000000+i)=some ⟨3,51,Qh PV.rat (Q3 l m i) m,false⟩):=by
 refine Qdb Qt Tryz.func59 rfl Q38 (by simp[c59]) fun C hP=> ?_;simp only[c59,Zo,Zg,Zm,Zc,Zf,Zl,Zh,Zs,Zi,Zb,Zk,Zn,Zu,Zq,Zr,Zz]
 simp+decide (disch:=try exact D0) only[go_sem]
 refine Qat (by repeat (first|exact Qw|exact Qo|exact Qp|exact Qq|exact Qr|apply Qn|apply Qv|apply Qz|apply Q6|apply Q7|apply Qk|apply Qu)) [(3,18),(4000017,4000018)] [12,16,17,18] (fun n J hp=>∃i,n=R-i/\i<=R/\J 4= .int .i64 (i:Nat)/\((i=0/\J 3= .nilS)∨(0<i/\J 3= .nso 4000018 0 i/\J 4000018= .nst 4000018 1 22 (Qx (rws 5000000 i fun _=>m))/\hp 4000018=some ⟨1,22,[],false⟩))/\
   hp 1=some ⟨3,24,[PV.mat R m l],false⟩/\(∀j,j<i->hp (5000000+j)=some ⟨3,51,Qh PV.rat (Q3 l m j) m,false⟩)/\∀j,i<=j->hp (5000000+j)=none) R ?_ ?_
 ·refine⟨0,rfl,by omega,?_⟩
  simp+decide (disch:=try exact D0) only[go_sem]
  exact⟨rfl,(fun j hj=>by omega),fun j hj=>trivial⟩
 rintro _ J h ⟨i,rfl,hi,h4,hJ,h1,hrow,hno⟩
 simp+decide (disch:=try exact D2 h4 h1) only[go_sem,h4,h1]
 refine Qb (fun hc=> ?_) (fun hc=> ?_)
 ·have hi':i<R:=by omega
  have hfr:=hno i (Nat.le_refl _)
  have c1:=Q39 hl hi' hR2 hm
  have hml:((List.range m).map (Q3 l m i)).length=m:=by simp
  rw[Qfe]at c1
  simp+decide (disch:=try exact D2 h4 h1) only[go_sem,h4,h1]
  rw[bs0 (by omega)]
  simp+decide (disch:=try exact D2 h4 h1) only[go_sem,h4,h1]
  refine Qa hP c1 rfl rfl rfl ?_
  simp+decide (disch:=try exact D2 h4 h1) only[go_sem,h4,h1]
  rw[Qi7 (n:=0) (f:=PV.rat) (xs:=[]) (ys:=(List.range m).map (Q3 l m i)) T0 rfl (by omega) (by omega) (by omega)]
  simp+decide (disch:=try exact D2 h4 h1) only[go_sem,h4,h1]
  refine Qch (Qiy 12 (5000000+i) (T1 hfr) (by omega) rfl (by omega)) ?_
  simp+decide (disch:=try exact D2 h4 h1) only[go_sem,h4,h1]
  rw[Qagq (γ:=4000017) (by omega) rfl]
  have hmv:∀L:Nat->Nat,rnP (mvN 12 (5000000+i)) (.nst 4000018 1 22 (Qx (rws 5000000 i L)))= .nst 4000018 1 22 (Qx (rws 5000000 i L)):=fun L=>Q88 (by omega) fun x hx=>by obtain⟨j,hj,rfl⟩:=Qoz hx;show 5000000+j≠12;omega
  have htk:∀L:Nat->Nat,Qav 4000017 (.nst 4000018 1 22 (Qx (rws 5000000 i L)))= .nst 4000018 1 22 (Qx (rws 5000000 i L)):=fun L=>Q0q (by omega) fun x hx=>by obtain⟨j,hj,rfl⟩:=Qoz hx;show 5000000+j≠4000017;omega
  have hlr:(List.range m).length=m:=List.length_range
  have hsu:rws 5000000 (i+1) (fun _=>m)=rws 5000000 i (fun _=>m)++[(5000000+i,m)]:=by
   unfold rws
   rw[List.range_succ,List.map_append];rfl
  have hfin1:∀j,j<i+1->(if j=i then some ⟨3,51,List.map PV.rat (List.map (Q3 l m i) (List.range m)),false⟩else h (5000000+j))=some ⟨3,51,Qh PV.rat (Q3 l m j) m,false⟩:=fun j hj=>by
   by_cases e:j=i
   ·subst e;rw[if_pos rfl,Qfe]
   ·rw[if_neg e];exact hrow j (by omega)
  have hfin2:∀j,i+1<=j->(if j=i then some (⟨3,51,List.map PV.rat (List.map (Q3 l m i) (List.range m)),false⟩:HB)else h (5000000+j))=none:=fun j hj=>by
   rw[if_neg (by omega)];exact hno j (by omega)
  rcases hJ with⟨i0,h3⟩|⟨h0,h3,hg,hh⟩
  ·simp+decide (disch:=try exact D3 h3 h4 h1) only[go_sem,h3,h4,h1]
   rw[Q86 (δ:=4000017) (γ:=4000018) (β:=5000000+i) (m:=m) (ty':=22) (T1 hlr) (by omega) rfl (by omega)]
   simp+decide (disch:=try exact D3 h3 h4 h1) only[go_sem,h3,h4,h1]
   refine Qak (R-(i+1)) (by omega) ⟨i+1,rfl,by omega,?_⟩
   simp+decide (disch:=try exact D3 h3 h4 h1) only[go_sem,h3,h4,h1]
   refine⟨.inr ⟨by omega,by rw[i0],by rw[hsu,i0];rfl⟩,hfin1,hfin2⟩
  ·simp+decide (disch:=try exact D6 h3 h4 h1 hg hh hmv) only[go_sem,h3,h4,h1,hg,hh,hmv]
   rw[Qadl (δ:=4000017) (γ:=4000018) (β:=5000000+i) (m:=m) (ty':=22) (L:=rws 5000000 i fun _=>m) (e0:=1) (ty0:=22) (xs0:=[]) (T1 hlr) (by omega) (T3 hg hmv htk) (by omega) (by omega) (T1 hh) (Qhg _ _ _).symm (fun x hx=>by obtain⟨j,hj,rfl⟩:=Qoz hx;show 5000000<=5000000+j;omega) (by omega) (by omega)]
   simp+decide (disch:=try exact D6 h3 h4 h1 hg hh hmv) only[go_sem,h3,h4,h1,hg,hh,hmv]
   refine Qak (R-(i+1)) (by omega) ⟨i+1,rfl,by omega,?_⟩
   simp+decide (disch:=try exact D3 h3 h4 h1) only[go_sem,h3,h4,h1]
   refine⟨.inr (by rw[hsu]),hfin1,hfin2⟩
 ·obtain rfl:i=R:=by omega
  rcases hJ with⟨i0,h3⟩|⟨h0,h3,hg,hh⟩
  ·omega
  simp+decide (disch:=try exact D3 h3 hg hh) only[go_sem,h3,hg,hh]
  refine Qmv ?_
  simp+decide (disch:=try exact D3 h3 hg hh) only[go_sem,h3,hg,hh]
  exact hrow
def Qhm(R w:Nat)(M:MF)(hp:HP):HP:=fun x=>if x=4000018 then some ⟨1,22,[],false⟩else if 5000000<=x/\x<5000000+R then some ⟨3,51,Qh PV.rat (M (x-5000000)) w,false⟩else hp x
def Qk6(R:Nat)(x:Nat):Bool:=decide (x=4000018∨(5000000<=x/\x<5000000+R))
theorem Qrj{R x:Nat}(h:Qk6 R x=true):x=4000018∨(5000000<=x/\x<5000000+R):=of_decide_eq_true h
theorem Qagr{R x:Nat}(h:Qk6 R x=false):¬(x=4000018∨(5000000<=x/\x<5000000+R)):=of_decide_eq_false h
theorem Qo0{R x:Nat}(h:x<4000018):Qk6 R x=false:=decide_eq_false (by omega)
theorem Qrk{R:Nat}:Qk6 R 4000018=true:=decide_eq_true (.inl rfl)
theorem Qrl{R w r:Nat}{M:MF}{hp:HP}(h:r<R):Qhm R w M hp (5000000+r)=some ⟨3,51,Qh PV.rat (M r) w,false⟩:=by
 unfold Qhm
 rw[if_neg (by omega),if_pos ⟨by omega,by omega⟩,Nat.add_sub_cancel_left]
theorem Qwm{R w:Nat}{M:MF}{hp:HP}:Qhm R w M hp 4000018=some ⟨1,22,[],false⟩:=by unfold Qhm;rw[if_pos rfl]
theorem Qkk{R w x:Nat}{M:MF}{hp:HP}(h:x<4000018):Qhm R w M hp x=hp x:=by
 unfold Qhm
 rw[if_neg (by omega),if_neg (by omega)]
theorem Q0r{R w:Nat}{π:Nat->Nat}(hπ:∀r,r<R->π r<R){β ty:Nat}(h:β∈(PV.nst 4000018 1 ty (Qx (Qas 5000000 R w π))).refs++(PV.nst 4000018 1 ty (Qx (Qas 5000000 R w π))).sref):Qk6 R β=true:=by
 refine decide_eq_true ?_
 simp only[PV.refs,PV.sref,List.nil_append,List.mem_cons]at h
 rcases h with rfl|h
 ·exact .inl rfl
 ·obtain⟨r,hr,rfl⟩:=Qmz β h
  have:=hπ r hr
  exact .inr ⟨by omega,by omega⟩
theorem Q0s{C:Ctx}{pr:Bool}{K:Qf}{fr:Fr}{hp:HP}{d:Nat}{l:List Rat}{R m:Nat}(hP:C.P=Tryz.prog)(hl:l.length=R*m)(hR:0<R)(hR2:R<=40)(hm:m<=40)(hd:d≠4000018)(hfree:∀x,Qk6 R x=true->hp x=none)
  (hK:K (upd (upd fr d (.nso 4000018 0 R)) 4000018 (.nst 4000018 1 22 (Qx (Qas 5000000 R m id)))) (Qhm R m (Q3 l m) hp)):Qcj C pr (.fn 59 [] []) [PV.mat R m l] (some d) fr hp K:=by
 refine Qnz hP (Q9a hl hR hR2 hm) (fun _=>false) (Qk6 R) [4000018] (fun x h=>by cases h) (fun x=>rfl) rfl (by simp) (fun x hx γ e ty xs e2=> ?_) (fun γ hγ=> ?_) (fun s _=> .inl rfl) (fun x hx=> ?_) (fun _ _=>rfl) (fun r F H hpost=> ?_)
 ·rw[List.mem_singleton.1 hx]at e2;cases e2
 ·simp[PV.refs,PV.sref]at hγ
 ·have:=Qrj hx;exact⟨.inl (hfree x hx),by omega⟩
 ·obtain⟨rfl,h1,h2,h3⟩:=hpost
  rw[Qra]at h1
  have hr:∀β∈(F 4000018).refs++(F 4000018).sref,Qk6 R β=true:=fun β hβ=>by
   rw[h1]at hβ;exact Q0r (fun r h=>h) hβ
  refine⟨fun x hx=> ?_,(fun γ e ty xs h=>by cases h),fun β hβ=> ?_,fun s hs=> ?_,?_⟩
  ·rcases Qrj hx with rfl|⟨k1,k2⟩
   ·rw[h2];simp
   ·have:=h3 (x-5000000) (by omega)
    rw[show 5000000+(x-5000000)=x by omega]at this
    rw[this];simp
  ·simp[PV.refs,PV.sref]at hβ;subst hβ;exact decide_eq_true (.inl rfl)
  ·rw[List.mem_singleton.1 hs]
   exact⟨by omega,⟨_,_,_,_,h1,Qmy _⟩,hr⟩
  ·have e1:exF [4000018] F (Qbp (Qdd (fun _=>false) fr) (some d) (.nso 4000018 0 R))=upd (upd fr d (.nso 4000018 0 R)) 4000018 (.nst 4000018 1 22 (Qx (Qas 5000000 R m id))):=by
    funext s
    have hdie:Qdd (fun _=>false) fr=fr:=by
     funext t;simp[Qdd,Qmx]
    rw[hdie]
    by_cases e:s=4000018
    ·subst e;simp[exF,upd,h1]
    ·simp[exF,upd,Qbp,e]
   have e2:exH (fun _=>false) (Qk6 R) H hp=Qhm R m (Q3 l m) hp:=by
    funext x
    unfold exH Qhm
    cases hq:Qk6 R x with
    | true=>
     rw[if_pos rfl]
     rcases Qrj hq with rfl|⟨k1,k2⟩
     ·rw[h2,if_pos rfl]
     ·have:=h3 (x-5000000) (by omega)
      rw[show 5000000+(x-5000000)=x by omega]at this
      rw[this,if_neg (by omega),if_pos ⟨k1,k2⟩]
    |false=>
     have:=Qagr hq
     rw[if_neg (by simp),if_neg (by simp),if_neg (by omega),if_neg (by omega)]
   rw[e1,e2]
   exact hK
def c16:SFn:=⟨81,[.t 2,.t 3],Zr (Zo (.box 1 3 24 (.t 0))<|
 Zo (.mv 2 (.c .nilS))<|
 Zc 3 0 .nil)<| .seq (Zr (Zh 12 3 1<|
 Zq 13 false 57 [.t 12]<|
 Zu 14 13 .nil)<| .cond (.t 14) (Zr (Zo (.mv 2 (.c .nilS))<|
 Zc 3 1 .nil) .ret) .skip)<|Zr (Zh 16 3 1<|
 Zf 18 1 1<|
 Zl 19 1 18<|
 Zq 17 true 59 [.t 16]<|
 Zq 20 false 60 [.t 17,.t 19]<|
 Zm 15 20<|
 Zo (.ext 21 (.t 15) 0)<|
 Zo (.ext 22 (.t 15) 1)<|
 Zm 4 21<|
 Zm 5 22 .nil)<|Zr (Zo (.mv 6 (.c .nilS)) .nil)<| .seq (Zr (Zc 7 0 .nil)<| .block 0<| .loop<| .seq (Zr (Zm 23 7<|
 Zf 24 1 1<|
 Zl 25 1 24<|
 Zb 26 .lss 23 25 .nil)<| .cond (.t 26) .skip (.exit 0))<| .seq (.block 1<|Zr (Zo (.mv 8 (.c (.bool true))) .nil)<|Zr (Zf 29 1 1<|
 Zl 30 1 29<|
 Zo (.mk 31 3 56 51 (.agg [.bool false,.nilS,.nilS]) (.t 30) (.t 30))<|
 Zm 9 31 .nil)<| .seq (Zr (Zc 10 0 .nil)<| .block 2<| .loop<| .seq (Zr (Zm 32 10<|
 Zf 33 1 1<|
 Zl 34 1 33<|
 Zb 35 .lss 32 34 .nil)<| .cond (.t 35) .skip (.exit 2))<| .seq (.block 3<| .rg (Zm 38 9<|
 Zm 39 10<|
 Zq 40 false 50 [.c (Zz 0)]<|
 Zi 41 3 38 39<|
 Zs 3 41 40 .nil))<| .rg (Zm 36 10<|
 Zk 37 .add 36 1<|
 Zm 10 37 .nil))<|Zr (Zm 42 9<|
 Zm 43 7<|
 Zq 44 false 50 [.c (Zz 1)]<|
 Zi 45 3 42 43<|
 Zs 3 45 44 .nil)<| .seq (Zr (Zc 11 0 .nil)<| .block 4<| .loop<| .seq (Zr (Zm 46 11<|
 Zm 47 5<|
 Zn 48 47<|
 Zb 49 .lss 46 48 .nil)<| .cond (.t 49) .skip (.exit 4))<| .seq (.block 5<|Zr (Zm 52 8<|
 Zm 53 52<|
 Zg 53 true (.mv 54 (.t 5))<|
 Zg 53 true (.mv 55 (.t 11))<|
 Zg 53 true (.idx 56 1 (.t 54) (.t 55))<|
 Zg 53 true (.ld 57 1 false (.t 56))<|
 Zg 53 true (.mv 58 (.t 7))<|
 Zg 53 true (.bin 59 .neq false (.t 57) (.t 58))<|
 Zo (.pick 60 (.t 53) (.t 59) (.c (.bool false)))<|
 Zm 8 60 .nil)<| .rg (Zm 61 9<|
 Zm 62 5<|
 Zm 63 11<|
 Zi 64 1 62 63<|
 Zl 65 1 64<|
 Zm 66 4<|
 Zm 67 11<|
 Zi 68 1 66 67<|
 Zl 69 1 68<|
 Zm 70 7<|
 Zi 71 3 69 70<|
 Zh 72 3 71<|
 Zq 73 true 63 [.t 72]<|
 Zi 74 3 61 65<|
 Zs 3 74 73 .nil))<| .rg (Zm 50 11<|
 Zk 51 .add 50 1<|
 Zm 11 51 .nil))<|Zr (Zm 75 8 .nil)<| .cond (.t 75) (.rg (Zm 76 6<|
 Zm 77 9<|
 Zo (.bs 78 1 22 [.t 77])<|
 Zo (.app 79 1 24 22 (.t 76) (.t 78))<|
 Zm 6 79 .nil)) .skip)<| .rg (Zm 27 7<|
 Zk 28 .add 27 1<|
 Zm 7 28 .nil))<|Zr (Zm 80 6<|
 Zm 2 80<|
 Zc 3 0 .nil) .ret⟩
theorem Q4a:Qe Tryz.prog Tryz.f16=some c16:=by kernel_rfl
theorem Qk7{R m:Nat}{l:List Rat}(hl:l.length=R*m)(hR:R<=40)(hm:m<=40)(hs:∀q∈l,rs q<=1048576):Qd Tryz.prog 57 [PV.mat R m l] (· = .bool true):=by
 have hRm:R*m<=40*40:=Nat.mul_le_mul hR hm
 have h:=Qm3 (r:=(R:Int)) (c:=(m:Int)) (l:=l.map qR) ⟨by rw[List.length_map];omega,RRk.of hs⟩
 rw[<-Qv6,Qn0 hl hR hm]at h
 exact h
end Go.Proofs.YtkoclfmjlolkhaaGreat
namespace Go.FW
open Go
theorem Qags(x y:Int)(hy:y≠0):rs ((x:Rat)/(y:Rat))<=max (nl x.natAbs) (max (nl y.natAbs) 1):=by
 rw[<-Qrg x y hy]
 have:=Qmk (zv (decide (x<0) !=decide (y<0)) (dig x.natAbs)) y.natAbs
 rwa[Qbe,Q5]at this
theorem Qwn(q:Rat)(h:q≠0):rs q⁻¹ <=rs q:=by
 have hn:q.num≠0:=fun e=>h (Rat.num_eq_zero.1 e)
 have e:q⁻¹ =(((q.den:Int):Int):Rat)/((q.num:Int):Rat):=by
  have d1:q=(q.num:Rat)/((q.den:Int):Rat):=by
   conv=>lhs;rw[<-Rat.mkRat_self q]
   rw[Rat.mkRat_eq_div,Rat.intCast_natCast]
  have k1:((q.den:Int):Rat)≠0:=by rw[Ne,Rat.intCast_eq_zero_iff];have:=q.den_nz;omega
  have k3:((q.num:Int):Rat)≠0:=by rw[Ne,Rat.intCast_eq_zero_iff];exact hn
  generalize(q.num:Rat)=A at *
  generalize((q.den:Int):Rat)=D at *
  rw[d1]
  grind
 have h2:=Qags (q.den:Int) q.num hn
 have h3:=Qvi q
 rw[e]
 unfold rs at h3⊢
 unfold rs at h2
 rw[Int.natAbs_natCast]at h2
 have h4:1<=nl q.den:=by
  have:=q.den_nz
  apply Decidable.byContradiction;intro hc
  exact this (Qiv.1 (by omega))
 omega
theorem Qagt{a b:Rat}(h:b≠0):rs (a/b)<=rs a+rs b:=by
 rw[Rat.div_def]
 have:=Qf2 a b⁻¹
 have:=Qwn b h
 omega
theorem Qagu(a b:Rat):rs (a-b)<=rs a+rs b+1:=by
 rw[Rat.sub_eq_add_neg]
 have:=Q2o a (-b)
 rw[Qlp]at this
 exact this
theorem Qadr{R w B:Nat}{E:Ech}{k:Nat}(hk:k<w)(hB:1<=B)(hM:MBd B R w E.M)(hd:rs E.det<=B)(hm:E.piv.length<=R):MBd (5*B) R w (Qdm R E k).M/\rs (Qdm R E k).det<=5*B:=by
 unfold Qdm
 split
 ·exact⟨fun r hr c hc=>by have:=hM r hr c hc;omega,by omega⟩
 ·rename_i hp
  have h1:=Qsl E.M k (R-E.piv.length) E.piv.length
  obtain⟨i,hi⟩:∃i,Qfs E.M R k E.piv.length=i:=⟨_,rfl⟩
  have hi1:E.piv.length<=i/\i<=R:=by
   rw[<-hi];unfold Qfs;omega
  rw[hi]at hp⊢
  have hiR:i<R:=by omega
  have hp0:E.M i k≠0:=by
   have:=Qyh E.M k (R-E.piv.length) E.piv.length (by unfold Qfs at hi;rw[hi];omega)
   unfold Qfs at hi
   rwa[hi]at this
  have hpk:=hM i hiR k hk
  generalize hmm:E.piv.length=m at *
  have hmR:m<R:=by omega
  have hS:∀r,r<R->∀c,c<w->rs (Qb4 E.M i m r c)<=B:=fun r hr c hc=>by
   unfold Qb4
   split
   ·exact hM i hiR c hc
   ·split
    ·exact hM m hmR c hc
    ·exact hM r hr c hc
  have hN:∀r,r<R->∀c,c<w->rs (Qek (Qb4 E.M i m) m (E.M i k) r c)<=2*B:=fun r hr c hc=>by
   unfold Qek
   split
   ·have:=hS m hmR c hc
    have:=Qagt (a:=Qb4 E.M i m m c) hp0
    omega
   ·have:=hS r hr c hc;omega
  have hN1:∀r,r<R->r≠m->∀c,c<w->rs (Qek (Qb4 E.M i m) m (E.M i k) r c)<=B:=fun r hr hne c hc=>by
   unfold Qek
   rw[if_neg hne];exact hS r hr c hc
  refine⟨fun r hr c hc=> ?_,?_⟩
  ·show rs (Qh6 (Qek (Qb4 E.M i m) m (E.M i k)) m k r c)<=5*B
   unfold Qh6
   split
   ·have:=hN m hmR c hc;omega
   ·rename_i hne
    have a1:=hN1 r hr hne c hc
    have a2:=hN1 r hr hne k hk
    have a3:=hN m hmR c hc
    generalize Qek (Qb4 E.M i m) m (E.M i k)=N at *
    have a4:=Qf2 (N r k) (N m c)
    have a5:=Qagu (N r c) (N r k*N m c)
    omega
  ·show rs ((if i=m then E.det else -E.det)*E.M i k)<=5*B
   have hdd:rs (if i=m then E.det else -E.det)<=B:=by
    split
    ·exact hd
    ·rw[Qlp];exact hd
   have:=Qf2 (if i=m then E.det else -E.det) (E.M i k)
   omega
theorem Qyq{R w b:Nat}{M:MF}(hb:1<=b)(hM:MBd b R w M):∀k,k<=w->∃s,s<=k/\s<=R/\MBd (b*5^s) R w (Qaf R M k).M/\rs (Qaf R M k).det<=b*5^s/\(Qaf R M k).piv.length=s
 | 0,_=>⟨0,Nat.le_refl _,Nat.zero_le _,by rw[Nat.pow_zero,Nat.mul_one];exact hM,by
   have:=Qse
   show rs 1<=b*5^0
   omega,rfl⟩
 | k+1,h=>by
  obtain⟨s,h1,h2,h3,h4,h5⟩:=Qyq hb hM k (by omega)
  have hpos:1<=b*5^s:=Nat.mul_pos hb (Nat.pow_pos (by omega))
  have hpl:=(Qdn R M (k+1)).2.1
  show ∃s,s<=k+1/\s<=R/\MBd (b*5^s) R w (Qdm R (Qaf R M k) k).M/\rs (Qdm R (Qaf R M k) k).det<=b*5^s/\(Qdm R (Qaf R M k) k).piv.length=s
  have hpl:(Qdm R (Qaf R M k) k).piv.length<=R:=hpl
  have hst:=Qadr (k:=k) (by omega) hpos h3 h4 (by omega)
  by_cases hp:Qfs (Qaf R M k).M R k (Qaf R M k).piv.length=R
  ·have e:Qdm R (Qaf R M k) k=Qaf R M k:=by unfold Qdm;rw[if_pos hp]
   rw[e];exact⟨s,by omega,h2,h3,h4,h5⟩
  ·have hl:(Qdm R (Qaf R M k) k).piv.length=s+1:=by
    unfold Qdm;rw[if_neg hp];simp[h5]
   have hm:b*5^(s+1)=5*(b*5^s):=by rw[Nat.pow_succ];simp only[Nat.mul_comm,Nat.mul_left_comm]
   exact⟨s+1,by omega,by omega,by rw[hm];exact hst.1,by rw[hm];exact hst.2,hl⟩
theorem Qo1{R w n b:Nat}{M:MF}(hb:1<=b)(hM:MBd b R w M)(hn:n<=w)(h5:R<=5∨n<=5):Qhh (b*3125) R w n M:=fun k hk=>by
 obtain⟨s,h1,h2,h3,h4,_⟩:=Qyq hb hM k (by omega)
 have hs:s<=5:=by omega
 have hp:5^s<=5^5:=Nat.pow_le_pow_right (by omega) hs
 have hm:b*5^s<=b*3125:=Nat.mul_le_mul_left _ hp
 exact⟨fun r hr c hc=>Nat.le_trans (h3 r hr c hc) hm,Nat.le_trans h4 hm⟩
end Go.FW
