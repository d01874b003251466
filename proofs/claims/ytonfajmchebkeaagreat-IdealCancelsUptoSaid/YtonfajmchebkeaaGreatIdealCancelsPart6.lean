/- Part 6 of the proof of IdealCancels: FwUD, FwUE, FwUF, FwUI, FwUJ, FwWA, FwWB, FwWC, FwWD, FwUH, FwUK, FwWE. Own lemmas; no conditions. -/
import Derived.Test.YtonfajmchebkeaaGreatIdealCancelsPart5
set_option linter.unusedSimpArgs false
set_option linter.unnecessarySimpa false
set_option linter.unusedVariables false
namespace Go.FW
open Go
def Qea(a b:List Int):Bool:=(List.range a.length).all fun i=>decide (eN a i<=eN b i)
theorem Qoe{k:Nat}{a b:List Int}(hb:MB k b):Qea a b=true↔∀i,eN a i<=eN b i:=by
 unfold Qea
 rw[List.all_eq_true]
 constructor
 ·intro h i
  by_cases hi:i<a.length
  ·exact of_decide_eq_true (h i (List.mem_range.2 hi))
  ·rw[Qcs (by omega)];exact(hb.eN i).1
 ·intro h i _
  exact decide_eq_true (h i)
theorem Qtx{a b:List Int}{i:Nat}(hi:i<a.length)(h:¬eN a i<=eN b i):Qea a b=false:=by
 unfold Qea
 rw[List.all_eq_false]
 exact⟨i,List.mem_range.2 hi,by simpa using h⟩
theorem Qwk{a b:List Int}(h:∀i,i<a.length->eN a i<=eN b i):Qea a b=true:=by
 unfold Qea
 rw[List.all_eq_true]
 intro i hi
 exact decide_eq_true (h i (List.mem_range.1 hi))
def Qbt(a b:List Int):List Int:=Qc1 (Qe3 (· - ·) a b)
theorem Qqg(a b:List Int)(i:Nat):eN (Qbt a b) i=eN a i-eN b i:=by rw[Qbt,Qik,Quw (by simp)]
theorem Qlu(a b:List Int):(Qbt a b).getLast? ≠some 0:=Qh1 _
theorem Qajf{k:Nat}{a b:List Int}{l:Nat}(ha:MB k a)(hb:MB l b)(h:Qea b a=true):MB k (Qbt a b):=by
 have hd:=(Qoe ha).1 h
 have hl:(Qbt a b).length<=64:=by
  have h1:=Qfc (Qe3 (· - ·) a b)
  rw[Qbr]at h1
  have:=ha.len
  have:=hb.len
  unfold Qbt;omega
 have key:∀x∈Qbt a b,∃i,x=eN a i-eN b i:=fun x hx=>by
  obtain⟨i,hi,rfl⟩:=List.getElem_of_mem hx
  exact⟨i,by rw[<-Qqg,Qce hi]⟩
 refine⟨hl,fun x hx=> ?_,fun x hx=> ?_⟩
 all_goals
  obtain⟨i,rfl⟩:=key x hx
  have:=hd i
  have:=ha.eN i
  have:=hb.eN i
  omega
theorem Qha{k l:Nat}{a b:List Int}(ha:MB k a)(hb:MB l b)(hl:a.getLast? ≠some 0)(h:Qea b a=true):Qao (Qbt a b) b=a:=
 Qga (Qgb _ _) hl fun i=>by rw[Qd5,Qqg];omega
theorem Qty(x y:Int)(hy:y≠0):mkRat (zv (decide (x<0) !=decide (y<0)) (dig x.natAbs)) y.natAbs=(x:Rat)/(y:Rat):=by
 rw[Rat.mkRat_eq_div,Qh0,<-Rat.intCast_natCast]
 have h3:(y:Rat)≠0:=by rw[Ne,Rat.intCast_eq_zero_iff];exact hy
 by_cases hy0:y<0
 ·have e2:(((y.natAbs:Nat):Int):Rat)= -(y:Rat):=by rw[<-Rat.intCast_neg];congr 1;omega
  have e1:(if(decide (x<0) !=decide (y<0))=true then -(x.natAbs:Int)else x.natAbs)= -x:=by
   by_cases hx:x<0<;>simp[hx,hy0]<;>omega
  rw[e1,e2,Rat.intCast_neg]
  grind
 ·have e2:(((y.natAbs:Nat):Int):Rat)=(y:Rat):=by congr 1;omega
  have e1:(if(decide (x<0) !=decide (y<0))=true then -(x.natAbs:Int)else x.natAbs)=x:=by
   by_cases hx:x<0<;>simp[hx,hy0]<;>omega
  rw[e1,e2]
theorem Qam6{n m:Bool}{a d b c:List Nat}(hd:val d≠0)(hc:val c≠0)(hb:zv m b≠0):((zv n a*(val c:Int):Int):Rat)/((zv m b*(val d:Int):Int):Rat)=rv n a d/rv m b c:=by
 have h1:((val d:Int):Rat)≠0:=by rw[Ne,Rat.intCast_eq_zero_iff];omega
 have h2:((val c:Int):Rat)≠0:=by rw[Ne,Rat.intCast_eq_zero_iff];omega
 have h3:((zv m b:Int):Rat)≠0:=by rw[Ne,Rat.intCast_eq_zero_iff];exact hb
 unfold rv
 rw[Rat.mkRat_eq_div,Rat.mkRat_eq_div,Rat.intCast_mul,Rat.intCast_mul]
 rw[<-Rat.intCast_natCast,<-Rat.intCast_natCast]
 grind
end Go.FW
namespace Go.FW
open Go
theorem Qz2(x y:Int)(hy:y≠0):rs ((x:Rat)/(y:Rat))<=max (nl x.natAbs) (max (nl y.natAbs) 1):=by
 rw[<-Qty x y hy]
 have:=Qnr (zv (decide (x<0) !=decide (y<0)) (dig x.natAbs)) y.natAbs
 rwa[Qbd,Q6]at this
theorem Q7y(q:Rat)(h:q≠0):rs q⁻¹ <=rs q:=by
 have hn:q.num≠0:=fun e=>h (Rat.num_eq_zero.1 e)
 have e:q⁻¹ =(((q.den:Int):Int):Rat)/((q.num:Int):Rat):=by
  have d1:q=(q.num:Rat)/((q.den:Int):Rat):=by
   conv=>lhs;rw[<-Rat.mkRat_self q]
   rw[Rat.mkRat_eq_div,Rat.intCast_natCast]
  have k1:((q.den:Int):Rat)≠0:=by rw[Ne,Rat.intCast_eq_zero_iff];have:=q.den_nz;omega
  have k3:((q.num:Int):Rat)≠0:=by rw[Ne,Rat.intCast_eq_zero_iff];exact hn
  generalize(q.num:Rat)=A at *
  generalize((q.den:Int):Rat)=D at *
  rw[d1]
  grind
 have h2:=Qz2 (q.den:Int) q.num hn
 have h3:=Qyw q
 rw[e]
 unfold rs at h3⊢
 unfold rs at h2
 rw[Int.natAbs_natCast]at h2
 have h4:1<=nl q.den:=by
  have:=q.den_nz
  apply Decidable.byContradiction;intro hc
  exact this (Qgm.1 (by omega))
 omega
end Go.FW
namespace Go.FW
open Go
def hdT(p:List Tm):Tm:=p.headD (0,[])
theorem Qip{p:List Tm}(h:0<p.length):p[0]=hdT p:=by cases p with
 |nil=>simp at h
 |cons t p=>rfl
theorem Qat{p:List Tm}(h:p≠[]):hdT p∈p:=by cases p with
 |nil=>exact absurd rfl h
 |cons t p=>simp[hdT]
def exT(q p:List Tm):Tm:=((hdT p).1/(hdT q).1,Qbt (hdT p).2 (hdT q).2)
def exN(q p:List Tm):List Tm:=Qk2 p (Qag [exT q p] q)
def exP(q p:List Tm):Nat->List Tm
 |0=>p
 |k+1=>exN q (exP q p k)
def exQ(q p:List Tm):Nat->List Tm
 |0=>[]
 |k+1=>exQ q p k++[exT q (exP q p k)]
def Qeb(q p:List Tm):Prop:=p≠[]/\Qea (hdT q).2 (hdT p).2=true
def exR(q p:List Tm)(k:Nat):PV:=if exP q p k=[]then .tup [PV.poly (exQ q p k),.bool true]else .tup [PV.poly [],.bool false]
theorem Qmz(q p:List Tm):∀k,(exQ q p k).length=k
 |0=>rfl
 |k+1=>by rw[exQ,List.length_append,Qmz q p k];rfl
theorem Qj9{p:List Tm}(hs:Qbe p):∀t∈p,t=hdT p∨Qah t.2 (hdT p).2<0:=by
 cases p with
 |nil=>intro t ht;cases ht
 | cons x p=>
  intro t ht
  rcases List.mem_cons.1 ht with rfl|ht
  ·exact .inl rfl
  ·right
   have:=hs.1 t ht
   have e:=Qc8 x.2 t.2
   show Qah t.2 x.2<0
   omega
theorem Qu6{q p:List Tm}(np:Nrm p)(nq:Nrm q)(hp:p≠[])(hq:q≠[]):Nrm [exT q p]:=by
 refine Nrm.one ?_ (Qlu _ _)
 have h1:=np.z _ (Qat hp)
 have h2:=nq.z _ (Qat hq)
 show(hdT p).1/(hdT q).1≠0
 grind
theorem Qi2(t:Tm):Qbe [t]:=⟨by simp,trivial⟩
theorem Qm0{q p:List Tm}(np:Nrm p)(nq:Nrm q):Nrm (exN q p):=
 Qzj np (Qc2 (Qi2 _) nq.s)
theorem Qm1{q p:List Tm}(np:Nrm p)(nq:Nrm q):∀k,Nrm (exP q p k)
 |0=>np
 |k+1=>Qm0 (Qm1 np nq k) nq
theorem Qov{t:Tm}{q:List Tm}(φ:List Int->Rat):pev φ (Qag [t] q)=t.1*pev (fun m=>φ (Qao t.2 m)) q:=by
 rw[Qio,Qaq,Qcl,Rat.add_zero]
theorem Qz3{t x:Tm}{q:List Tm}(h:x∈Qag [t] q):∃s∈q,x.2=Qao t.2 s.2:=by
 obtain⟨a,ha,b,hb,e⟩:=Qr4 h
 obtain rfl:a=t:=by simpa using ha
 exact⟨b,hb,e⟩
theorem Qu7{q p:List Tm}(np:Nrm p)(nq:Nrm q)(φ:List Int->Rat):pev φ (exN q p)=pev φ p-(exT q p).1*pev (fun m=>φ (Qao (exT q p).2 m)) q:=by
 rw[exN,Qzi φ np.c (Qc2 (Qi2 _) nq.s),Qov]
theorem Qz4{q p:List Tm}{K E:Nat}(bp:PB K E p)(bq:PB K E q)(np:Nrm p)(nq:Nrm q)(hq:q≠[])(hg:Qeb q p):∀t∈exN q p,Qah t.2 (hdT p).2<0:=by
 intro t ht
 obtain⟨hp,hd⟩:=hg
 have hpm:=Qat hp
 have hqm:=Qat hq
 have hmul:Qao (exT q p).2 (hdT q).2=(hdT p).2:=Qha (bp _ hpm).m (bq _ hqm).m (bp _ hpm).l hd
 have nt:=Qu6 np nq hp hq
 have hnN:Nrm (exN q p):=Qm0 np nq
 have hle:t.2=(hdT p).2∨Qah t.2 (hdT p).2<0:=by
  rcases Qab2 (Qc2 nt.s nq.s).c ht with⟨s,hs,e⟩|⟨s,hs,e⟩
  ·rw[<-e]
   rcases Qj9 np.s s hs with rfl|h
   ·exact .inl rfl
   ·exact .inr h
  ·obtain⟨b,hb,e2⟩:=Qz3 hs
   rw[<-e,e2,<-hmul]
   rcases Qj9 nq.s b hb with rfl|h
   ·exact .inl rfl
   ·right;rw[Qd0 _ b.2,Qd0 _ (hdT q).2,Qk1];exact h
 rcases hle with he|h
 ·exfalso
  have h1:=Qu7 np nq (fun m=>if m=t.2 then 1 else 0)
  have h2:=Qg9 (φ:=fun m=>if m=t.2 then 1 else 0) hnN.s ht (fun s hs hne=>by
   rw[if_neg];intro e;exact hne (Qn8 hnN.s hs ht e))
  have h3:=Qg9 (φ:=fun m=>if m=t.2 then 1 else 0) np.s hpm (fun s hs hne=>by
   rw[if_neg];intro e;exact hne (Qn8 np.s hs hpm (e.trans he)))
  have h4:=Qg9 (φ:=fun m=>if Qao (exT q p).2 m=t.2 then 1 else 0) nq.s hqm (fun s hs hne=>by
   rw[if_neg];intro e
   rcases Qj9 nq.s s hs with h|h
   ·exact hne h
   ·rw[he,<-hmul]at e
    have:=Qk1 s.2 (hdT q).2 (exT q p).2
    rw[Qd0 s.2,Qd0 (hdT q).2,e,Qlp]at this
    omega)
  rw[h2,h3,h4]at h1
  rw[if_pos rfl,if_pos he.symm,if_pos (hmul.trans he.symm)]at h1
  have h5:t.1=0:=by
   have e:(exT q p).1*(hdT q).1=(hdT p).1:=by
    have:=nq.z _ hqm
    show(hdT p).1/(hdT q).1*(hdT q).1=_
    grind
   grind
  exact hnN.z t ht h5
 ·exact h
theorem Qam7{q p:List Tm}{K E:Nat}(bp:PB K E p)(bq:PB K E q)(np:Nrm p)(nq:Nrm q)(hq:q≠[])(hg:Qeb q p)(bn:PB K E (exN q p))(hg2:Qeb q (exN q p)):Qah (exT q (exN q p)).2 (exT q p).2<0:=by
 have h:=Qz4 bp bq np nq hq hg _ (Qat hg2.1)
 have e1:=Qha (bp _ (Qat hg.1)).m (bq _ (Qat hq)).m (bp _ (Qat hg.1)).l hg.2
 have e2:=Qha (bn _ (Qat hg2.1)).m (bq _ (Qat hq)).m (bn _ (Qat hg2.1)).l hg2.2
 rw[<-e1,<-e2,Qk1]at h
 exact h
theorem Qpr:∀ {l:List Tm} {t:Tm},Qbe l->(∀s∈l,0<Qah s.2 t.2)->Qbe (l++[t])
 | [],t,_,_=>⟨by simp,trivial⟩
 | x::l,t,h,ht=>⟨fun s hs=>by
   rcases List.mem_append.1 hs with hs|hs
   ·exact h.1 s hs
   ·obtain rfl:s=t:=by simpa using hs
    exact ht x (by simp),Qpr h.2 (fun s hs=>ht s (by simp[hs]))⟩
theorem Qqh{q p:List Tm}{K E k0:Nat}(bq:PB K E q)(np:Nrm p)(nq:Nrm q)(hq:q≠[])(hb:∀k,k<=k0->PB K E (exP q p k))(hgo:∀k,k<k0->Qeb q (exP q p k)):
  ∀k,k<=k0->Nrm (exQ q p k)/\∀j,k=j+1->∀s∈exQ q p k,s=exT q (exP q p j)∨0<Qah s.2 (exT q (exP q p j)).2
 |0,_=>⟨Nrm.nil,fun j h=>by omega⟩
 | k +1,h=>by
  obtain⟨h1,h2⟩:=Qqh bq np nq hq hb hgo k (by omega)
  have hlt:∀s∈exQ q p k,0<Qah s.2 (exT q (exP q p k)).2:=by
   intro s hs
   cases k with
   |zero=>cases hs
   | succ k=>
    have h3:=Qam7 (hb k (by omega)) bq (Qm1 np nq k) nq hq (hgo k (by omega)) (hb (k+1) (by omega)) (hgo (k+1) (by omega))
    have h3':Qah (exT q (exP q p (k+1))).2 (exT q (exP q p k)).2<0:=h3
    rcases h2 k rfl s hs with rfl|h4
    ·have e:=Qc8 (exT q (exP q p (k+1))).2 (exT q (exP q p k)).2
     omega
    ·have e:=Qc8 s.2 (exT q (exP q p k)).2
     have e2:=Qc8 (exT q (exP q p (k+1))).2 s.2
     have:=Qtc h3' (b:=(exT q (exP q p k)).2) (c:=s.2) (by omega)
     omega
  have hn:=Qu6 (Qm1 np nq k) nq (hgo k (by omega)).1 hq
  refine⟨⟨fun t ht=> ?_,fun t ht=> ?_,Qpr h1.s hlt⟩,fun j hj s hs=> ?_⟩
  ·rcases List.mem_append.1 ht with ht|ht
   ·exact h1.c t ht
   ·exact hn.c t ht
  ·rcases List.mem_append.1 ht with ht|ht
   ·exact h1.z t ht
   ·exact hn.z t ht
  ·obtain rfl:j=k:=by omega
   rcases List.mem_append.1 hs with hs|hs
   ·exact .inr (hlt s hs)
   ·exact .inl (by simpa using hs)
theorem Qadz{q p:List Tm}{k:Nat}(h:Nrm (exQ q p (k+1)))(h1:Nrm (exQ q p k))(h2:Nrm [exT q (exP q p k)]):Q3 (exQ q p k) [exT q (exP q p k)]=exQ q p (k+1):=
 Qhj (Qg8 h1 h2) h fun φ=>by rw[Qin h1.c h2.c,exQ,Qtj]
theorem Qz5{q p:List Tm}{K E:Nat}(bp:PB K E p)(bq:PB K E q)(nq:Nrm q)(hq:q≠[])(hg:Qeb q p):TB (K+K) E (exT q p):=by
 have h1:=bp _ (Qat hg.1)
 have h2:=bq _ (Qat hq)
 refine⟨?_,Qajf h1.m h2.m hg.2,Qlu _ _⟩
 have h3:=Qta (hdT p).1 (hdT q).1⁻¹
 have h4:=Q7y (hdT q).1 (nq.z _ (Qat hq))
 have c1:=h1.c
 have c2:=h2.c
 show rs ((hdT p).1/(hdT q).1)+1<=K+K
 rw[Rat.div_def]
 omega
end Go.FW
namespace Go.FW
open Go
def Qba(c:Rat):Rat:=if c<0 then -c else c
theorem Qbx(c:Rat):0<=Qba c:=by unfold Qba;grind
theorem Qz6(a b:Rat):Qba (a+b)<=Qba a+Qba b:=by unfold Qba;grind
theorem Qhb(a b:Rat):Qba (a*b)=Qba a*Qba b:=by
 have pos:∀x:Rat,0<=x->Qba x=x:=fun x h=>by unfold Qba;grind
 have neg:∀x:Rat,x<=0->Qba x= -x:=fun x h=>by unfold Qba;grind
 rcases Decidable.em (0<=a)with ha|ha<;>rcases Decidable.em (0<=b)with hb|hb
 ·rw[pos _ (Rat.mul_nonneg ha hb),pos _ ha,pos _ hb]
 ·have h:=Rat.mul_nonneg ha (show 0<= -b by grind)
  rw[neg (a*b) (by grind),pos _ ha,neg b (by grind)];grind
 ·have h:=Rat.mul_nonneg (show 0<= -a by grind) hb
  rw[neg (a*b) (by grind),neg a (by grind),pos _ hb];grind
 ·have h:=Rat.mul_nonneg (show 0<= -a by grind) (show 0<= -b by grind)
  rw[pos (a*b) (by grind),neg a (by grind),neg b (by grind)];grind
theorem Qiq(z:Int):Qba (z:Rat)=((z.natAbs:Nat):Rat):=by
 rw[<-Rat.intCast_natCast]
 unfold Qba
 split
 ·rename_i h
  have h':z<0:=by have:=(Rat.intCast_lt_intCast (a:=z) (b:=0)).1 (by simpa using h);exact this
  rw[<-Rat.intCast_neg];congr 1;omega
 ·rename_i h
  have h':¬z<0:=fun hz=>h (by have:=(Rat.intCast_lt_intCast (a:=z) (b:=0)).2 hz;simpa using this)
  congr 1;omega
def psi(m:List Int):Nat:=(eN m 3).toNat*729+(eN m 2).toNat*81+(eN m 1).toNat*9+(eN m 0).toNat
theorem Qm2{a b:List Int}(ha:∀i,0<=eN a i)(hb:∀i,0<=eN b i):psi (Qao a b)=psi a+psi b:=by
 have a0:=ha 0;have a1:=ha 1;have a2:=ha 2;have a3:=ha 3
 have b0:=hb 0;have b1:=hb 1;have b2:=hb 2;have b3:=hb 3
 simp only[psi,Qd5]
 omega
theorem Q2l:psi []=0:=rfl
theorem Qwl{a b:List Int}(h:Qah a b=0):psi a=psi b:=by
 have key:∀i,eN a i=eN b i:=fun i=>by
  by_cases hi:i<max a.length b.length
  ·exact(Qjf a b _).1 h i hi
  ·rw[Qcs (by omega),Qcs (by omega)]
 simp only[psi,key]
theorem cmp4{a b:List Int}(ha:a.length<=4)(hb:b.length<=4):Qah a b=Qcf a b 4:=(Qil (by omega)).symm
theorem Q2m{a b:List Int}(ha:a.length<=4)(hb:b.length<=4)(h:Qah a b<0):
  eN a 3<eN b 3∨(eN a 3=eN b 3/\(eN a 2<eN b 2∨(eN a 2=eN b 2/\(eN a 1<eN b 1∨(eN a 1=eN b 1/\eN a 0<eN b 0))))):=by
 rw[cmp4 ha hb]at h
 simp only[Qcf]at h
 have z3:=Qkg (x:=eN a 3) (y:=eN b 3)
 have z2:=Qkg (x:=eN a 2) (y:=eN b 2)
 have z1:=Qkg (x:=eN a 1) (y:=eN b 1)
 have z0:=Qkg (x:=eN a 0) (y:=eN b 0)
 by_cases e3:eN a 3=eN b 3
 ·rw[if_pos e3]at h
  refine .inr ⟨e3,?_⟩
  by_cases e2:eN a 2=eN b 2
  ·rw[if_pos e2]at h
   refine .inr ⟨e2,?_⟩
   by_cases e1:eN a 1=eN b 1
   ·rw[if_pos e1]at h
    refine .inr ⟨e1,?_⟩
    by_cases e0:eN a 0=eN b 0
    ·rw[if_pos e0]at h;omega
    ·rw[if_neg e0]at h;exact z0.1 h
   ·rw[if_neg e1]at h;exact .inl (z1.1 h)
  ·rw[if_neg e2]at h;exact .inl (z2.1 h)
 ·rw[if_neg e3]at h;exact .inl (z3.1 h)
theorem Qam8{a b:List Int}(ha:MB 8 a)(hb:MB 8 b)(la:a.length<=4)(lb:b.length<=4)(h:Qah a b<0):psi a<psi b:=by
 have a0:=ha.eN 0;have a1:=ha.eN 1;have a2:=ha.eN 2;have a3:=ha.eN 3
 have b0:=hb.eN 0;have b1:=hb.eN 1;have b2:=hb.eN 2;have b3:=hb.eN 3
 have:=Q2m la lb h
 simp only[psi]
 omega
def nW(W:Rat):List Tm->Rat
 | []=>0
 |t::p=>Qba t.1*W^psi t.2+nW W p
theorem Qhc(W:Rat)(m:Nat):∀n:Nat,W^(m+n)=W^m*W^n
 |0=>by rw[Nat.add_zero,Rat.pow_zero,Rat.mul_one]
 |n+1=>by rw[<-Nat.add_assoc,Rat.pow_succ,Qhc W m n,Rat.pow_succ,Rat.mul_assoc]
theorem Qes{W:Rat}(h:0<=W):∀n:Nat,0<=W^n
 |0=>by rw[Rat.pow_zero];decide
 |n+1=>by rw[Rat.pow_succ];exact Rat.mul_nonneg (Qes h n) h
theorem Qof{W:Rat}(h:1<=W):∀n:Nat,1<=W^n
 |0=>by rw[Rat.pow_zero];decide
 |n+1=>by
  rw[Rat.pow_succ]
  have h1:=Qof h n
  have:=Rat.mul_le_mul_of_nonneg_right h1 (show(0:Rat)<=W by grind)
  grind
theorem Qz7{W:Rat}(h:1<=W){m n:Nat}(hm:m<=n):W^m<=W^n:=by
 obtain⟨k,rfl⟩:∃k,n=m+k:=⟨n-m,by omega⟩
 rw[Qhc]
 have h1:=Qof h k
 have h2:=Qes (show(0:Rat)<=W by grind) m
 have:=Rat.mul_le_mul_of_nonneg_left h1 h2
 grind
theorem Qfv{W:Rat}(h:0<=W)(c:Rat)(m:List Int):0<=Qba c*W^psi m:=Rat.mul_nonneg (Qbx c) (Qes h _)
theorem Qwm{W:Rat}(h:0<=W):∀p,0<=nW W p
 | []=>by simp only[nW];decide
 |t::p=>by
  have h1:=Qfv h t.1 t.2
  have h2:=Qwm h p
  simp only[nW];grind
theorem Qajg{W:Rat}(h:0<=W)(p q:List Tm):nW W (Q3 p q)<=nW W p+nW W q:=by
 induction p,q using Q3.induct with
 |case1 q=>rw[Qdl];simp only[nW];grind
 |case2 p hp=>rw[Qb7];simp only[nW];grind
 |case3 c m p d l q h1 ih=>rw[Q3,if_pos h1];simp only[nW]at ih ⊢;grind
 |case4 c m p d l q h1 h2 ih=>rw[Q3,if_neg h1,if_pos h2];simp only[nW]at ih ⊢;grind
 |case5 c m p d l q h1 h2 h3 ih=>
  rw[Q3,if_neg h1,if_neg h2,if_pos h3]
  have g1:=Qfv h c m
  have g2:=Qfv h d l
  simp only[nW]at ih ⊢;grind
 |case6 c m p d l q h1 h2 h3 ih=>
  rw[Q3,if_neg h1,if_neg h2,if_neg h3]
  have e:psi m=psi l:=Qwl (by omega)
  have g:=Rat.mul_le_mul_of_nonneg_right (Qz6 c d) (Qes h (psi m))
  simp only[nW]at ih⊢
  rw[<-e]
  grind
def Pos(p:List Tm):Prop:=∀t∈p,∀i,0<=eN t.2 i
theorem Qps{W:Rat}(h:0<=W){t:Tm}(ht:∀i,0<=eN t.2 i):∀ {p:List Tm},Pos p->nW W (Q4 p t)<=Qba t.1*W^psi t.2*nW W p
 | [],_=>by simp only[Q4,List.filterMap_nil,nW];grind
 | x::p,hp=>by
  have ih:=Qps h ht (p:=p) (fun s hs=>hp s (by simp[hs]))
  have hx:=hp x (by simp)
  have e1:nW W (Q4 (x::p) t)<=Qba (x.1*t.1)*W^psi (Qao x.2 t.2)+nW W (Q4 p t):=by
   have g:=Qfv h (x.1*t.1) (Qao x.2 t.2)
   unfold Q4
   rw[List.filterMap_cons]
   by_cases hz:x.1*t.1=0
   ·rw[if_pos hz];grind
   ·rw[if_neg hz];simp only[nW];grind
  rw[Qm2 hx ht,Qhb,Qhc]at e1
  simp only[nW]
  grind
def IsI(c:Rat):Prop:=∃z:Int,c=(z:Rat)
theorem IsI.add{a b:Rat}:IsI a->IsI b->IsI (a+b):=fun⟨x,hx⟩ ⟨y,hy⟩=>⟨x+y,by rw[hx,hy,Rat.intCast_add]⟩
theorem IsI.mul{a b:Rat}:IsI a->IsI b->IsI (a*b):=fun⟨x,hx⟩ ⟨y,hy⟩=>⟨x*y,by rw[hx,hy,Rat.intCast_mul]⟩
theorem IsI.neg{a:Rat}:IsI a->IsI (-a):=fun⟨x,hx⟩=>⟨-x,by rw[hx,Rat.intCast_neg]⟩
theorem IsI.nat(n:Nat):IsI (n:Rat):=⟨n,(Rat.intCast_natCast n).symm⟩
theorem IsI.pow{a:Rat}(h:IsI a):∀n:Nat,IsI (a^n)
 |0=>⟨1,by rw[Rat.pow_zero];rfl⟩
 |n+1=>by rw[Rat.pow_succ];exact(IsI.pow h n).mul h
def IW(D F:Rat)(N:Nat)(p:List Tm):Prop:=∀t∈p,psi t.2<=N/\IsI (t.1*(D*F^(N-psi t.2)))
theorem IW.cons{D F:Rat}{N:Nat}{t:Tm}{p:List Tm}:IW D F N (t::p)↔(psi t.2<=N/\IsI (t.1*(D*F^(N-psi t.2))))/\IW D F N p:=by simp[IW]
theorem Qajh{D F:Rat}{N:Nat}(p q:List Tm):IW D F N p->IW D F N q->IW D F N (Q3 p q):=by
 induction p,q using Q3.induct with
 |case1 q=>intro _ h;rwa[Qdl]
 |case2 p hp=>intro h _;rwa[Qb7]
 |case3 c m p d l q h1 ih=>intro hp hq;rw[Q3,if_pos h1,IW.cons];rw[IW.cons]at hp;exact⟨hp.1,ih hp.2 hq⟩
 |case4 c m p d l q h1 h2 ih=>intro hp hq;rw[Q3,if_neg h1,if_pos h2,IW.cons];have hq':=IW.cons.1 hq;exact⟨hq'.1,ih hp hq'.2⟩
 |case5 c m p d l q h1 h2 h3 ih=>intro hp hq;rw[Q3,if_neg h1,if_neg h2,if_pos h3];exact ih (IW.cons.1 hp).2 (IW.cons.1 hq).2
 |case6 c m p d l q h1 h2 h3 ih=>
  intro hp hq
  rw[Q3,if_neg h1,if_neg h2,if_neg h3,IW.cons]
  have e:psi m=psi l:=Qwl (by omega)
  obtain⟨⟨a1,a2⟩,a3⟩:=IW.cons.1 hp
  obtain⟨⟨b1,b2⟩,b3⟩:=IW.cons.1 hq
  refine⟨⟨a1,?_⟩,ih a3 b3⟩
  simp only at a2 b2⊢
  rw[<-e]at b2
  rw[Rat.add_mul]
  exact a2.add b2
theorem Qwn{D F:Rat}{N:Nat}{t:Tm}{p:List Tm}(h:∀s∈p,psi (Qao s.2 t.2)<=N/\IsI (s.1*t.1*(D*F^(N-psi (Qao s.2 t.2))))):IW D F N (Q4 p t):=by
 intro x hx
 simp only[Q4,List.mem_filterMap]at hx
 obtain⟨s,hs,e⟩:=hx
 split at e
 ·cases e
 ·obtain rfl:(s.1*t.1,Qao s.2 t.2)=x:=by simpa using e
  exact h s hs
theorem Qu8(t:Tm)(q:List Tm):Qag [t] q=Q4 q t:=by
 unfold Qag
 split
 ·rename_i h
  have:q=[]:=by simpa using h
  subst this
  simp[Qf0,Qa8,Q4]
 ·simp[Qf0,Qa8]
theorem Q4o(p:List Tm):Ql3 p=Q4 p (-1,[]):=by rw[Ql3,Qar,if_neg (by decide)]
theorem Qad0{x y:Tm}{p q:List Tm}{K E:Nat}(bp:PB K E (x::p))(bq:PB K E (y::q))(np:Nrm (x::p))(nq:Nrm (y::q))(hd:Qea y.2 x.2=true):
  exN (y::q) (x::p)=Qk2 p (Qag [(x.1/y.1,Qbt x.2 y.2)] q):=by
 have hy:=nq.z y (by simp)
 have hm:Qao (Qbt x.2 y.2) y.2=x.2:=Qha (bp x (by simp)).m (bq y (by simp)).m (bp x (by simp)).l hd
 have nT:Nrm (Qag [(x.1/y.1,Qbt x.2 y.2)] q):=Qc2 (Qi2 _) nq.tail.s
 refine Qhj (Qm0 np nq) (Qzj np.tail nT) fun φ=> ?_
 rw[Qu7 np nq,Qzi φ np.tail.c nT,Qov]
 show pev φ (x::p)-x.1/y.1*pev (fun m=>φ (Qao (Qbt x.2 y.2) m)) (y::q)=pev φ p-x.1/y.1*pev (fun m=>φ (Qao (Qbt x.2 y.2) m)) q
 rw[Qaq,Qaq,hm]
 generalize φ x.2=a
 generalize pev φ p=b
 generalize pev (fun m=>φ (Qao (Qbt x.2 y.2) m)) q=c
 grind
structure QOk(F W:Rat)(y:Tm)(q:List Tm):Prop where
 w:1<=W
 f:IsI F
 lt:∀s∈q,psi s.2<psi y.2
 i:∀s∈q,IsI (s.1/y.1*F)
 n:nW W q<=Qba y.1*W^psi y.2
 pos:Pos (y::q)
 ml:ML 4 (y::q)
theorem Qz8{k l:Nat}{a b:List Int}(ha:MB k a)(hb:MB l b)(h:Qea b a=true):∀i,0<=eN (Qbt a b) i:=fun i=>by
 rw[Qqg];have:=(Qoe ha).1 h i;omega
theorem Qam9{D F W:Rat}{N:Nat}{x y:Tm}{p q:List Tm}{K E:Nat}(hQ:QOk F W y q)(bp:PB K E (x::p))(bq:PB K E (y::q))(np:Nrm (x::p))(nq:Nrm (y::q))(hd:Qea y.2 x.2=true)
  (hI:IW D F N (x::p)) (hP:Pos (x::p)) (hM:ML 4 (x::p)):
  IW D F N (exN (y::q) (x::p))/\nW W (exN (y::q) (x::p))<=nW W (x::p)/\Pos (exN (y::q) (x::p))/\ML 4 (exN (y::q) (x::p)):=by
 have hW0:0<=W:=by have:=hQ.w;grind
 have hy0:=nq.z y (by simp)
 have hxm:=(bp x (by simp)).m
 have hym:=(bq y (by simp)).m
 have hm:Qao (Qbt x.2 y.2) y.2=x.2:=Qha hxm hym (bp x (by simp)).l hd
 have htp:=Qz8 hxm hym hd
 have hpsi:psi x.2=psi (Qbt x.2 y.2)+psi y.2:=by
  conv=>lhs;rw[<-hm]
  exact Qm2 htp (hQ.pos y (by simp))
 have hql:(Qbt x.2 y.2).length<=4:=by
  have h1:=Qfc (Qe3 (· - ·) x.2 y.2)
  rw[Qbr]at h1
  have:=hM x (by simp)
  have:=hQ.ml y (by simp)
  unfold Qbt;omega
 have hqP:Pos q:=fun s hs=>hQ.pos s (by simp[hs])
 obtain⟨⟨i1,i2⟩,i3⟩:=IW.cons.1 hI
 have hn1:∀i,0<=eN ((-1:Rat),([]:List Int)).2 i:=fun i=>by rw[Qpd];omega
 have posT:Pos (Q4 q (x.1/y.1,Qbt x.2 y.2)):=fun t ht i=>by
  obtain⟨s,hs,e⟩:=Qgp ht
  rw[e,Qd5]
  have:=hqP s hs i
  have:=htp i
  simp only;omega
 rw[Qad0 bp bq np nq hd,Qk2,Qu8,Q4o]
 refine⟨?_,?_,?_,?_⟩
 ·refine Qajh _ _ i3 (Qwn fun u hu=> ?_)
  obtain⟨a1,a2⟩:=(Qwn (D:=D) (F:=F) (N:=N) (t:=(x.1/y.1,Qbt x.2 y.2)) (p:=q) fun s hs=>by
   have hlt:=hQ.lt s hs
   have e:=Qm2 (hqP s hs) htp
   refine⟨by simp only;omega,?_⟩
   simp only
   rw[e,show N-(psi s.2+psi (Qbt x.2 y.2))=(N-psi x.2)+(1+(psi y.2-psi s.2-1))by omega,Qhc,Qhc,show F^1=F by rw[Rat.pow_succ,Rat.pow_zero,Rat.one_mul]]
   have:=(i2.mul (hQ.i s hs)).mul (hQ.f.pow (psi y.2-psi s.2-1))
   have e2:s.1*(x.1/y.1)*(D*(F^(N-psi x.2)*(F*F^(psi y.2-psi s.2-1))))=x.1*(D*F^(N-psi x.2))*(s.1/y.1*F)*F^(psi y.2-psi s.2-1):=by
    generalize F^(N-psi x.2)=A
    generalize F^(psi y.2-psi s.2-1)=B
    grind
   rw[e2];exact this) u hu
  have e:=Qm2 (posT u hu) hn1
  rw[Q2l,Nat.add_zero]at e
  rw[e]
  refine⟨a1,?_⟩
  have:=a2.neg
  have e2:u.1* -1*(D*F^(N-psi u.2))= -(u.1*(D*F^(N-psi u.2))):=by grind
  rw[e2];exact this
 ·have h1:=Qajg hW0 p (Q4 (Q4 q (x.1/y.1,Qbt x.2 y.2)) (-1,[]))
  have h2:=Qps hW0 (t:=(-1,[])) hn1 posT
  have h3:=Qps hW0 (t:=(x.1/y.1,Qbt x.2 y.2)) htp hqP
  have h4:Qba (-1)*W^psi ([]:List Int)=1:=by rw[Q2l,Rat.pow_zero];decide+kernel
  simp only at h2 h3
  rw[h4,Rat.one_mul]at h2
  have h5:=Rat.mul_le_mul_of_nonneg_left hQ.n (Rat.mul_nonneg (Qbx (x.1/y.1)) (Qes hW0 (psi (Qbt x.2 y.2))))
  have h6:Qba (x.1/y.1)*W^psi (Qbt x.2 y.2)*(Qba y.1*W^psi y.2)=Qba x.1*W^psi x.2:=by
   rw[hpsi,Qhc]
   have:Qba x.1=Qba (x.1/y.1)*Qba y.1:=by rw[<-Qhb];congr 1;grind
   rw[this]
   grind
  rw[h6]at h5
  simp only[nW]
  grind
 ·intro t ht i
  rcases Qgd ht with h|⟨s,hs,e⟩
  ·obtain⟨s,hs,e⟩:=h
   rw[<-e];exact hP s (by simp[hs]) i
  ·obtain⟨u,hu,e2⟩:=Qgp hs
   rw[<-e,e2,Qd5,Qpd]
   have:=posT u hu i
   omega
 ·intro t ht
  rcases Qgd ht with h|⟨s,hs,e⟩
  ·obtain⟨s,hs,e⟩:=h
   rw[<-e];exact hM s (by simp[hs])
  ·obtain⟨u,hu,e2⟩:=Qgp hs
   obtain⟨r,hr,e3⟩:=Qgp hu
   rw[<-e,e2]
   have l1:=Qr3 u.2 ((-1:Rat),([]:List Int)).2
   have l2:=Qr3 r.2 (x.1/y.1,Qbt x.2 y.2).2
   rw[e3]at l1⊢
   have:=hQ.ml r (by simp[hr])
   simp only[List.length_nil]at l1 l2⊢
   omega
end Go.FW
namespace Go.FW
open Go
def c4(m:List Int):Nat:=(((eN m 3).toNat*81+(eN m 2).toNat)*729+(eN m 1).toNat)*6561+(eN m 0).toNat
theorem Qaeq{a b:List Int}(ha:∀i,0<=eN a i)(hb:∀i,0<=eN b i)(la:a.length<=4)(lb:b.length<=4)(pa:psi a<=6560)(pb:psi b<=6560)(h:Qah a b<0):c4 a<c4 b:=by
 have a0:=ha 0;have a1:=ha 1;have a2:=ha 2;have a3:=ha 3
 have b0:=hb 0;have b1:=hb 1;have b2:=hb 2;have b3:=hb 3
 have:=Q2m la lb h
 simp only[psi]at pa pb
 simp only[c4,Zo,Zg,Zm,Zc,Zf,Zl,Zh,Zs,Zi,Zb,Zk,Zn,Zu,Zq,Zr,Zz]
 omega
theorem Q4p{a:List Int}(pa:psi a<=6560):c4 a<2^32:=by
 simp only[psi]at pa
 simp only[c4,Zo,Zg,Zm,Zc,Zf,Zl,Zh,Zs,Zi,Zb,Zk,Zn,Zu,Zq,Zr,Zz]
 omega
structure ExI(D F W N0:Rat)(p:List Tm):Prop where
 i:IW D F 6560 p
 n:nW W p<=N0
 pos:Pos p
 ml:ML 4 p
 nrm:Nrm p
theorem Qtz{p:List Tm}:(∀t∈p,psi t.2<=6560)->Pos p->ML 4 p->Qbe p->p≠[]->p.length<=c4 (hdT p).2+1:=by
 induction p with
 |nil=>intro _ _ _ _ h;exact absurd rfl h
 | cons t p ih=>
  intro hp hP hM hs _
  cases p with
  |nil=>simp
  |cons s p=>
   have h1:=ih (fun x hx=>hp x (by simp[hx])) (fun x hx=>hP x (by simp[hx])) (fun x hx=>hM x (by simp[hx])) hs.2 (by simp)
   have h2:=hs.1 s (by simp)
   have h3:=Qc8 t.2 s.2
   have h4:=Qaeq (hP s (by simp)) (hP t (by simp)) (hM s (by simp)) (hM t (by simp)) (hp s (by simp)) (hp t (by simp)) (by omega)
   simp only[hdT,List.headD_cons,List.length_cons]at h1⊢
   omega
theorem ExI.len{D F W N0:Rat}{p:List Tm}(h:ExI D F W N0 p):p.length<=2^32:=by
 by_cases h0:p=[]
 ·subst h0;simp
 ·have h1:=Qtz (fun t ht=>(h.i t ht).1) h.pos h.ml h.nrm.s h0
  have:=Q4p (h.i _ (Qat h0)).1
  omega
theorem Qz9{W:Rat}(h:1<=W):∀ {p:List Tm} {t:Tm},t∈p->Qba t.1<=nW W p
 | s::p,t,ht=>by
  have h0:(0:Rat)<=W:=by grind
  have h1:=Qwm h0 p
  have h2:=Qfv h0 s.1 s.2
  simp only[nW]
  rcases List.mem_cons.1 ht with rfl|ht
  ·have h3:=Rat.mul_le_mul_of_nonneg_left (Qof h (psi t.2)) (Qbx t.1)
   grind
  ·have:=Qz9 h ht
   grind
theorem Qt0(x:Nat):∀n:Nat,nl (x^n)<=n*nl x+1
 |0=>by rw[Nat.pow_zero,Qeo];omega
 |n+1=>by
  rw[Nat.pow_succ,Nat.succ_mul]
  have:=Qbz (x^n) x
  have:=Qt0 x n
  omega
theorem ExI.PB{d f w n0 L:Nat}{p:List Tm}(h:ExI d f w n0 p)(hd:0<d)(hf:0<f)(hw:0<w)(hn0:0<n0)(hL:nl (n0*(d*f^6560))<L):PB L 6560 p:=by
 intro t ht
 obtain⟨h1,z,hz⟩:=h.i t ht
 have hw1:(1:Rat)<=(w:Rat):=by
  rw[<-Rat.intCast_natCast,show(1:Rat)=((1:Int):Rat)from rfl,Rat.intCast_le_intCast];omega
 have hN:Qba t.1<=(n0:Rat):=by have:=Qz9 hw1 ht;have:=h.n;grind
 have hX:(d:Rat)*(f:Rat)^(6560-psi t.2)=((d*f^(6560-psi t.2):Nat):Rat):=by
  rw[Rat.natCast_mul,Rat.natCast_pow]
 have hkey:∀N k:Nat,k<=N->d*f^k<=d*f^N:=fun N k h=>Nat.mul_le_mul_left _ (Nat.pow_le_pow_right hf h)
 have hXl:=hkey 6560 (6560-psi t.2) (Nat.sub_le _ _)
 have hX0:0<d*f^(6560-psi t.2):=Nat.mul_pos hd (Nat.pow_pos hf)
 rw[hX]at hz
 generalize d*f^(6560-psi t.2)=X at *
 generalize d*f^6560=Y at *
 have hXr:((X:Int):Rat)≠0:=by rw[Ne,Rat.intCast_eq_zero_iff];omega
 have e:t.1=(z:Rat)/((X:Int):Rat):=by rw[<-hz,Rat.intCast_natCast];rw[Rat.intCast_natCast]at hXr;grind
 have hzl:z.natAbs<=n0*Y:=by
  have h2:Qba (z:Rat)=Qba t.1*(X:Rat):=by
   rw[<-hz,Qhb];congr 1
   rw[<-Rat.intCast_natCast,Qiq,Int.natAbs_natCast,Rat.intCast_natCast]
  rw[Qiq]at h2
  have h3:(0:Rat)<=(X:Rat):=by rw[<-Rat.intCast_natCast,show(0:Rat)=((0:Int):Rat)from rfl,Rat.intCast_le_intCast];omega
  have h4:=Rat.mul_le_mul_of_nonneg_right hN h3
  rw[<-h2,<-Rat.natCast_mul,<-Rat.intCast_natCast,<-Rat.intCast_natCast,Rat.intCast_le_intCast]at h4
  have h5:=Nat.mul_le_mul_left n0 hXl
  omega
 have hr:=Qz2 z (X:Int) (by omega)
 rw[<-e,Int.natAbs_natCast]at hr
 have g1:=Qbj hzl
 have g2:nl X<=nl (n0*Y):=by
  exact Qbj (Nat.le_trans hXl (Nat.le_mul_of_pos_left _ hn0))
 have g3:1<=nl X:=by
  apply Decidable.byContradiction;intro hc
  have:=Qgm.1 (show nl X=0 by omega)
  omega
 refine⟨by omega,⟨by have:=h.ml t ht;omega,fun x hx=> ?_,fun x hx=> ?_⟩,h.nrm.c t ht⟩
 all_goals
  obtain⟨i,hi,rfl⟩:=List.getElem_of_mem hx
  have hp:=h.pos t ht i
  rw[Qce hi]at hp
 ·exact hp
 ·have hl:=h.ml t ht
  simp only[psi]at h1
  rw[<-Qce hi]
  rw[<-Qce hi]at hp
  have:i=0∨i=1∨i=2∨i=3:=by omega
  rcases this with rfl|rfl|rfl|rfl<;>omega
theorem ExI.step{D F W N0:Rat}{p q:List Tm}{y:Tm}{K E K' E':Nat}(h:ExI D F W N0 p)(hQ:QOk F W y q)(bp:FW.PB K E p)(bq:FW.PB K' E' (y::q))(nq:Nrm (y::q))(hg:Qeb (y::q) p):ExI D F W N0 (exN (y::q) p):=by
 cases p with
 |nil=>exact absurd rfl hg.1
 |cons x p=>
  obtain⟨h1,h2,h3,h4⟩:=Qam9 (K:=max K K') (E:=max E E') hQ (bp.mono (by omega) (by omega)) (bq.mono (by omega) (by omega)) h.nrm nq hg.2 h.i h.pos h.ml
  exact⟨h1,by have:=h.n;grind,h3,h4,Qm0 h.nrm nq⟩
def Qhd(p:List Tm):Nat:=(p.map fun t=>t.1.den).foldr (· * ·) 1
def Qdo(p:List Tm):Nat:=(p.map fun t=>t.1.num.natAbs).foldr (· + ·) 0
theorem Qr7(p:List Tm):0<Qhd p:=by
 induction p with
 |nil=>simp[Qhd]
 |cons t p ih=>exact Nat.mul_pos (Nat.pos_of_ne_zero t.1.den_nz) ih
theorem Qog:∀ {p:List Tm} {t:Tm},t∈p->t.1.den∣Qhd p
 |s::p,t,ht=>by
  rcases List.mem_cons.1 ht with rfl|ht
  ·exact Nat.dvd_mul_right _ _
  ·exact Nat.dvd_trans (Qog ht) (Nat.dvd_mul_left _ _)
theorem Q2n{p:List Tm}{K E:Nat}(hp:FW.PB K E p):nl (Qhd p)<=p.length*K+1:=by
 induction p with
 |nil=>simp[Qhd,Qeo]
 |cons t p ih=>
  have h1:=ih (PB.cons.1 hp).2
  have h2:=(PB.cons.1 hp).1.c
  have h3:=Qbz t.1.den (Qhd p)
  unfold rs at h2
  rw[List.length_cons,Nat.succ_mul]
  have e:Qhd (t::p)=t.1.den*Qhd p:=rfl
  rw[e];omega
theorem Q2o{p:List Tm}{K E:Nat}(hp:FW.PB K E p):nl (Qdo p)<=p.length+K:=by
 induction p with
 |nil=>simp[Qdo,Qp5]
 |cons t p ih=>
  have h1:=ih (PB.cons.1 hp).2
  have h2:=(PB.cons.1 hp).1.c
  have h3:=Qmn t.1.num.natAbs (Qdo p)
  unfold rs at h2
  have e:Qdo (t::p)=t.1.num.natAbs+Qdo p:=rfl
  rw[e,List.length_cons];omega
theorem Qu9{c:Rat}{L:Nat}(h:c.den∣L):IsI (c*(L:Rat)):=by
 obtain⟨k,rfl⟩:=h
 refine⟨c.num*(k:Int),?_⟩
 have hd0:=c.den_nz
 have d1:c=(c.num:Rat)/((c.den:Int):Rat):=by
  conv=>lhs;rw[<-Rat.mkRat_self c]
  rw[Rat.mkRat_eq_div,Rat.intCast_natCast]
 have k1:((c.den:Int):Rat)≠0:=by rw[Ne,Rat.intCast_eq_zero_iff];omega
 rw[Rat.natCast_mul,Rat.intCast_mul,Rat.intCast_natCast,<-Rat.intCast_natCast c.den]
 generalize((c.den:Int):Rat)=D at *
 generalize(c.num:Rat)=N at *
 rw[d1]
 grind
theorem Qk6(c:Rat):Qba c*(c.den:Rat)=((c.num.natAbs:Nat):Rat):=by
 have d1:c*(c.den:Rat)=(c.num:Rat):=by
  have e:c=(c.num:Rat)/((c.den:Int):Rat):=by
   conv=>lhs;rw[<-Rat.mkRat_self c]
   rw[Rat.mkRat_eq_div,Rat.intCast_natCast]
  have k1:((c.den:Int):Rat)≠0:=by rw[Ne,Rat.intCast_eq_zero_iff];have:=c.den_nz;omega
  rw[<-Rat.intCast_natCast]
  generalize((c.den:Int):Rat)=D at *
  generalize(c.num:Rat)=N at *
  rw[e];grind
 rw[<-Qiq,<-d1,Qhb]
 congr 1
 rw[<-Rat.intCast_natCast,Qiq,Int.natAbs_natCast,Rat.intCast_natCast]
theorem Qcn{a b:Nat}(h:a<=b):(a:Rat)<=(b:Rat):=by
 rw[<-Rat.intCast_natCast,<-Rat.intCast_natCast,Rat.intCast_le_intCast];omega
theorem Qrf(c:Rat):Qba c<=((c.num.natAbs:Nat):Rat):=by
 have h:=Qk6 c
 have h1:(1:Rat)<=(c.den:Rat):=Qcn (a:=1) (Nat.pos_of_ne_zero c.den_nz)
 have:=Rat.mul_le_mul_of_nonneg_left h1 (Qbx c)
 grind
theorem Qaer{w:Nat}(hw:0<w){N:Nat}:∀ {p:List Tm},(∀t∈p,psi t.2<=N)->nW w p<=((Qdo p*w^N:Nat):Rat)
 | [],_=>by
  have e:Qdo []=0:=rfl
  rw[e,Nat.zero_mul];exact Rat.le_refl
 |t::p,h=>by
  have hw1:(1:Rat)<=(w:Rat):=Qcn (a:=1) hw
  have h1:=Qaer hw (p:=p) (fun s hs=>h s (by simp[hs]))
  have h2:=Qz7 hw1 (h t (by simp))
  have h3:=Rat.mul_le_mul_of_nonneg_left h2 (Qbx t.1)
  have h4:=Rat.mul_le_mul_of_nonneg_right (Qrf t.1) (Qes (show(0:Rat)<=(w:Rat)by grind) N)
  have e:Qdo (t::p)=t.1.num.natAbs+Qdo p:=rfl
  rw[e,Nat.add_mul,Rat.natCast_add,Rat.natCast_mul,Rat.natCast_pow]
  simp only[nW]
  grind
def exW(y:Tm)(q:List Tm):Nat:=Qdo q*y.1.den+1
def Qpt(y:Tm)(q:List Tm):Nat:=Qhd q*y.1.num.natAbs
theorem qok{y:Tm}{q:List Tm}{K:Nat}(bq:FW.PB K 8 (y::q))(nq:Nrm (y::q))(hm:ML 4 (y::q)):QOk (Qpt y q:Nat) (exW y q:Nat) y q:=by
 have hy0:=nq.z y (by simp)
 have hw1:(1:Rat)<=((exW y q:Nat):Rat):=Qcn (a:=1) (by unfold exW;omega)
 have hlt:∀s∈q,psi s.2<psi y.2:=fun s hs=>by
  have h1:=nq.s.1 s hs
  have h2:=Qc8 y.2 s.2
  exact Qam8 (bq s (by simp[hs])).m (bq y (by simp)).m (hm s (by simp[hs])) (hm y (by simp)) (by omega)
 refine⟨hw1,IsI.nat _,hlt,fun s hs=> ?_,?_,fun t ht i=>((bq t ht).m.eN i).1,hm⟩
 ·have h1:=Qu9 (Qog hs)
  have h2:IsI (((y.1.num.natAbs:Nat):Rat)/y.1):=by
   have h3:=Qk6 y.1
   have h4:((y.1.num.natAbs:Nat):Rat)/y.1=(y.1.den:Rat)∨((y.1.num.natAbs:Nat):Rat)/y.1= -(y.1.den:Rat):=by
    rw[<-h3];unfold Qba;grind
   rcases h4 with h4|h4<;>rw[h4]
   ·exact IsI.nat _
   ·exact(IsI.nat _).neg
  have h5:=h1.mul h2
  have e:s.1/y.1*((Qpt y q:Nat):Rat)=s.1*(Qhd q:Rat)*(((y.1.num.natAbs:Nat):Rat)/y.1):=by
   unfold Qpt;rw[Rat.natCast_mul];grind
  rw[e];exact h5
 ·cases q with
  |nil=>
   have:=Qfv (W:=((exW y []:Nat):Rat)) (by grind) y.1 y.2
   simp only[nW];exact this
  | cons s q=>
   have hp0:0<psi y.2:=by have:=hlt s (by simp);omega
   obtain⟨n,hn⟩:∃n,psi y.2=n+1:=⟨psi y.2-1,by omega⟩
   have h1:=Qaer (w:=exW y (s::q)) (by unfold exW;omega) (N:=n) (p:=s::q) (fun t ht=>by have:=hlt t ht;omega)
   rw[Rat.natCast_mul,Rat.natCast_pow]at h1
   have h2:((Qdo (s::q):Nat):Rat)<=Qba y.1*((exW y (s::q):Nat):Rat):=by
    have h3:=Qk6 y.1
    have h4:(1:Rat)<=((y.1.num.natAbs:Nat):Rat):=Qcn (a:=1) (by
     have:y.1.num≠0:=fun e=>hy0 (Rat.num_eq_zero.1 e)
     omega)
    have h5:=Rat.mul_le_mul_of_nonneg_left h4 (show(0:Rat)<=((Qdo (s::q):Nat):Rat)from Qcn (a:=0) (by omega))
    unfold exW
    rw[Rat.natCast_add,Rat.natCast_mul]
    have h6:=Qbx y.1
    have h7:((1:Nat):Rat)=1:=rfl
    rw[h7]
    generalize((Qdo (s::q):Nat):Rat)=S at *
    grind
   have h8:=Rat.mul_le_mul_of_nonneg_right h2 (Qes (show(0:Rat)<=((exW y (s::q):Nat):Rat)by grind) n)
   rw[hn,Rat.pow_succ]
   grind
end Go.FW
namespace Go.FW
open Go
def n1:List Tm->Rat
 | []=>0
 |t::p=>Qba t.1+n1 p
theorem Qlv:∀p,0<=n1 p
 | []=>Rat.le_refl
 |t::p=>by
  have h1:=Qbx t.1
  have h2:=Qlv p
  simp only[n1];grind
theorem Q2p(p q:List Tm):n1 (Q3 p q)<=n1 p+n1 q:=by
 induction p,q using Q3.induct with
 |case1 q=>rw[Qdl];simp only[n1];grind
 |case2 p hp=>rw[Qb7];simp only[n1];grind
 |case3 c m p d l q h1 ih=>rw[Q3,if_pos h1];simp only[n1]at ih ⊢;grind
 |case4 c m p d l q h1 h2 ih=>rw[Q3,if_neg h1,if_pos h2];simp only[n1]at ih ⊢;grind
 |case5 c m p d l q h1 h2 h3 ih=>
  rw[Q3,if_neg h1,if_neg h2,if_pos h3]
  have g1:=Qbx c
  have g2:=Qbx d
  simp only[n1]at ih ⊢;grind
 |case6 c m p d l q h1 h2 h3 ih=>
  rw[Q3,if_neg h1,if_neg h2,if_neg h3]
  have g:=Qz6 c d
  simp only[n1]at ih⊢
  grind
theorem Qwo(t:Tm):∀p:List Tm,n1 (Q4 p t)<=Qba t.1*n1 p
 | []=>by simp only[Q4,List.filterMap_nil,n1];grind
 |s::p=>by
  have ih:=Qwo t p
  have g:=Qhb s.1 t.1
  have g2:=Rat.mul_nonneg (Qbx t.1) (Qbx s.1)
  unfold Q4 at ih⊢
  rw[List.filterMap_cons]
  by_cases e:s.1*t.1=0
  ·rw[if_pos e];simp only[n1];grind
  ·rw[if_neg e];simp only[n1];grind
def n1s:List (List Tm)->Rat
 | []=>0
 |p::l=>n1 p+n1s l
theorem Qt1:∀a b:List (List Tm),n1s (a++b)=n1s a+n1s b
 | [],b=>by simp only[List.nil_append,n1s];grind
 |p::a,b=>by
  simp only[List.cons_append,n1s]
  rw[Qt1 a b];grind
theorem Q2q(l:List (List Tm)):n1 (Qa8 l)<=n1s l:=by
 induction l using Qa8.induct with
 |case1=>rw[Qa8];exact Rat.le_refl
 |case2 p=>rw[Qa8];simp only[n1s];grind
 |case3 p q r h1 h2=>
  rw[Qa8]
  have h3:=Q2p (Qa8 ((p::q::r).take ((p::q::r).length/2))) (Qa8 ((p::q::r).drop ((p::q::r).length/2)))
  have h4:=Qt1 ((p::q::r).take ((p::q::r).length/2)) ((p::q::r).drop ((p::q::r).length/2))
  rw[List.take_append_drop]at h4
  rw[h4]
  grind
theorem Qpu(q:List Tm):∀p:List Tm,n1s (p.map (Q4 q))<=n1 p*n1 q
 | []=>by simp only[List.map_nil,n1s,n1];grind
 |t::p=>by
  have ih:=Qpu q p
  have h:=Qwo t q
  simp only[List.map_cons,n1s,n1]
  grind
theorem Qaji(p q:List Tm):n1 (Qag p q)<=n1 p*n1 q:=by
 unfold Qag
 split
 ·have h1:=Q2q (q.map (Q4 p))
  have h2:=Qpu p q
  unfold Qf0;grind
 ·have h1:=Q2q (p.map (Q4 q))
  have h2:=Qpu q p
  unfold Qf0;grind
def Dn(D:Nat)(p:List Tm):Prop:=∀t∈p,IsI (t.1*(D:Rat))
theorem Q2r{D:Nat}(p q:List Tm):Dn D p->Dn D q->Dn D (Q3 p q):=by
 induction p,q using Q3.induct with
 |case1 q=>intro _ h;rwa[Qdl]
 |case2 p hp=>intro h _;rwa[Qb7]
 |case3 c m p d l q h1 ih=>
  intro hp hq;rw[Q3,if_pos h1]
  intro t ht
  rcases List.mem_cons.1 ht with rfl|ht
  ·exact hp _ (List.mem_cons_self ..)
  ·exact ih (fun t ht=>hp t (List.mem_cons_of_mem _ ht)) hq t ht
 |case4 c m p d l q h1 h2 ih=>
  intro hp hq;rw[Q3,if_neg h1,if_pos h2]
  intro t ht
  rcases List.mem_cons.1 ht with rfl|ht
  ·exact hq _ (List.mem_cons_self ..)
  ·exact ih hp (fun t ht=>hq t (List.mem_cons_of_mem _ ht)) t ht
 |case5 c m p d l q h1 h2 h3 ih=>
  intro hp hq;rw[Q3,if_neg h1,if_neg h2,if_pos h3]
  exact ih (fun t ht=>hp t (List.mem_cons_of_mem _ ht)) fun t ht=>hq t (List.mem_cons_of_mem _ ht)
 | case6 c m p d l q h1 h2 h3 ih=>
  intro hp hq;rw[Q3,if_neg h1,if_neg h2,if_neg h3]
  intro t ht
  rcases List.mem_cons.1 ht with rfl|ht
  ·have a:=hp (c,m) (List.mem_cons_self ..)
   have b:=hq (d,l) (List.mem_cons_self ..)
   show IsI ((c+d)*(D:Rat))
   rw[Rat.add_mul];exact a.add b
  ·exact ih (fun t ht=>hp t (List.mem_cons_of_mem _ ht)) (fun t ht=>hq t (List.mem_cons_of_mem _ ht)) t ht
theorem Q2s{D:Nat}(l:List (List Tm)):(∀p∈l,Dn D p)->Dn D (Qa8 l):=by
 induction l using Qa8.induct with
 |case1=>intro _;rw[Qa8];intro t ht;cases ht
 |case2 p=>intro h;rw[Qa8];exact h p (List.mem_cons_self ..)
 |case3 p q r h1 h2=>
  intro h
  rw[Qa8]
  exact Q2r _ _ (h1 fun x hx=>h x (List.mem_of_mem_take hx)) (h2 fun x hx=>h x (List.mem_of_mem_drop hx))
theorem Qwp{D D':Nat}{t:Tm}(ht:IsI (t.1*(D':Rat))){p:List Tm}(hp:Dn D p):Dn (D*D') (Q4 p t):=by
 intro x hx
 simp only[Q4,List.mem_filterMap]at hx
 obtain⟨s,hs,e⟩:=hx
 split at e
 ·cases e
 ·obtain rfl:(s.1*t.1,Qao s.2 t.2)=x:=by simpa using e
  have:=(hp s hs).mul ht
  show IsI (s.1*t.1*((D*D':Nat):Rat))
  rw[Rat.natCast_mul,show s.1*t.1*((D:Rat)*(D':Rat))=s.1*(D:Rat)*(t.1*(D':Rat))by grind]
  exact this
theorem Qajj{D D':Nat}{p q:List Tm}(hp:Dn D p)(hq:Dn D' q):Dn (D*D') (Qag p q):=by
 unfold Qag
 split
 ·refine Q2s _ fun x hx=> ?_
  obtain⟨t,ht,rfl⟩:=List.mem_map.1 hx
  exact Qwp (hq t ht) hp
 ·refine Q2s _ fun x hx=> ?_
  obtain⟨t,ht,rfl⟩:=List.mem_map.1 hx
  rw[Nat.mul_comm]
  exact Qwp (hp t ht) hq
theorem Q7z:∀ {p:List Tm} {t:Tm},t∈p->Qba t.1<=n1 p
 | s::p,t,ht=>by
  have h1:=Qlv p
  have h2:=Qbx s.1
  simp only[n1]
  rcases List.mem_cons.1 ht with rfl|ht
  ·grind
  ·have:=Q7z ht
   grind
theorem Q0a{D N:Nat}{p:List Tm}(hD:0<D)(hN:0<N)(hp:Dn D p)(hn:n1 p<=(N:Rat)){t:Tm}(ht:t∈p):rs t.1<=nl (N*D)+nl D+2:=by
 obtain⟨z,hz⟩:=hp t ht
 have hT:=Q7z ht
 have hNt:Qba t.1<=(N:Rat):=by grind
 have hXr:((D:Int):Rat)≠0:=by rw[Ne,Rat.intCast_eq_zero_iff];omega
 have e:t.1=(z:Rat)/((D:Int):Rat):=by rw[<-hz,Rat.intCast_natCast];rw[Rat.intCast_natCast]at hXr;grind
 have hzl:z.natAbs<=N*D:=by
  have h2:Qba (z:Rat)=Qba t.1*(D:Rat):=by
   rw[<-hz,Qhb];congr 1
   rw[<-Rat.intCast_natCast,Qiq,Int.natAbs_natCast,Rat.intCast_natCast]
  rw[Qiq]at h2
  have h3:(0:Rat)<=(D:Rat):=by rw[<-Rat.intCast_natCast,show(0:Rat)=((0:Int):Rat)from rfl,Rat.intCast_le_intCast];omega
  have h4:=Rat.mul_le_mul_of_nonneg_right hNt h3
  rw[<-h2,<-Rat.natCast_mul,<-Rat.intCast_natCast,<-Rat.intCast_natCast,Rat.intCast_le_intCast]at h4
  omega
 have hr:=Qz2 z (D:Int) (by omega)
 rw[<-e,Int.natAbs_natCast]at hr
 have g1:=Qbj hzl
 omega
end Go.FW
namespace Go.FW
open Go
def XB(E:Nat)(p:List Tm):Prop:=∃K,PB K E p
theorem XB.padd{E:Nat}{p q:List Tm}:XB E p->XB E q->XB E (FW.Q3 p q):=fun⟨_,h⟩ ⟨_,g⟩=>⟨_,Quy p q h g⟩
theorem XB.psum{E:Nat}(l:List (List Tm)):(∀p∈l,XB E p)->XB E (FW.Qa8 l):=by
 induction l using FW.Qa8.induct with
 |case1=>intro _;rw[FW.Qa8];exact⟨0,PB.nil _ _⟩
 |case2 p=>intro h;rw[FW.Qa8];exact h p (List.mem_cons_self ..)
 |case3 p q r h1 h2=>
  intro h
  rw[FW.Qa8]
  exact XB.padd (h1 fun x hx=>h x (List.mem_of_mem_take hx)) (h2 fun x hx=>h x (List.mem_of_mem_drop hx))
theorem XB.pmul{E F:Nat}{p q:List Tm}:XB E p->XB F q->XB (E+F) (FW.Qag p q):=fun⟨K,h⟩ ⟨L,g⟩=>by
 unfold FW.Qag
 split
 ·refine XB.psum _ fun x hx=> ?_
  obtain⟨t,ht,rfl⟩:=List.mem_map.1 hx
  exact⟨K+L,Qfi h (g t ht)⟩
 ·refine XB.psum _ fun x hx=> ?_
  obtain⟨t,ht,rfl⟩:=List.mem_map.1 hx
  rw[Nat.add_comm]
  exact⟨L+K,Qfi g (h t ht)⟩
structure SZ(a b E:Nat)(p:List Tm):Prop where
 d:∃D N:Nat,0<D/\0<N/\nl D<=a/\nl N<=b/\Dn D p/\n1 p<=(N:Rat)
 x:XB E p
theorem SZ.mono{a b E a' b' E':Nat}{p:List Tm}(h:SZ a b E p)(ha:a<=a')(hb:b<=b')(hE:E<=E'):SZ a' b' E' p:=by
 obtain⟨⟨D,N,h1,h2,h3,h4,h5,h6⟩,K,hx⟩:=h
 exact⟨⟨D,N,h1,h2,by omega,by omega,h5,h6⟩,K,hx.mono (Nat.le_refl _) hE⟩
theorem Dn.dvd{D D':Nat}{p:List Tm}(h:Dn D p)(hd:D∣D'):Dn D' p:=fun t ht=>by
 obtain⟨k,rfl⟩:=hd
 rw[Rat.natCast_mul,<-Rat.mul_assoc]
 exact(h t ht).mul (IsI.nat k)
theorem SZ.pmul{a b E a' b' E':Nat}{p q:List Tm}(hp:SZ a b E p)(hq:SZ a' b' E' q):SZ (a+a') (b+b') (E+E') (FW.Qag p q):=by
 obtain⟨⟨D,N,h1,h2,h3,h4,h5,h6⟩,hx⟩:=hp
 obtain⟨⟨D',N',g1,g2,g3,g4,g5,g6⟩,gx⟩:=hq
 have e1:=Qbz D D'
 have e2:=Qbz N N'
 refine⟨⟨D*D',N*N',Nat.mul_pos h1 g1,Nat.mul_pos h2 g2,by omega,by omega,Qajj h5 g5,?_⟩,hx.pmul gx⟩
 have m1:=Qaji p q
 have m2:=Rat.mul_le_mul_of_nonneg_right h6 (Qlv q)
 have n0:(0:Rat)<=(N:Rat):=by have:=Qlv p;grind
 have m3:=Rat.mul_le_mul_of_nonneg_left g6 n0
 rw[Rat.natCast_mul];grind
theorem SZ.padd{a b E a' b':Nat}{p q:List Tm}(hp:SZ a b E p)(hq:SZ a' b' E q):SZ (a+a') (max b b'+1) E (FW.Q3 p q):=by
 obtain⟨⟨D,N,h1,h2,h3,h4,h5,h6⟩,hx⟩:=hp
 obtain⟨⟨D',N',g1,g2,g3,g4,g5,g6⟩,gx⟩:=hq
 have e1:=Qbz D D'
 have e2:=Qmn N N'
 refine⟨⟨D*D',N+N',Nat.mul_pos h1 g1,by omega,by omega,by omega,Q2r p q (h5.dvd (Nat.dvd_mul_right _ _)) (g5.dvd (Nat.dvd_mul_left _ _)),?_⟩,hx.padd gx⟩
 have m1:=Q2p p q
 rw[Rat.natCast_add];grind
theorem SZ.PB{a b E:Nat}{p:List Tm}(h:SZ a b E p):PB (a+b+a+3) E p:=fun t ht=>by
 obtain⟨⟨D,N,h1,h2,h3,h4,h5,h6⟩,K,hx⟩:=h
 have hr:=Q0a h1 h2 h5 h6 ht
 have e:=Qbz N D
 exact⟨by omega,(hx t ht).m,(hx t ht).l⟩
theorem Qva:∀p:List Tm,n1 p<=((Qdo p:Nat):Rat)
 | []=>Rat.le_refl
 |t::p=>by
  have h1:=Qva p
  have h2:=Qrf t.1
  have e:Qdo (t::p)=t.1.num.natAbs+Qdo p:=rfl
  rw[e,Rat.natCast_add]
  simp only[n1];grind
theorem SZ.of{K E L:Nat}{p:List Tm}(h:FW.PB K E p)(hl:p.length<=L):SZ (L*K+1) (L+K+2) E p:=by
 have h1:=Q2n h
 have h2:=Q2o h
 have h3:=Qmn (Qdo p) 1
 have h4:nl 1<=1:=by rw[Qeo];exact Nat.le_refl 1
 have h5:p.length*K<=L*K:=Nat.mul_le_mul_right _ hl
 have h6:=Qbj (show Qdo p<=Qdo p+1 by omega)
 by_cases hz:nl (Qdo p)=0
 ·refine⟨⟨Qhd p,Qdo p+1,Qr7 p,by omega,by omega,by omega,fun t ht=>Qu9 (Qog ht),?_⟩,K,h⟩
  have:=Qva p
  rw[Rat.natCast_add]
  have:(0:Rat)<=((1:Nat):Rat):=by decide
  grind
 ·refine⟨⟨Qhd p,Qdo p,Qr7 p,Nat.pos_of_ne_zero fun e=>hz (Qgm.2 e),by omega,by omega,fun t ht=>Qu9 (Qog ht),Qva p⟩,K,h⟩
end Go.FW
namespace Go.FW
open Go
def Qge:List (List Tm×List Tm)->List Tm->Option (List Tm)
 | [],s=>some s
 |x::l,s=>if 4000<(Q3 s (Qag x.1 x.2)).length then none else Qge l (Q3 s (Qag x.1 x.2))
def Qda(q:List Tm):Nat->List Tm->Option (List Tm)
 |0,p=>some p
 |n+1,p=>if 4000<(Qag p q).length then none else Qda q n (Qag p q)
def Qgy:List (List Tm×Nat)->List Tm->Option (List Tm)
 | [],p=>some p
 |x::l,p=>(Qda x.1 x.2 p).bind (Qgy l)
def Qct(l:List (List Tm×List Tm))(i:Nat):List Tm:=(l.take i).foldl (fun s x=>Q3 s (Qag x.1 x.2)) []
theorem Qka{l:List (List Tm×List Tm)}{i:Nat}(h:i<l.length):Qct l (i+1)=Q3 (Qct l i) (Qag l[i].1 l[i].2):=by
 unfold Qct
 rw[List.take_succ_eq_append_getElem h,List.foldl_append]
 rfl
theorem Q0b{a b E a' b' E':Nat}{l:List (List Tm×List Tm)}(hl:∀x∈l,SZ a b E x.1/\SZ a' b' E' x.2):∀i,i<=l.length->SZ (i*(a+a')+1) (b+b'+i+1) (E+E') (Qct l i)
 |0,_=>by
  refine⟨⟨1,1,by omega,by omega,?_,?_,fun t ht=> ?_,?_⟩,0,fun t ht=> ?_⟩
  ·rw[Qeo];omega
  ·rw[Qeo];omega
  ·simp[Qct]at ht
  ·simp only[Qct,List.take_zero,List.foldl_nil,n1];decide
  ·simp[Qct]at ht
 |i+1,hi=>by
  have h:=Q0b hl i (by omega)
  obtain⟨h1,h2⟩:=hl _ (List.getElem_mem (show i<l.length by omega))
  rw[Qka (by omega)]
  refine(h.padd (h1.pmul h2)).mono ?_ ?_ (Nat.le_refl _)
  ·rw[Nat.succ_mul];omega
  ·omega
theorem Qrg{l:List (List Tm×List Tm)}{i:Nat}(h:i<l.length):Qge (l.drop i) (Qct l i)=if 4000<(Qct l (i+1)).length then none else Qge (l.drop (i+1)) (Qct l (i+1)):=by
 rw[List.drop_eq_getElem_cons h]
 rw[Qka h]
 rfl
end Go.FW
namespace Go.FW
open Go
theorem Qwq{l:List (List Tm×List Tm)}(hl:∀x∈l,Nrm x.1/\Nrm x.2):∀i,i<=l.length->Nrm (Qct l i)
 |0,_=>Nrm.nil
 |i+1,hi=>by
  obtain⟨h1,h2⟩:=hl _ (List.getElem_mem (show i<l.length by omega))
  rw[Qka (by omega)]
  exact Qg8 (Qwq hl i (by omega)) (Qc2 h1.s h2.s)
end Go.FW
namespace Go.FW
open Go
end Go.FW
namespace Go.FW
open Go
theorem Qvb{p:List Tm}(np:Nrm p)(h0:p≠[]):plt 0 p=hdT p:=by
 obtain⟨h1,h2⟩:=Qn9 (o:=0) np h0
 apply Classical.byContradiction
 intro hne
 have h3:=h2 _ (Qat h0) (fun e=>hne e.symm)
 rcases Qj9 np.s _ h1 with e|e
 ·exact hne e
 ·have h4:=Qc8 (hdT p).2 (plt 0 p).2
  have h5:Qa7 0 (plt 0 p).2 (hdT p).2=Qah (plt 0 p).2 (hdT p).2:=by unfold Qa7;rw[if_neg (by simp)]
  omega
theorem Q2t{p q:List Tm}(np:Nrm p)(nq:Nrm q)(h1:p≠[])(h2:q≠[]):Qag p q≠[]/\hdT (Qag p q)=((hdT p).1*(hdT q).1,Qao (hdT p).2 (hdT q).2):=by
 obtain⟨h3,h4⟩:=Qahj (o:=0) np nq h1 h2
 rw[Qvb (Qc2 np.s nq.s) h3,Qvb np h1,Qvb nq h2]at h4
 exact⟨h3,h4⟩
theorem Qwr{E:Nat}{a b:List Int}(ha:MB E a)(hb:MB E b)(hl:a.getLast? ≠some 0):Qea b (Qao a b)=true/\Qbt (Qao a b) b=a:=by
 have hm:=ha.mul hb
 have hd:Qea b (Qao a b)=true:=(Qoe hm).2 fun i=>by rw[Qd5];have:=ha.eN i;omega
 refine⟨hd,?_⟩
 have e:=Qha hm hb (Qgb a b) hd
 refine Qga (Qlu _ _) hl fun i=> ?_
 have:=congrArg (fun l=>eN l i) e
 simp only[Qd5]at this
 omega
theorem Nrm.drop{p:List Tm}(h:Nrm p):∀k,Nrm (p.drop k)
 |0=>h
 |k+1=>by
  have:=Nrm.drop h k
  rw[<-List.drop_drop]
  cases hd:p.drop k with
  |nil=>simpa using Nrm.nil
  |cons t l=>rw[hd]at this;simpa using this.tail
theorem Q0c{p q:List Tm}{E:Nat}(np:Nrm p)(nq:Nrm q)(bp:∀t∈p,MB E t.2)(bq:∀t∈q,MB E t.2)(hq:q≠[]):∀k,k<=p.length->exP q (Qag p q) k=Qag (p.drop k) q/\exQ q (Qag p q) k=p.take k
 |0,_=>⟨rfl,rfl⟩
 | k+1,h=>by
  obtain⟨h1,h2⟩:=Q0c np nq bp bq hq k (by omega)
  have hk:k<p.length:=by omega
  have e1:p.drop k=p[k]::p.drop (k+1):=List.drop_eq_getElem_cons hk
  have n1:=np.drop k
  have n2:=np.drop (k+1)
  have hne:p.drop k≠[]:=by rw[e1];exact List.cons_ne_nil _ _
  obtain⟨h3,h4⟩:=Q2t n1 nq hne hq
  have e2:hdT (p.drop k)=p[k]:=by rw[e1];rfl
  rw[e2]at h4
  have hz:=nq.z _ (Qat hq)
  have hqm:=bq _ (Qat hq)
  have hpm:=bp _ (List.getElem_mem hk)
  obtain⟨h5,h6⟩:=Qwr hpm hqm (np.c _ (List.getElem_mem hk))
  have eT:exT q (Qag (p.drop k) q)=p[k]:=by
   unfold exT
   rw[h4]
   simp only
   rw[h6]
   have:p[k].1*(hdT q).1/(hdT q).1=p[k].1:=Rat.mul_div_cancel hz
   rw[this]
  have n3:Nrm (Qag (p.drop k) q):=Qc2 n1.s nq.s
  constructor
  ·show exN q (exP q (Qag p q) k)=_
   rw[h1]
   refine Qhj (Qm0 n3 nq) (Qc2 n2.s nq.s) fun φ=> ?_
   rw[Qu7 n3 nq,eT,Qio,Qio,e1,Qaq]
   grind
  ·show exQ q (Qag p q) k++[exT q (exP q (Qag p q) k)]=_
   rw[h1,h2,eT,List.take_succ_eq_append_getElem hk]
theorem Qaoi{p q:List Tm}{E:Nat}(np:Nrm p)(nq:Nrm q)(bp:∀t∈p,MB E t.2)(bq:∀t∈q,MB E t.2)(hq:q≠[]){k:Nat}(h:k<p.length):Qeb q (exP q (Qag p q) k):=by
 obtain⟨h1,h2⟩:=Q0c np nq bp bq hq k (by omega)
 have e1:p.drop k=p[k]::p.drop (k+1):=List.drop_eq_getElem_cons h
 have hne:p.drop k≠[]:=by rw[e1];exact List.cons_ne_nil _ _
 obtain⟨h3,h4⟩:=Q2t (np.drop k) nq hne hq
 have e2:hdT (p.drop k)=p[k]:=by rw[e1];rfl
 rw[h1]
 refine⟨h3,?_⟩
 rw[h4,e2]
 exact(Qwr (bp _ (List.getElem_mem h)) (bq _ (Qat hq)) (np.c _ (List.getElem_mem h))).1
theorem Qt2{p:List Tm}(np:Nrm p){c:Rat}(hc:c≠0):Qar p c=p.map fun t=>(t.1*c,t.2):=by
 rw[Qar,if_neg hc,Q4]
 induction p with
 |nil=>rfl
 | cons t p ih=>
  have hz:t.1*c≠0:=fun h=>by
   rcases Rat.mul_eq_zero.1 h with h|h
   ·exact np.z t (by simp) h
   ·exact hc h
  have ih':=ih np.tail
  rw[List.filterMap_cons,List.map_cons]
  simp only[if_neg hz]
  rw[ih',Qk0 (np.c t (by simp))]
theorem Qt3{p:List Tm}(np:Nrm p):Qar p 1=p:=by
 rw[Qt2 np (by decide)]
 simp
theorem Qpv{p:List Tm}(np:Nrm p)(a b:Rat):Qar (Qar p a) b=Qar p (a*b):=by
 refine Qhj (Qeq (Qeq np.s a).s b) (Qeq np.s _) fun φ=> ?_
 rw[Qh4 φ (Qeq np.s a).c,Qh4 φ np.c,Qh4 φ np.c]
 grind
end Go.FW
namespace Go.FW
open Go
set_option maxRecDepth 100000
abbrev PV.pe(r:List Tm×Int):PV:= .tup [PV.poly r.1,.int .i64 r.2]
abbrev PV.cert(fs:List (List Tm))(ps:List Int)(n:Int)(cs:List (List Tm)):PV:= .agg [PV.polys fs,PV.mono ps,.int .i64 n,PV.polys cs]
def Qir:Option (List Tm)->List Tm×Int
 |some r=>(r,0)
 |none=>([],4)
def Qck(cs ls:List (List Tm)):List Tm×Int:=if cs.length=ls.length then Qir (Qge (cs.zip ls) [])else([],16)
def Qk7(q p:List Tm)(n:Nat):List Tm×Int:=Qir (Qda q n p)
def Qlw(ps:List Int):Bool:=ps.all fun n=>decide (0<=n/\n<=64)
def Qdi(fs:List (List Tm))(ps:List Int):List Tm×Int:=
 if fs.length=ps.length then(if Qlw ps then Qir (Qgy (fs.zip (ps.map Int.toNat)) (Qcb 1))else([],2))else([],16)
def Qpw(fs:List (List Tm))(ps:List Int)(n:Int)(cs hs:List (List Tm))(g:List Tm):Int:=
 if(Qdi fs ps).2=0 then
  if fs.any List.isEmpty then 3
  else if n<1∨64<n then 2
  else if cs.length=hs.length then
   match Qda g n.toNat (Qdi fs ps).1 with
   |none=>4
   |some l=>if(Qck cs hs).2=0 then(if l=(Qck cs hs).1 then 0 else 17)else(Qck cs hs).2
  else 16
 else(Qdi fs ps).2
structure Sml(p:List Tm):Prop where
 z:SZ 64 64 64 p
 l:p.length<=64
 n:Nrm p
structure Big(p:List Tm):Prop where
 z:SZ (2097152) (2097152) (16384) p
 l:p.length<=4096
 n:Nrm p
theorem Sml.PB{p:List Tm}(h:Sml p):PB 256 64 p:=h.z.PB.mono (by omega) (by omega)
theorem Big.PB{p:List Tm}(h:Big p):FW.PB (8388608) (16384) p:=h.z.PB.mono (by omega) (by omega)
theorem Sml.big{p:List Tm}(h:Sml p):Big p:=⟨h.z.mono (by omega) (by omega) (by omega),by have:=h.l;omega,h.n⟩
theorem Qajk{cs ls:List (List Tm)}(hl:cs.length=ls.length){i:Nat}(h:i<cs.length):(cs.zip ls)[i]'(by simp;omega)=(cs[i],ls[i]'(by omega)):=List.getElem_zip
theorem Qajl{P Q:List Tm->Prop}{cs ls:List (List Tm)}(h1:∀c∈cs,P c)(h2:∀c∈ls,Q c):∀x∈cs.zip ls,P x.1/\Q x.2:=fun x hx=>by
 obtain⟨i,hi,rfl⟩:=List.getElem_of_mem hx
 rw[List.getElem_zip]
 exact⟨h1 _ (List.getElem_mem _),h2 _ (List.getElem_mem _)⟩
theorem Q2u{cs ls:List (List Tm)}(h1:∀c∈cs,Big c)(h2:∀c∈ls,Sml c)(hl:cs.length<=8){i:Nat}(hi:i<=(cs.zip ls).length):PB (268435456) (32768) (Qct (cs.zip ls) i)/\Nrm (Qct (cs.zip ls) i):=by
 have hz:=Qajl (P:=Big) (Q:=Sml) h1 h2
 have hi8:i<=8:=by rw[List.length_zip]at hi;omega
 refine⟨((Q0b (fun x hx=>⟨(hz x hx).1.z,(hz x hx).2.z⟩) i hi).mono (a':=16777729) (b':=2097225) (E':=32768) ?_ (by omega) (by omega)).PB.mono (by omega) (by omega),Qwq (fun x hx=>⟨(hz x hx).1.n,(hz x hx).2.n⟩) i hi⟩
 exact Nat.succ_le_succ (Nat.le_trans (Nat.mul_le_mul_right _ hi8) (by decide+kernel))
structure Prd(m:Nat)(p:List Tm):Prop where
 z:SZ (m*64+1) (m*64+2) (m*64) p
 n:Nrm p
 l:p.length<=4000
theorem Prd.PB{m:Nat}{p:List Tm}(h:Prd m p)(hm:m<=1024):FW.PB (262144) (131072) p:=h.z.PB.mono (by omega) (by omega)
theorem Prd.mul{m:Nat}{p q:List Tm}(h:Prd m p)(hq:Sml q)(hl:(Qag p q).length<=4000):Prd (m+1) (Qag p q):=
 ⟨(h.z.pmul hq.z).mono (by omega) (by omega) (by omega),Qc2 h.n.s hq.n.s,hl⟩
theorem SZ.one:SZ 1 1 0 (Qcb 1):=by
 have e:Qcb 1=[((1:Rat),[])]:=by unfold Qcb;rw[if_neg (by decide)]
 rw[e]
 refine⟨⟨1,1,by omega,by omega,by rw[Qeo];omega,by rw[Qeo];omega,fun t ht=> ?_,?_⟩,3,fun t ht=> ?_⟩
 ·obtain rfl:t=(1,[]):=by simpa using ht
  exact⟨1,by decide+kernel⟩
 ·simp only[n1];decide+kernel
 ·obtain rfl:t=(1,[]):=by simpa using ht
  refine⟨?_,⟨by simp,by simp,by simp⟩,by simp⟩
  show rs 1+1<=3
  have:=Qy6
  omega
theorem Prd.one:Prd 0 (Qcb 1):=⟨SZ.one.mono (by omega) (by omega) (by omega),Q4a 1,by unfold Qcb;rw[if_neg (by decide)];simp⟩
theorem Q0d{q P:List Tm}{n k:Nat}(h:k<n):Qda q (n-k) P=if 4000<(Qag P q).length then none else Qda q (n-(k+1)) (Qag P q):=by
 rw[show n-k=(n-(k+1))+1 by omega];rfl
theorem Qkb{q:List Tm}(hq:Sml q):∀(n m:Nat)(p r:List Tm),Prd m p->Qda q n p=some r->Prd (m+n) r
 |0,m,p,r,hp,h=>by cases h;exact hp
 | n+1,m,p,r,hp,h=>by
  unfold Qda at h
  split at h
  ·cases h
  ·have:=Qkb hq n (m+1) _ r (hp.mul hq (by omega)) h
   rwa[show m+1+n=m+(n+1)by omega]at this
theorem Q1k{l:List (List Tm×Nat)}{i:Nat}{p:List Tm}(h:i<l.length):Qgy (l.drop i) p=(Qda l[i].1 l[i].2 p).bind (Qgy (l.drop (i+1))):=by
 rw[List.drop_eq_getElem_cons h];rfl
def Qjt(fs:List (List Tm))(ps:List Int):List (List Tm×Nat):=fs.zip (ps.map Int.toNat)
theorem Qk8{fs:List (List Tm)}{ps:List Int}(h:fs.length=ps.length):(Qjt fs ps).length=fs.length:=by simp[Qjt,h]
theorem Q0e{fs:List (List Tm)}{ps:List Int}(h:fs.length=ps.length){i:Nat}(hi:i<fs.length):(Qjt fs ps)[i]'(by rw[Qk8 h];exact hi)=(fs[i],(ps[i]'(by omega)).toNat):=by
 simp[Qjt,List.getElem_zip]
theorem Qws{ps:List Int}(h:Qlw ps=true){i:Nat}(hi:i<ps.length):0<=ps[i]/\ps[i]<=64:=by
 have:=List.all_eq_true.1 h _ (List.getElem_mem hi)
 simpa using this
theorem Q70{ps:List Int}{i:Nat}(hi:i<ps.length)(h:¬(0<=ps[i]/\ps[i]<=64)):Qlw ps=false:=by
 unfold Qlw
 rw[List.all_eq_false];exact⟨_,List.getElem_mem hi,by simpa using h⟩
theorem Q71{ps:List Int}(h:∀j (hj:j<ps.length),0<=ps[j]/\ps[j]<=64):Qlw ps=true:=by
 unfold Qlw
 rw[List.all_eq_true]
 intro x hx
 obtain⟨j,hj,rfl⟩:=List.getElem_of_mem hx
 exact decide_eq_true (h j hj)
theorem Qwt{fs:List (List Tm)}{ps:List Int}(h:fs.length=ps.length)(hp:Qlw ps=false):Qdi fs ps=([],2):=by
 unfold Qdi;rw[if_pos h,hp];rfl
theorem Qad1{fs:List (List Tm)}{ps:List Int}(h:fs.length=ps.length)(hp:Qlw ps=true):Qdi fs ps=Qir (Qgy (Qjt fs ps) (Qcb 1)):=by
 unfold Qdi;rw[if_pos h,hp];rfl
theorem Q72{l:List (List Tm×Nat)}(hl:∀x∈l,Sml x.1/\x.2<=64):∀(m:Nat)(p r:List Tm),Prd m p->Qgy l p=some r->∃n,n<=m+64*l.length/\Prd n r:=by
 induction l with
 |nil=>intro m p r hp h;cases h;exact⟨m,by omega,hp⟩
 | cons x l ih=>
  intro m p r hp h
  obtain⟨h1,h2⟩:=hl x (List.mem_cons_self ..)
  show ∃n,_
  unfold Qgy at h
  cases hr:Qda x.1 x.2 p with
  |none=>rw[hr]at h;cases h
  |some s=>
   rw[hr]at h
   obtain⟨n,h3,h4⟩:=ih (fun y hy=>hl y (List.mem_cons_of_mem _ hy)) (m+x.2) s r (Qkb h1 _ _ _ _ hp hr) h
   exact⟨n,by rw[List.length_cons];omega,h4⟩
theorem Q73{fs:List (List Tm)}{ps:List Int}(hf:∀c∈fs,Sml c)(hl:fs.length<=8)(h:(Qdi fs ps).2=0):∃n,n<=512/\Prd n (Qdi fs ps).1:=by
 unfold Qdi at h⊢
 split at h
 ·rename_i h1
  rw[if_pos h1]
  split at h
  ·rename_i h2
   rw[if_pos h2]
   cases hr:Qgy (Qjt fs ps) (Qcb 1)with
   |none=>unfold Qjt at hr;rw[hr]at h;cases h
   | some r=>
    have hr':=hr
    unfold Qjt at hr'
    rw[hr']
    obtain⟨n,h3,h4⟩:=Q72 (l:=Qjt fs ps) (fun x hx=>by
     obtain⟨i,hi,rfl⟩:=List.getElem_of_mem hx
     have hi':i<fs.length:=by rwa[Qk8 h1]at hi
     rw[Q0e h1 hi']
     have:=Qws h2 (i:=i) (by omega)
     exact⟨hf _ (List.getElem_mem hi'),by simp only;omega⟩) 0 _ r Prd.one hr
    rw[Qk8 h1]at h3
    exact⟨n,by omega,h4⟩
  ·cases h
 ·cases h
theorem Qrh{l:List (List Tm×List Tm)}{s:List Tm}:∀k i,k=l.length-i->i<=l.length->(Qct l i).length<=4000->Qge (l.drop i) (Qct l i)=some s->s=Qct l l.length/\s.length<=4000
 |0,i,hk,hi,hl,h=>by
  obtain rfl:i=l.length:=by omega
  rw[List.drop_length]at h
  cases h;exact⟨rfl,hl⟩
 |k+1,i,hk,hi,hl,h=>by
  have hi':i<l.length:=by omega
  rw[Qrg hi']at h
  split at h
  ·cases h
  ·exact Qrh k (i+1) (by omega) (by omega) (by omega) h
theorem Qad2{cs ls:List (List Tm)}(h:(Qck cs ls).2=0):cs.length=ls.length/\Qge (cs.zip ls) []=some (Qck cs ls).1/\(Qck cs ls).1=Qct (cs.zip ls) (cs.zip ls).length/\(Qck cs ls).1.length<=4000:=by
 unfold Qck at h⊢
 split at h
 ·rename_i he
  rw[if_pos he]
  cases hr:Qge (cs.zip ls) []with
  |none=>rw[hr]at h;cases h
  |some s=>
   obtain⟨h1,h2⟩:=Qrh _ 0 rfl (by omega) (by simp[Qct]) (s:=s) (by exact hr)
   exact⟨he,rfl,h1,h2⟩
 ·cases h
theorem Qad3{cs ls:List (List Tm)}(h1:∀c∈cs,Big c)(h2:∀c∈ls,Sml c)(hl:cs.length<=8):PB 268435456 32768 (Qck cs ls).1/\Nrm (Qck cs ls).1/\(Qck cs ls).1.length<=4000:=by
 by_cases h:(Qck cs ls).2=0
 ·obtain⟨_,_,h3,h4⟩:=Qad2 h
  have:=Q2u h1 h2 hl (Nat.le_refl _)
  rw[<-h3]at this
  exact⟨this.1,this.2,h4⟩
 ·have e:(Qck cs ls).1=[]:=by
   unfold Qck at h⊢
   split
   ·rename_i he
    rw[if_pos he]at h
    cases hr:Qge (cs.zip ls) []with
    |none=>rfl
    |some s=>rw[hr]at h;exact absurd rfl h
   ·rfl
  rw[e];exact⟨PB.nil _ _,Nrm.nil,by simp⟩
end Go.FW
