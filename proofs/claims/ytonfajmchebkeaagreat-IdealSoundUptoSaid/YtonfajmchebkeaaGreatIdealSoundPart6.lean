/- Part 6 of the proof of IdealSound: FwUI, FwUJ, FwWA, FwWB, FwWC, FwWD, FwUH, FwUK, FwWE. Own lemmas; no conditions. -/
import Derived.Test.YtonfajmchebkeaaGreatIdealSoundPart5
set_option linter.unusedSimpArgs false
set_option linter.unnecessarySimpa false
set_option linter.unusedVariables false
namespace Go.FW
open Go
def Qbb(c:Rat):Rat:=if c<0 then -c else c
theorem Qbx(c:Rat):0<=Qbb c:=by unfold Qbb;grind
theorem Qz0(a b:Rat):Qbb (a+b)<=Qbb a+Qbb b:=by unfold Qbb;grind
theorem Qg6(a b:Rat):Qbb (a*b)=Qbb a*Qbb b:=by
 have pos:∀x:Rat,0<=x->Qbb x=x:=fun x h=>by unfold Qbb;grind
 have neg:∀x:Rat,x<=0->Qbb x= -x:=fun x h=>by unfold Qbb;grind
 rcases Decidable.em (0<=a)with ha|ha<;>rcases Decidable.em (0<=b)with hb|hb
 ·rw[pos _ (Rat.mul_nonneg ha hb),pos _ ha,pos _ hb]
 ·have h:=Rat.mul_nonneg ha (show 0<= -b by grind)
  rw[neg (a*b) (by grind),pos _ ha,neg b (by grind)];grind
 ·have h:=Rat.mul_nonneg (show 0<= -a by grind) hb
  rw[neg (a*b) (by grind),neg a (by grind),pos _ hb];grind
 ·have h:=Rat.mul_nonneg (show 0<= -a by grind) (show 0<= -b by grind)
  rw[pos (a*b) (by grind),neg a (by grind),neg b (by grind)];grind
theorem Qil(z:Int):Qbb (z:Rat)=((z.natAbs:Nat):Rat):=by
 rw[<-Rat.intCast_natCast]
 unfold Qbb
 split
 ·rename_i h
  have h':z<0:=by have:=(Rat.intCast_lt_intCast (a:=z) (b:=0)).1 (by simpa using h);exact this
  rw[<-Rat.intCast_neg];congr 1;omega
 ·rename_i h
  have h':¬z<0:=fun hz=>h (by have:=(Rat.intCast_lt_intCast (a:=z) (b:=0)).2 hz;simpa using this)
  congr 1;omega
def psi(m:List Int):Nat:=(eN m 3).toNat*729+(eN m 2).toNat*81+(eN m 1).toNat*9+(eN m 0).toNat
theorem Qmv{a b:List Int}(ha:∀i,0<=eN a i)(hb:∀i,0<=eN b i):psi (Qal a b)=psi a+psi b:=by
 have a0:=ha 0;have a1:=ha 1;have a2:=ha 2;have a3:=ha 3
 have b0:=hb 0;have b1:=hb 1;have b2:=hb 2;have b3:=hb 3
 simp only[psi,Qdh]
 omega
theorem Q2d:psi []=0:=rfl
theorem Qwp{a b:List Int}(h:Qah a b=0):psi a=psi b:=by
 have key:∀i,eN a i=eN b i:=fun i=>by
  by_cases hi:i<max a.length b.length
  ·exact(Qjc a b _).1 h i hi
  ·rw[Qdb (by omega),Qdb (by omega)]
 simp only[psi,key]
theorem cmp4{a b:List Int}(ha:a.length<=4)(hb:b.length<=4):Qah a b=Qcb a b 4:=(Qij (by omega)).symm
theorem Q2e{a b:List Int}(ha:a.length<=4)(hb:b.length<=4)(h:Qah a b<0):
  eN a 3<eN b 3∨(eN a 3=eN b 3/\(eN a 2<eN b 2∨(eN a 2=eN b 2/\(eN a 1<eN b 1∨(eN a 1=eN b 1/\eN a 0<eN b 0))))):=by
 rw[cmp4 ha hb]at h
 simp only[Qcb]at h
 have z3:=Qkb (x:=eN a 3) (y:=eN b 3)
 have z2:=Qkb (x:=eN a 2) (y:=eN b 2)
 have z1:=Qkb (x:=eN a 1) (y:=eN b 1)
 have z0:=Qkb (x:=eN a 0) (y:=eN b 0)
 by_cases e3:eN a 3=eN b 3
 ·rw[if_pos e3]at h
  refine .inr ⟨e3,?_⟩
  by_cases e2:eN a 2=eN b 2
  ·rw[if_pos e2]at h
   refine .inr ⟨e2,?_⟩
   by_cases e1:eN a 1=eN b 1
   ·rw[if_pos e1]at h
    refine .inr ⟨e1,?_⟩
    by_cases e0:eN a 0=eN b 0
    ·rw[if_pos e0]at h;omega
    ·rw[if_neg e0]at h;exact z0.1 h
   ·rw[if_neg e1]at h;exact .inl (z1.1 h)
  ·rw[if_neg e2]at h;exact .inl (z2.1 h)
 ·rw[if_neg e3]at h;exact .inl (z3.1 h)
theorem Qamk{a b:List Int}(ha:MB 8 a)(hb:MB 8 b)(la:a.length<=4)(lb:b.length<=4)(h:Qah a b<0):psi a<psi b:=by
 have a0:=ha.eN 0;have a1:=ha.eN 1;have a2:=ha.eN 2;have a3:=ha.eN 3
 have b0:=hb.eN 0;have b1:=hb.eN 1;have b2:=hb.eN 2;have b3:=hb.eN 3
 have:=Q2e la lb h
 simp only[psi]
 omega
def nW(W:Rat):List Tm->Rat
 | []=>0
 |t::p=>Qbb t.1*W^psi t.2+nW W p
theorem Qg7(W:Rat)(m:Nat):∀n:Nat,W^(m+n)=W^m*W^n
 |0=>by rw[Nat.add_zero,Rat.pow_zero,Rat.mul_one]
 |n+1=>by rw[<-Nat.add_assoc,Rat.pow_succ,Qg7 W m n,Rat.pow_succ,Rat.mul_assoc]
theorem Qeq{W:Rat}(h:0<=W):∀n:Nat,0<=W^n
 |0=>by rw[Rat.pow_zero];decide
 |n+1=>by rw[Rat.pow_succ];exact Rat.mul_nonneg (Qeq h n) h
theorem Qoh{W:Rat}(h:1<=W):∀n:Nat,1<=W^n
 |0=>by rw[Rat.pow_zero];decide
 |n+1=>by
  rw[Rat.pow_succ]
  have h1:=Qoh h n
  have:=Rat.mul_le_mul_of_nonneg_right h1 (show(0:Rat)<=W by grind)
  grind
theorem Qz1{W:Rat}(h:1<=W){m n:Nat}(hm:m<=n):W^m<=W^n:=by
 obtain⟨k,rfl⟩:∃k,n=m+k:=⟨n-m,by omega⟩
 rw[Qg7]
 have h1:=Qoh h k
 have h2:=Qeq (show(0:Rat)<=W by grind) m
 have:=Rat.mul_le_mul_of_nonneg_left h1 h2
 grind
theorem Qfv{W:Rat}(h:0<=W)(c:Rat)(m:List Int):0<=Qbb c*W^psi m:=Rat.mul_nonneg (Qbx c) (Qeq h _)
theorem Qwq{W:Rat}(h:0<=W):∀p,0<=nW W p
 | []=>by simp only[nW];decide
 |t::p=>by
  have h1:=Qfv h t.1 t.2
  have h2:=Qwq h p
  simp only[nW];grind
theorem Qaiu{W:Rat}(h:0<=W)(p q:List Tm):nW W (Qx p q)<=nW W p+nW W q:=by
 induction p,q using Qx.induct with
 |case1 q=>rw[Qd4];simp only[nW];grind
 |case2 p hp=>rw[Qb6];simp only[nW];grind
 |case3 c m p d l q h1 ih=>rw[Qx,if_pos h1];simp only[nW]at ih ⊢;grind
 |case4 c m p d l q h1 h2 ih=>rw[Qx,if_neg h1,if_pos h2];simp only[nW]at ih ⊢;grind
 |case5 c m p d l q h1 h2 h3 ih=>
  rw[Qx,if_neg h1,if_neg h2,if_pos h3]
  have g1:=Qfv h c m
  have g2:=Qfv h d l
  simp only[nW]at ih ⊢;grind
 |case6 c m p d l q h1 h2 h3 ih=>
  rw[Qx,if_neg h1,if_neg h2,if_neg h3]
  have e:psi m=psi l:=Qwp (by omega)
  have g:=Rat.mul_le_mul_of_nonneg_right (Qz0 c d) (Qeq h (psi m))
  simp only[nW]at ih⊢
  rw[<-e]
  grind
def Pos(p:List Tm):Prop:=∀t∈p,∀i,0<=eN t.2 i
theorem Qpp{W:Rat}(h:0<=W){t:Tm}(ht:∀i,0<=eN t.2 i):∀ {p:List Tm},Pos p->nW W (Q5 p t)<=Qbb t.1*W^psi t.2*nW W p
 | [],_=>by simp only[Q5,List.filterMap_nil,nW];grind
 | x::p,hp=>by
  have ih:=Qpp h ht (p:=p) (fun s hs=>hp s (by simp[hs]))
  have hx:=hp x (by simp)
  have e1:nW W (Q5 (x::p) t)<=Qbb (x.1*t.1)*W^psi (Qal x.2 t.2)+nW W (Q5 p t):=by
   have g:=Qfv h (x.1*t.1) (Qal x.2 t.2)
   unfold Q5
   rw[List.filterMap_cons]
   by_cases hz:x.1*t.1=0
   ·rw[if_pos hz];grind
   ·rw[if_neg hz];simp only[nW];grind
  rw[Qmv hx ht,Qg6,Qg7]at e1
  simp only[nW]
  grind
def IsI(c:Rat):Prop:=∃z:Int,c=(z:Rat)
theorem IsI.add{a b:Rat}:IsI a->IsI b->IsI (a+b):=fun⟨x,hx⟩ ⟨y,hy⟩=>⟨x+y,by rw[hx,hy,Rat.intCast_add]⟩
theorem IsI.mul{a b:Rat}:IsI a->IsI b->IsI (a*b):=fun⟨x,hx⟩ ⟨y,hy⟩=>⟨x*y,by rw[hx,hy,Rat.intCast_mul]⟩
theorem IsI.neg{a:Rat}:IsI a->IsI (-a):=fun⟨x,hx⟩=>⟨-x,by rw[hx,Rat.intCast_neg]⟩
theorem IsI.nat(n:Nat):IsI (n:Rat):=⟨n,(Rat.intCast_natCast n).symm⟩
theorem IsI.pow{a:Rat}(h:IsI a):∀n:Nat,IsI (a^n)
 |0=>⟨1,by rw[Rat.pow_zero];rfl⟩
 |n+1=>by rw[Rat.pow_succ];exact(IsI.pow h n).mul h
def IW(D F:Rat)(N:Nat)(p:List Tm):Prop:=∀t∈p,psi t.2<=N/\IsI (t.1*(D*F^(N-psi t.2)))
theorem IW.cons{D F:Rat}{N:Nat}{t:Tm}{p:List Tm}:IW D F N (t::p)↔(psi t.2<=N/\IsI (t.1*(D*F^(N-psi t.2))))/\IW D F N p:=by simp[IW]
theorem Qaiv{D F:Rat}{N:Nat}(p q:List Tm):IW D F N p->IW D F N q->IW D F N (Qx p q):=by
 induction p,q using Qx.induct with
 |case1 q=>intro _ h;rwa[Qd4]
 |case2 p hp=>intro h _;rwa[Qb6]
 |case3 c m p d l q h1 ih=>intro hp hq;rw[Qx,if_pos h1,IW.cons];rw[IW.cons]at hp;exact⟨hp.1,ih hp.2 hq⟩
 |case4 c m p d l q h1 h2 ih=>intro hp hq;rw[Qx,if_neg h1,if_pos h2,IW.cons];have hq':=IW.cons.1 hq;exact⟨hq'.1,ih hp hq'.2⟩
 |case5 c m p d l q h1 h2 h3 ih=>intro hp hq;rw[Qx,if_neg h1,if_neg h2,if_pos h3];exact ih (IW.cons.1 hp).2 (IW.cons.1 hq).2
 |case6 c m p d l q h1 h2 h3 ih=>
  intro hp hq
  rw[Qx,if_neg h1,if_neg h2,if_neg h3,IW.cons]
  have e:psi m=psi l:=Qwp (by omega)
  obtain⟨⟨a1,a2⟩,a3⟩:=IW.cons.1 hp
  obtain⟨⟨b1,b2⟩,b3⟩:=IW.cons.1 hq
  refine⟨⟨a1,?_⟩,ih a3 b3⟩
  simp only at a2 b2⊢
  rw[<-e]at b2
  rw[Rat.add_mul]
  exact a2.add b2
theorem Qwr{D F:Rat}{N:Nat}{t:Tm}{p:List Tm}(h:∀s∈p,psi (Qal s.2 t.2)<=N/\IsI (s.1*t.1*(D*F^(N-psi (Qal s.2 t.2))))):IW D F N (Q5 p t):=by
 intro x hx
 simp only[Q5,List.mem_filterMap]at hx
 obtain⟨s,hs,e⟩:=hx
 split at e
 ·cases e
 ·obtain rfl:(s.1*t.1,Qal s.2 t.2)=x:=by simpa using e
  exact h s hs
theorem Qve(t:Tm)(q:List Tm):Qad [t] q=Q5 q t:=by
 unfold Qad
 split
 ·rename_i h
  have:q=[]:=by simpa using h
  subst this
  simp[Qf2,Qa9,Q5]
 ·simp[Qf2,Qa9]
theorem Q4p(p:List Tm):Qnt p=Q5 p (-1,[]):=by rw[Qnt,Qav,if_neg (by decide)]
theorem Qadq{x y:Tm}{p q:List Tm}{K E:Nat}(bp:PB K E (x::p))(bq:PB K E (y::q))(np:Nrm (x::p))(nq:Nrm (y::q))(hd:Qfz y.2 x.2=true):
  exN (y::q) (x::p)=Qnu p (Qad [(x.1/y.1,Qb2 x.2 y.2)] q):=by
 have hy:=nq.z y (by simp)
 have hm:Qal (Qb2 x.2 y.2) y.2=x.2:=Qg5 (bp x (by simp)).m (bq y (by simp)).m (bp x (by simp)).l hd
 have nT:Nrm (Qad [(x.1/y.1,Qb2 x.2 y.2)] q):=Qc2 (Qiw _) nq.tail.s
 refine Qkd (Qmu np nq) (Qzf np.tail nT) fun φ=> ?_
 rw[Qvd np nq,Qze φ np.tail.c nT,Qor]
 show pev φ (x::p)-x.1/y.1*pev (fun m=>φ (Qal (Qb2 x.2 y.2) m)) (y::q)=pev φ p-x.1/y.1*pev (fun m=>φ (Qal (Qb2 x.2 y.2) m)) q
 rw[Qaq,Qaq,hm]
 generalize φ x.2=a
 generalize pev φ p=b
 generalize pev (fun m=>φ (Qal (Qb2 x.2 y.2) m)) q=c
 grind
structure QOk(F W:Rat)(y:Tm)(q:List Tm):Prop where
 w:1<=W
 f:IsI F
 lt:∀s∈q,psi s.2<psi y.2
 i:∀s∈q,IsI (s.1/y.1*F)
 n:nW W q<=Qbb y.1*W^psi y.2
 pos:Pos (y::q)
 ml:ML 4 (y::q)
theorem Qz2{k l:Nat}{a b:List Int}(ha:MB k a)(hb:MB l b)(h:Qfz b a=true):∀i,0<=eN (Qb2 a b) i:=fun i=>by
 rw[Qvc];have:=(Qsc ha).1 h i;omega
theorem Qaml{D F W:Rat}{N:Nat}{x y:Tm}{p q:List Tm}{K E:Nat}(hQ:QOk F W y q)(bp:PB K E (x::p))(bq:PB K E (y::q))(np:Nrm (x::p))(nq:Nrm (y::q))(hd:Qfz y.2 x.2=true)
  (hI:IW D F N (x::p)) (hP:Pos (x::p)) (hM:ML 4 (x::p)):
  IW D F N (exN (y::q) (x::p))/\nW W (exN (y::q) (x::p))<=nW W (x::p)/\Pos (exN (y::q) (x::p))/\ML 4 (exN (y::q) (x::p)):=by
 have hW0:0<=W:=by have:=hQ.w;grind
 have hy0:=nq.z y (by simp)
 have hxm:=(bp x (by simp)).m
 have hym:=(bq y (by simp)).m
 have hm:Qal (Qb2 x.2 y.2) y.2=x.2:=Qg5 hxm hym (bp x (by simp)).l hd
 have htp:=Qz2 hxm hym hd
 have hpsi:psi x.2=psi (Qb2 x.2 y.2)+psi y.2:=by
  conv=>lhs;rw[<-hm]
  exact Qmv htp (hQ.pos y (by simp))
 have hql:(Qb2 x.2 y.2).length<=4:=by
  have h1:=Qd3 (Qee (· - ·) x.2 y.2)
  rw[Qbi]at h1
  have:=hM x (by simp)
  have:=hQ.ml y (by simp)
  unfold Qb2;omega
 have hqP:Pos q:=fun s hs=>hQ.pos s (by simp[hs])
 obtain⟨⟨i1,i2⟩,i3⟩:=IW.cons.1 hI
 have hn1:∀i,0<=eN ((-1:Rat),([]:List Int)).2 i:=fun i=>by rw[Qyz];omega
 have posT:Pos (Q5 q (x.1/y.1,Qb2 x.2 y.2)):=fun t ht i=>by
  obtain⟨s,hs,e⟩:=Qgp ht
  rw[e,Qdh]
  have:=hqP s hs i
  have:=htp i
  simp only;omega
 rw[Qadq bp bq np nq hd,Qnu,Qve,Q4p]
 refine⟨?_,?_,?_,?_⟩
 ·refine Qaiv _ _ i3 (Qwr fun u hu=> ?_)
  obtain⟨a1,a2⟩:=(Qwr (D:=D) (F:=F) (N:=N) (t:=(x.1/y.1,Qb2 x.2 y.2)) (p:=q) fun s hs=>by
   have hlt:=hQ.lt s hs
   have e:=Qmv (hqP s hs) htp
   refine⟨by simp only;omega,?_⟩
   simp only
   rw[e,show N-(psi s.2+psi (Qb2 x.2 y.2))=(N-psi x.2)+(1+(psi y.2-psi s.2-1))by omega,Qg7,Qg7,show F^1=F by rw[Rat.pow_succ,Rat.pow_zero,Rat.one_mul]]
   have:=(i2.mul (hQ.i s hs)).mul (hQ.f.pow (psi y.2-psi s.2-1))
   have e2:s.1*(x.1/y.1)*(D*(F^(N-psi x.2)*(F*F^(psi y.2-psi s.2-1))))=x.1*(D*F^(N-psi x.2))*(s.1/y.1*F)*F^(psi y.2-psi s.2-1):=by
    generalize F^(N-psi x.2)=A
    generalize F^(psi y.2-psi s.2-1)=B
    grind
   rw[e2];exact this) u hu
  have e:=Qmv (posT u hu) hn1
  rw[Q2d,Nat.add_zero]at e
  rw[e]
  refine⟨a1,?_⟩
  have:=a2.neg
  have e2:u.1* -1*(D*F^(N-psi u.2))= -(u.1*(D*F^(N-psi u.2))):=by grind
  rw[e2];exact this
 ·have h1:=Qaiu hW0 p (Q5 (Q5 q (x.1/y.1,Qb2 x.2 y.2)) (-1,[]))
  have h2:=Qpp hW0 (t:=(-1,[])) hn1 posT
  have h3:=Qpp hW0 (t:=(x.1/y.1,Qb2 x.2 y.2)) htp hqP
  have h4:Qbb (-1)*W^psi ([]:List Int)=1:=by rw[Q2d,Rat.pow_zero];decide+kernel
  simp only at h2 h3
  rw[h4,Rat.one_mul]at h2
  have h5:=Rat.mul_le_mul_of_nonneg_left hQ.n (Rat.mul_nonneg (Qbx (x.1/y.1)) (Qeq hW0 (psi (Qb2 x.2 y.2))))
  have h6:Qbb (x.1/y.1)*W^psi (Qb2 x.2 y.2)*(Qbb y.1*W^psi y.2)=Qbb x.1*W^psi x.2:=by
   rw[hpsi,Qg7]
   have:Qbb x.1=Qbb (x.1/y.1)*Qbb y.1:=by rw[<-Qg6];congr 1;grind
   rw[this]
   grind
  rw[h6]at h5
  simp only[nW]
  grind
 ·intro t ht i
  rcases Qfm ht with h|⟨s,hs,e⟩
  ·obtain⟨s,hs,e⟩:=h
   rw[<-e];exact hP s (by simp[hs]) i
  ·obtain⟨u,hu,e2⟩:=Qgp hs
   rw[<-e,e2,Qdh,Qyz]
   have:=posT u hu i
   omega
 ·intro t ht
  rcases Qfm ht with h|⟨s,hs,e⟩
  ·obtain⟨s,hs,e⟩:=h
   rw[<-e];exact hM s (by simp[hs])
  ·obtain⟨u,hu,e2⟩:=Qgp hs
   obtain⟨r,hr,e3⟩:=Qgp hu
   rw[<-e,e2]
   have l1:=Qn8 u.2 ((-1:Rat),([]:List Int)).2
   have l2:=Qn8 r.2 (x.1/y.1,Qb2 x.2 y.2).2
   rw[e3]at l1⊢
   have:=hQ.ml r (by simp[hr])
   simp only[List.length_nil]at l1 l2⊢
   omega
end Go.FW
namespace Go.FW
open Go
def c4(m:List Int):Nat:=(((eN m 3).toNat*81+(eN m 2).toNat)*729+(eN m 1).toNat)*6561+(eN m 0).toNat
theorem Qaee{a b:List Int}(ha:∀i,0<=eN a i)(hb:∀i,0<=eN b i)(la:a.length<=4)(lb:b.length<=4)(pa:psi a<=6560)(pb:psi b<=6560)(h:Qah a b<0):c4 a<c4 b:=by
 have a0:=ha 0;have a1:=ha 1;have a2:=ha 2;have a3:=ha 3
 have b0:=hb 0;have b1:=hb 1;have b2:=hb 2;have b3:=hb 3
 have:=Q2e la lb h
 simp only[psi]at pa pb
 simp only[c4,Zo,Zg,Zm,Zc,Zf,Zl,Zh,Zs,Zi,Zb,Zk,Zn,Zu,Zq,Zr,Zz]
 omega
theorem Qaef{a:List Int}(pa:psi a<=6560):c4 a<2^32:=by
 simp only[psi]at pa
 simp only[c4,Zo,Zg,Zm,Zc,Zf,Zl,Zh,Zs,Zi,Zb,Zk,Zn,Zu,Zq,Zr,Zz]
 omega
structure ExI(D F W N0:Rat)(p:List Tm):Prop where
 i:IW D F 6560 p
 n:nW W p<=N0
 pos:Pos p
 ml:ML 4 p
 nrm:Nrm p
theorem Q4q{p:List Tm}:(∀t∈p,psi t.2<=6560)->Pos p->ML 4 p->Qbf p->p≠[]->p.length<=c4 (hdT p).2+1:=by
 induction p with
 |nil=>intro _ _ _ _ h;exact absurd rfl h
 | cons t p ih=>
  intro hp hP hM hs _
  cases p with
  |nil=>simp
  |cons s p=>
   have h1:=ih (fun x hx=>hp x (by simp[hx])) (fun x hx=>hP x (by simp[hx])) (fun x hx=>hM x (by simp[hx])) hs.2 (by simp)
   have h2:=hs.1 s (by simp)
   have h3:=Qc9 t.2 s.2
   have h4:=Qaee (hP s (by simp)) (hP t (by simp)) (hM s (by simp)) (hM t (by simp)) (hp s (by simp)) (hp t (by simp)) (by omega)
   simp only[hdT,List.headD_cons,List.length_cons]at h1⊢
   omega
theorem ExI.len{D F W N0:Rat}{p:List Tm}(h:ExI D F W N0 p):p.length<=2^32:=by
 by_cases h0:p=[]
 ·subst h0;simp
 ·have h1:=Q4q (fun t ht=>(h.i t ht).1) h.pos h.ml h.nrm.s h0
  have:=Qaef (h.i _ (Qay h0)).1
  omega
theorem Qz3{W:Rat}(h:1<=W):∀ {p:List Tm} {t:Tm},t∈p->Qbb t.1<=nW W p
 | s::p,t,ht=>by
  have h0:(0:Rat)<=W:=by grind
  have h1:=Qwq h0 p
  have h2:=Qfv h0 s.1 s.2
  simp only[nW]
  rcases List.mem_cons.1 ht with rfl|ht
  ·have h3:=Rat.mul_le_mul_of_nonneg_left (Qoh h (psi t.2)) (Qbx t.1)
   grind
  ·have:=Qz3 h ht
   grind
theorem Qt3(x:Nat):∀n:Nat,nl (x^n)<=n*nl x+1
 |0=>by rw[Nat.pow_zero,Qem];omega
 |n+1=>by
  rw[Nat.pow_succ,Nat.succ_mul]
  have:=Qb1 (x^n) x
  have:=Qt3 x n
  omega
theorem ExI.PB{d f w n0 L:Nat}{p:List Tm}(h:ExI d f w n0 p)(hd:0<d)(hf:0<f)(hw:0<w)(hn0:0<n0)(hL:nl (n0*(d*f^6560))<L):PB L 6560 p:=by
 intro t ht
 obtain⟨h1,z,hz⟩:=h.i t ht
 have hw1:(1:Rat)<=(w:Rat):=by
  rw[<-Rat.intCast_natCast,show(1:Rat)=((1:Int):Rat)from rfl,Rat.intCast_le_intCast];omega
 have hN:Qbb t.1<=(n0:Rat):=by have:=Qz3 hw1 ht;have:=h.n;grind
 have hX:(d:Rat)*(f:Rat)^(6560-psi t.2)=((d*f^(6560-psi t.2):Nat):Rat):=by
  rw[Rat.natCast_mul,Rat.natCast_pow]
 have hkey:∀N k:Nat,k<=N->d*f^k<=d*f^N:=fun N k h=>Nat.mul_le_mul_left _ (Nat.pow_le_pow_right hf h)
 have hXl:=hkey 6560 (6560-psi t.2) (Nat.sub_le _ _)
 have hX0:0<d*f^(6560-psi t.2):=Nat.mul_pos hd (Nat.pow_pos hf)
 rw[hX]at hz
 generalize d*f^(6560-psi t.2)=X at *
 generalize d*f^6560=Y at *
 have hXr:((X:Int):Rat)≠0:=by rw[Ne,Rat.intCast_eq_zero_iff];omega
 have e:t.1=(z:Rat)/((X:Int):Rat):=by rw[<-hz,Rat.intCast_natCast];rw[Rat.intCast_natCast]at hXr;grind
 have hzl:z.natAbs<=n0*Y:=by
  have h2:Qbb (z:Rat)=Qbb t.1*(X:Rat):=by
   rw[<-hz,Qg6];congr 1
   rw[<-Rat.intCast_natCast,Qil,Int.natAbs_natCast,Rat.intCast_natCast]
  rw[Qil]at h2
  have h3:(0:Rat)<=(X:Rat):=by rw[<-Rat.intCast_natCast,show(0:Rat)=((0:Int):Rat)from rfl,Rat.intCast_le_intCast];omega
  have h4:=Rat.mul_le_mul_of_nonneg_right hN h3
  rw[<-h2,<-Rat.natCast_mul,<-Rat.intCast_natCast,<-Rat.intCast_natCast,Rat.intCast_le_intCast]at h4
  have h5:=Nat.mul_le_mul_left n0 hXl
  omega
 have hr:=Qzx z (X:Int) (by omega)
 rw[<-e,Int.natAbs_natCast]at hr
 have g1:=Qbm hzl
 have g2:nl X<=nl (n0*Y):=by
  exact Qbm (Nat.le_trans hXl (Nat.le_mul_of_pos_left _ hn0))
 have g3:1<=nl X:=by
  apply Decidable.byContradiction;intro hc
  have:=Qgl.1 (show nl X=0 by omega)
  omega
 refine⟨by omega,⟨by have:=h.ml t ht;omega,fun x hx=> ?_,fun x hx=> ?_⟩,h.nrm.c t ht⟩
 all_goals
  obtain⟨i,hi,rfl⟩:=List.getElem_of_mem hx
  have hp:=h.pos t ht i
  rw[Qco hi]at hp
 ·exact hp
 ·have hl:=h.ml t ht
  simp only[psi]at h1
  rw[<-Qco hi]
  rw[<-Qco hi]at hp
  have:i=0∨i=1∨i=2∨i=3:=by omega
  rcases this with rfl|rfl|rfl|rfl<;>omega
theorem ExI.step{D F W N0:Rat}{p q:List Tm}{y:Tm}{K E K' E':Nat}(h:ExI D F W N0 p)(hQ:QOk F W y q)(bp:FW.PB K E p)(bq:FW.PB K' E' (y::q))(nq:Nrm (y::q))(hg:Qe1 (y::q) p):ExI D F W N0 (exN (y::q) p):=by
 cases p with
 |nil=>exact absurd rfl hg.1
 |cons x p=>
  obtain⟨h1,h2,h3,h4⟩:=Qaml (K:=max K K') (E:=max E E') hQ (bp.mono (by omega) (by omega)) (bq.mono (by omega) (by omega)) h.nrm nq hg.2 h.i h.pos h.ml
  exact⟨h1,by have:=h.n;grind,h3,h4,Qmu h.nrm nq⟩
def Qg8(p:List Tm):Nat:=(p.map fun t=>t.1.den).foldr (· * ·) 1
def Qdm(p:List Tm):Nat:=(p.map fun t=>t.1.num.natAbs).foldr (· + ·) 0
theorem Qsd(p:List Tm):0<Qg8 p:=by
 induction p with
 |nil=>simp[Qg8]
 |cons t p ih=>exact Nat.mul_pos (Nat.pos_of_ne_zero t.1.den_nz) ih
theorem Qoi:∀ {p:List Tm} {t:Tm},t∈p->t.1.den∣Qg8 p
 |s::p,t,ht=>by
  rcases List.mem_cons.1 ht with rfl|ht
  ·exact Nat.dvd_mul_right _ _
  ·exact Nat.dvd_trans (Qoi ht) (Nat.dvd_mul_left _ _)
theorem Q2f{p:List Tm}{K E:Nat}(hp:FW.PB K E p):nl (Qg8 p)<=p.length*K+1:=by
 induction p with
 |nil=>simp[Qg8,Qem]
 |cons t p ih=>
  have h1:=ih (PB.cons.1 hp).2
  have h2:=(PB.cons.1 hp).1.c
  have h3:=Qb1 t.1.den (Qg8 p)
  unfold rs at h2
  rw[List.length_cons,Nat.succ_mul]
  have e:Qg8 (t::p)=t.1.den*Qg8 p:=rfl
  rw[e];omega
theorem Q2g{p:List Tm}{K E:Nat}(hp:FW.PB K E p):nl (Qdm p)<=p.length+K:=by
 induction p with
 |nil=>simp[Qdm,Qp7]
 |cons t p ih=>
  have h1:=ih (PB.cons.1 hp).2
  have h2:=(PB.cons.1 hp).1.c
  have h3:=Qmi t.1.num.natAbs (Qdm p)
  unfold rs at h2
  have e:Qdm (t::p)=t.1.num.natAbs+Qdm p:=rfl
  rw[e,List.length_cons];omega
theorem Qvf{c:Rat}{L:Nat}(h:c.den∣L):IsI (c*(L:Rat)):=by
 obtain⟨k,rfl⟩:=h
 refine⟨c.num*(k:Int),?_⟩
 have hd0:=c.den_nz
 have d1:c=(c.num:Rat)/((c.den:Int):Rat):=by
  conv=>lhs;rw[<-Rat.mkRat_self c]
  rw[Rat.mkRat_eq_div,Rat.intCast_natCast]
 have k1:((c.den:Int):Rat)≠0:=by rw[Ne,Rat.intCast_eq_zero_iff];omega
 rw[Rat.natCast_mul,Rat.intCast_mul,Rat.intCast_natCast,<-Rat.intCast_natCast c.den]
 generalize((c.den:Int):Rat)=D at *
 generalize(c.num:Rat)=N at *
 rw[d1]
 grind
theorem Qk3(c:Rat):Qbb c*(c.den:Rat)=((c.num.natAbs:Nat):Rat):=by
 have d1:c*(c.den:Rat)=(c.num:Rat):=by
  have e:c=(c.num:Rat)/((c.den:Int):Rat):=by
   conv=>lhs;rw[<-Rat.mkRat_self c]
   rw[Rat.mkRat_eq_div,Rat.intCast_natCast]
  have k1:((c.den:Int):Rat)≠0:=by rw[Ne,Rat.intCast_eq_zero_iff];have:=c.den_nz;omega
  rw[<-Rat.intCast_natCast]
  generalize((c.den:Int):Rat)=D at *
  generalize(c.num:Rat)=N at *
  rw[e];grind
 rw[<-Qil,<-d1,Qg6]
 congr 1
 rw[<-Rat.intCast_natCast,Qil,Int.natAbs_natCast,Rat.intCast_natCast]
theorem Qcm{a b:Nat}(h:a<=b):(a:Rat)<=(b:Rat):=by
 rw[<-Rat.intCast_natCast,<-Rat.intCast_natCast,Rat.intCast_le_intCast];omega
theorem Qrj(c:Rat):Qbb c<=((c.num.natAbs:Nat):Rat):=by
 have h:=Qk3 c
 have h1:(1:Rat)<=(c.den:Rat):=Qcm (a:=1) (Nat.pos_of_ne_zero c.den_nz)
 have:=Rat.mul_le_mul_of_nonneg_left h1 (Qbx c)
 grind
theorem Qaeg{w:Nat}(hw:0<w){N:Nat}:∀ {p:List Tm},(∀t∈p,psi t.2<=N)->nW w p<=((Qdm p*w^N:Nat):Rat)
 | [],_=>by
  have e:Qdm []=0:=rfl
  rw[e,Nat.zero_mul];exact Rat.le_refl
 |t::p,h=>by
  have hw1:(1:Rat)<=(w:Rat):=Qcm (a:=1) hw
  have h1:=Qaeg hw (p:=p) (fun s hs=>h s (by simp[hs]))
  have h2:=Qz1 hw1 (h t (by simp))
  have h3:=Rat.mul_le_mul_of_nonneg_left h2 (Qbx t.1)
  have h4:=Rat.mul_le_mul_of_nonneg_right (Qrj t.1) (Qeq (show(0:Rat)<=(w:Rat)by grind) N)
  have e:Qdm (t::p)=t.1.num.natAbs+Qdm p:=rfl
  rw[e,Nat.add_mul,Rat.natCast_add,Rat.natCast_mul,Rat.natCast_pow]
  simp only[nW]
  grind
def exW(y:Tm)(q:List Tm):Nat:=Qdm q*y.1.den+1
def Qpq(y:Tm)(q:List Tm):Nat:=Qg8 q*y.1.num.natAbs
theorem qok{y:Tm}{q:List Tm}{K:Nat}(bq:FW.PB K 8 (y::q))(nq:Nrm (y::q))(hm:ML 4 (y::q)):QOk (Qpq y q:Nat) (exW y q:Nat) y q:=by
 have hy0:=nq.z y (by simp)
 have hw1:(1:Rat)<=((exW y q:Nat):Rat):=Qcm (a:=1) (by unfold exW;omega)
 have hlt:∀s∈q,psi s.2<psi y.2:=fun s hs=>by
  have h1:=nq.s.1 s hs
  have h2:=Qc9 y.2 s.2
  exact Qamk (bq s (by simp[hs])).m (bq y (by simp)).m (hm s (by simp[hs])) (hm y (by simp)) (by omega)
 refine⟨hw1,IsI.nat _,hlt,fun s hs=> ?_,?_,fun t ht i=>((bq t ht).m.eN i).1,hm⟩
 ·have h1:=Qvf (Qoi hs)
  have h2:IsI (((y.1.num.natAbs:Nat):Rat)/y.1):=by
   have h3:=Qk3 y.1
   have h4:((y.1.num.natAbs:Nat):Rat)/y.1=(y.1.den:Rat)∨((y.1.num.natAbs:Nat):Rat)/y.1= -(y.1.den:Rat):=by
    rw[<-h3];unfold Qbb;grind
   rcases h4 with h4|h4<;>rw[h4]
   ·exact IsI.nat _
   ·exact(IsI.nat _).neg
  have h5:=h1.mul h2
  have e:s.1/y.1*((Qpq y q:Nat):Rat)=s.1*(Qg8 q:Rat)*(((y.1.num.natAbs:Nat):Rat)/y.1):=by
   unfold Qpq;rw[Rat.natCast_mul];grind
  rw[e];exact h5
 ·cases q with
  |nil=>
   have:=Qfv (W:=((exW y []:Nat):Rat)) (by grind) y.1 y.2
   simp only[nW];exact this
  | cons s q=>
   have hp0:0<psi y.2:=by have:=hlt s (by simp);omega
   obtain⟨n,hn⟩:∃n,psi y.2=n+1:=⟨psi y.2-1,by omega⟩
   have h1:=Qaeg (w:=exW y (s::q)) (by unfold exW;omega) (N:=n) (p:=s::q) (fun t ht=>by have:=hlt t ht;omega)
   rw[Rat.natCast_mul,Rat.natCast_pow]at h1
   have h2:((Qdm (s::q):Nat):Rat)<=Qbb y.1*((exW y (s::q):Nat):Rat):=by
    have h3:=Qk3 y.1
    have h4:(1:Rat)<=((y.1.num.natAbs:Nat):Rat):=Qcm (a:=1) (by
     have:y.1.num≠0:=fun e=>hy0 (Rat.num_eq_zero.1 e)
     omega)
    have h5:=Rat.mul_le_mul_of_nonneg_left h4 (show(0:Rat)<=((Qdm (s::q):Nat):Rat)from Qcm (a:=0) (by omega))
    unfold exW
    rw[Rat.natCast_add,Rat.natCast_mul]
    have h6:=Qbx y.1
    have h7:((1:Nat):Rat)=1:=rfl
    rw[h7]
    generalize((Qdm (s::q):Nat):Rat)=S at *
    grind
   have h8:=Rat.mul_le_mul_of_nonneg_right h2 (Qeq (show(0:Rat)<=((exW y (s::q):Nat):Rat)by grind) n)
   rw[hn,Rat.pow_succ]
   grind
end Go.FW
namespace Go.FW
open Go
def n1:List Tm->Rat
 | []=>0
 |t::p=>Qbb t.1+n1 p
theorem Qlu:∀p,0<=n1 p
 | []=>Rat.le_refl
 |t::p=>by
  have h1:=Qbx t.1
  have h2:=Qlu p
  simp only[n1];grind
theorem Q2h(p q:List Tm):n1 (Qx p q)<=n1 p+n1 q:=by
 induction p,q using Qx.induct with
 |case1 q=>rw[Qd4];simp only[n1];grind
 |case2 p hp=>rw[Qb6];simp only[n1];grind
 |case3 c m p d l q h1 ih=>rw[Qx,if_pos h1];simp only[n1]at ih ⊢;grind
 |case4 c m p d l q h1 h2 ih=>rw[Qx,if_neg h1,if_pos h2];simp only[n1]at ih ⊢;grind
 |case5 c m p d l q h1 h2 h3 ih=>
  rw[Qx,if_neg h1,if_neg h2,if_pos h3]
  have g1:=Qbx c
  have g2:=Qbx d
  simp only[n1]at ih ⊢;grind
 |case6 c m p d l q h1 h2 h3 ih=>
  rw[Qx,if_neg h1,if_neg h2,if_neg h3]
  have g:=Qz0 c d
  simp only[n1]at ih⊢
  grind
theorem Qws(t:Tm):∀p:List Tm,n1 (Q5 p t)<=Qbb t.1*n1 p
 | []=>by simp only[Q5,List.filterMap_nil,n1];grind
 |s::p=>by
  have ih:=Qws t p
  have g:=Qg6 s.1 t.1
  have g2:=Rat.mul_nonneg (Qbx t.1) (Qbx s.1)
  unfold Q5 at ih⊢
  rw[List.filterMap_cons]
  by_cases e:s.1*t.1=0
  ·rw[if_pos e];simp only[n1];grind
  ·rw[if_neg e];simp only[n1];grind
def n1s:List (List Tm)->Rat
 | []=>0
 |p::l=>n1 p+n1s l
theorem Qt4:∀a b:List (List Tm),n1s (a++b)=n1s a+n1s b
 | [],b=>by simp only[List.nil_append,n1s];grind
 |p::a,b=>by
  simp only[List.cons_append,n1s]
  rw[Qt4 a b];grind
theorem Q2i(l:List (List Tm)):n1 (Qa9 l)<=n1s l:=by
 induction l using Qa9.induct with
 |case1=>rw[Qa9];exact Rat.le_refl
 |case2 p=>rw[Qa9];simp only[n1s];grind
 |case3 p q r h1 h2=>
  rw[Qa9]
  have h3:=Q2h (Qa9 ((p::q::r).take ((p::q::r).length/2))) (Qa9 ((p::q::r).drop ((p::q::r).length/2)))
  have h4:=Qt4 ((p::q::r).take ((p::q::r).length/2)) ((p::q::r).drop ((p::q::r).length/2))
  rw[List.take_append_drop]at h4
  rw[h4]
  grind
theorem Qpr(q:List Tm):∀p:List Tm,n1s (p.map (Q5 q))<=n1 p*n1 q
 | []=>by simp only[List.map_nil,n1s,n1];grind
 |t::p=>by
  have ih:=Qpr q p
  have h:=Qws t q
  simp only[List.map_cons,n1s,n1]
  grind
theorem Qaiw(p q:List Tm):n1 (Qad p q)<=n1 p*n1 q:=by
 unfold Qad
 split
 ·have h1:=Q2i (q.map (Q5 p))
  have h2:=Qpr p q
  unfold Qf2;grind
 ·have h1:=Q2i (p.map (Q5 q))
  have h2:=Qpr q p
  unfold Qf2;grind
def Dn(D:Nat)(p:List Tm):Prop:=∀t∈p,IsI (t.1*(D:Rat))
theorem Q2j{D:Nat}(p q:List Tm):Dn D p->Dn D q->Dn D (Qx p q):=by
 induction p,q using Qx.induct with
 |case1 q=>intro _ h;rwa[Qd4]
 |case2 p hp=>intro h _;rwa[Qb6]
 |case3 c m p d l q h1 ih=>
  intro hp hq;rw[Qx,if_pos h1]
  intro t ht
  rcases List.mem_cons.1 ht with rfl|ht
  ·exact hp _ (List.mem_cons_self ..)
  ·exact ih (fun t ht=>hp t (List.mem_cons_of_mem _ ht)) hq t ht
 |case4 c m p d l q h1 h2 ih=>
  intro hp hq;rw[Qx,if_neg h1,if_pos h2]
  intro t ht
  rcases List.mem_cons.1 ht with rfl|ht
  ·exact hq _ (List.mem_cons_self ..)
  ·exact ih hp (fun t ht=>hq t (List.mem_cons_of_mem _ ht)) t ht
 |case5 c m p d l q h1 h2 h3 ih=>
  intro hp hq;rw[Qx,if_neg h1,if_neg h2,if_pos h3]
  exact ih (fun t ht=>hp t (List.mem_cons_of_mem _ ht)) fun t ht=>hq t (List.mem_cons_of_mem _ ht)
 | case6 c m p d l q h1 h2 h3 ih=>
  intro hp hq;rw[Qx,if_neg h1,if_neg h2,if_neg h3]
  intro t ht
  rcases List.mem_cons.1 ht with rfl|ht
  ·have a:=hp (c,m) (List.mem_cons_self ..)
   have b:=hq (d,l) (List.mem_cons_self ..)
   show IsI ((c+d)*(D:Rat))
   rw[Rat.add_mul];exact a.add b
  ·exact ih (fun t ht=>hp t (List.mem_cons_of_mem _ ht)) (fun t ht=>hq t (List.mem_cons_of_mem _ ht)) t ht
theorem Q2k{D:Nat}(l:List (List Tm)):(∀p∈l,Dn D p)->Dn D (Qa9 l):=by
 induction l using Qa9.induct with
 |case1=>intro _;rw[Qa9];intro t ht;cases ht
 |case2 p=>intro h;rw[Qa9];exact h p (List.mem_cons_self ..)
 |case3 p q r h1 h2=>
  intro h
  rw[Qa9]
  exact Q2j _ _ (h1 fun x hx=>h x (List.mem_of_mem_take hx)) (h2 fun x hx=>h x (List.mem_of_mem_drop hx))
theorem Qwt{D D':Nat}{t:Tm}(ht:IsI (t.1*(D':Rat))){p:List Tm}(hp:Dn D p):Dn (D*D') (Q5 p t):=by
 intro x hx
 simp only[Q5,List.mem_filterMap]at hx
 obtain⟨s,hs,e⟩:=hx
 split at e
 ·cases e
 ·obtain rfl:(s.1*t.1,Qal s.2 t.2)=x:=by simpa using e
  have:=(hp s hs).mul ht
  show IsI (s.1*t.1*((D*D':Nat):Rat))
  rw[Rat.natCast_mul,show s.1*t.1*((D:Rat)*(D':Rat))=s.1*(D:Rat)*(t.1*(D':Rat))by grind]
  exact this
theorem Qaix{D D':Nat}{p q:List Tm}(hp:Dn D p)(hq:Dn D' q):Dn (D*D') (Qad p q):=by
 unfold Qad
 split
 ·refine Q2k _ fun x hx=> ?_
  obtain⟨t,ht,rfl⟩:=List.mem_map.1 hx
  exact Qwt (hq t ht) hp
 ·refine Q2k _ fun x hx=> ?_
  obtain⟨t,ht,rfl⟩:=List.mem_map.1 hx
  rw[Nat.mul_comm]
  exact Qwt (hp t ht) hq
theorem Q74:∀ {p:List Tm} {t:Tm},t∈p->Qbb t.1<=n1 p
 | s::p,t,ht=>by
  have h1:=Qlu p
  have h2:=Qbx s.1
  simp only[n1]
  rcases List.mem_cons.1 ht with rfl|ht
  ·grind
  ·have:=Q74 ht
   grind
theorem Qadr{D N:Nat}{p:List Tm}(hD:0<D)(hN:0<N)(hp:Dn D p)(hn:n1 p<=(N:Rat)){t:Tm}(ht:t∈p):rs t.1<=nl (N*D)+nl D+2:=by
 obtain⟨z,hz⟩:=hp t ht
 have hT:=Q74 ht
 have hNt:Qbb t.1<=(N:Rat):=by grind
 have hXr:((D:Int):Rat)≠0:=by rw[Ne,Rat.intCast_eq_zero_iff];omega
 have e:t.1=(z:Rat)/((D:Int):Rat):=by rw[<-hz,Rat.intCast_natCast];rw[Rat.intCast_natCast]at hXr;grind
 have hzl:z.natAbs<=N*D:=by
  have h2:Qbb (z:Rat)=Qbb t.1*(D:Rat):=by
   rw[<-hz,Qg6];congr 1
   rw[<-Rat.intCast_natCast,Qil,Int.natAbs_natCast,Rat.intCast_natCast]
  rw[Qil]at h2
  have h3:(0:Rat)<=(D:Rat):=by rw[<-Rat.intCast_natCast,show(0:Rat)=((0:Int):Rat)from rfl,Rat.intCast_le_intCast];omega
  have h4:=Rat.mul_le_mul_of_nonneg_right hNt h3
  rw[<-h2,<-Rat.natCast_mul,<-Rat.intCast_natCast,<-Rat.intCast_natCast,Rat.intCast_le_intCast]at h4
  omega
 have hr:=Qzx z (D:Int) (by omega)
 rw[<-e,Int.natAbs_natCast]at hr
 have g1:=Qbm hzl
 omega
end Go.FW
namespace Go.FW
open Go
def XB(E:Nat)(p:List Tm):Prop:=∃K,PB K E p
theorem XB.padd{E:Nat}{p q:List Tm}:XB E p->XB E q->XB E (FW.Qx p q):=fun⟨_,h⟩ ⟨_,g⟩=>⟨_,Qu0 p q h g⟩
theorem XB.psum{E:Nat}(l:List (List Tm)):(∀p∈l,XB E p)->XB E (FW.Qa9 l):=by
 induction l using FW.Qa9.induct with
 |case1=>intro _;rw[FW.Qa9];exact⟨0,PB.nil _ _⟩
 |case2 p=>intro h;rw[FW.Qa9];exact h p (List.mem_cons_self ..)
 |case3 p q r h1 h2=>
  intro h
  rw[FW.Qa9]
  exact XB.padd (h1 fun x hx=>h x (List.mem_of_mem_take hx)) (h2 fun x hx=>h x (List.mem_of_mem_drop hx))
theorem XB.pmul{E F:Nat}{p q:List Tm}:XB E p->XB F q->XB (E+F) (FW.Qad p q):=fun⟨K,h⟩ ⟨L,g⟩=>by
 unfold FW.Qad
 split
 ·refine XB.psum _ fun x hx=> ?_
  obtain⟨t,ht,rfl⟩:=List.mem_map.1 hx
  exact⟨K+L,Qfd h (g t ht)⟩
 ·refine XB.psum _ fun x hx=> ?_
  obtain⟨t,ht,rfl⟩:=List.mem_map.1 hx
  rw[Nat.add_comm]
  exact⟨L+K,Qfd g (h t ht)⟩
structure SZ(a b E:Nat)(p:List Tm):Prop where
 d:∃D N:Nat,0<D/\0<N/\nl D<=a/\nl N<=b/\Dn D p/\n1 p<=(N:Rat)
 x:XB E p
theorem SZ.mono{a b E a' b' E':Nat}{p:List Tm}(h:SZ a b E p)(ha:a<=a')(hb:b<=b')(hE:E<=E'):SZ a' b' E' p:=by
 obtain⟨⟨D,N,h1,h2,h3,h4,h5,h6⟩,K,hx⟩:=h
 exact⟨⟨D,N,h1,h2,by omega,by omega,h5,h6⟩,K,hx.mono (Nat.le_refl _) hE⟩
theorem Dn.dvd{D D':Nat}{p:List Tm}(h:Dn D p)(hd:D∣D'):Dn D' p:=fun t ht=>by
 obtain⟨k,rfl⟩:=hd
 rw[Rat.natCast_mul,<-Rat.mul_assoc]
 exact(h t ht).mul (IsI.nat k)
theorem SZ.pmul{a b E a' b' E':Nat}{p q:List Tm}(hp:SZ a b E p)(hq:SZ a' b' E' q):SZ (a+a') (b+b') (E+E') (FW.Qad p q):=by
 obtain⟨⟨D,N,h1,h2,h3,h4,h5,h6⟩,hx⟩:=hp
 obtain⟨⟨D',N',g1,g2,g3,g4,g5,g6⟩,gx⟩:=hq
 have e1:=Qb1 D D'
 have e2:=Qb1 N N'
 refine⟨⟨D*D',N*N',Nat.mul_pos h1 g1,Nat.mul_pos h2 g2,by omega,by omega,Qaix h5 g5,?_⟩,hx.pmul gx⟩
 have m1:=Qaiw p q
 have m2:=Rat.mul_le_mul_of_nonneg_right h6 (Qlu q)
 have n0:(0:Rat)<=(N:Rat):=by have:=Qlu p;grind
 have m3:=Rat.mul_le_mul_of_nonneg_left g6 n0
 rw[Rat.natCast_mul];grind
theorem SZ.padd{a b E a' b':Nat}{p q:List Tm}(hp:SZ a b E p)(hq:SZ a' b' E q):SZ (a+a') (max b b'+1) E (FW.Qx p q):=by
 obtain⟨⟨D,N,h1,h2,h3,h4,h5,h6⟩,hx⟩:=hp
 obtain⟨⟨D',N',g1,g2,g3,g4,g5,g6⟩,gx⟩:=hq
 have e1:=Qb1 D D'
 have e2:=Qmi N N'
 refine⟨⟨D*D',N+N',Nat.mul_pos h1 g1,by omega,by omega,by omega,Q2j p q (h5.dvd (Nat.dvd_mul_right _ _)) (g5.dvd (Nat.dvd_mul_left _ _)),?_⟩,hx.padd gx⟩
 have m1:=Q2h p q
 rw[Rat.natCast_add];grind
theorem SZ.PB{a b E:Nat}{p:List Tm}(h:SZ a b E p):PB (a+b+a+3) E p:=fun t ht=>by
 obtain⟨⟨D,N,h1,h2,h3,h4,h5,h6⟩,K,hx⟩:=h
 have hr:=Qadr h1 h2 h5 h6 ht
 have e:=Qb1 N D
 exact⟨by omega,(hx t ht).m,(hx t ht).l⟩
theorem Qvg:∀p:List Tm,n1 p<=((Qdm p:Nat):Rat)
 | []=>Rat.le_refl
 |t::p=>by
  have h1:=Qvg p
  have h2:=Qrj t.1
  have e:Qdm (t::p)=t.1.num.natAbs+Qdm p:=rfl
  rw[e,Rat.natCast_add]
  simp only[n1];grind
theorem SZ.of{K E L:Nat}{p:List Tm}(h:FW.PB K E p)(hl:p.length<=L):SZ (L*K+1) (L+K+2) E p:=by
 have h1:=Q2f h
 have h2:=Q2g h
 have h3:=Qmi (Qdm p) 1
 have h4:nl 1<=1:=by rw[Qem];exact Nat.le_refl 1
 have h5:p.length*K<=L*K:=Nat.mul_le_mul_right _ hl
 have h6:=Qbm (show Qdm p<=Qdm p+1 by omega)
 by_cases hz:nl (Qdm p)=0
 ·refine⟨⟨Qg8 p,Qdm p+1,Qsd p,by omega,by omega,by omega,fun t ht=>Qvf (Qoi ht),?_⟩,K,h⟩
  have:=Qvg p
  rw[Rat.natCast_add]
  have:(0:Rat)<=((1:Nat):Rat):=by decide
  grind
 ·refine⟨⟨Qg8 p,Qdm p,Qsd p,Nat.pos_of_ne_zero fun e=>hz (Qgl.2 e),by omega,by omega,fun t ht=>Qvf (Qoi ht),Qvg p⟩,K,h⟩
end Go.FW
namespace Go.FW
open Go
def Qgc:List (List Tm×List Tm)->List Tm->Option (List Tm)
 | [],s=>some s
 |x::l,s=>if 4000<(Qx s (Qad x.1 x.2)).length then none else Qgc l (Qx s (Qad x.1 x.2))
def Qci(q:List Tm):Nat->List Tm->Option (List Tm)
 |0,p=>some p
 |n+1,p=>if 4000<(Qad p q).length then none else Qci q n (Qad p q)
def Qfs:List (List Tm×Nat)->List Tm->Option (List Tm)
 | [],p=>some p
 |x::l,p=>(Qci x.1 x.2 p).bind (Qfs l)
def Qce(l:List (List Tm×List Tm))(i:Nat):List Tm:=(l.take i).foldl (fun s x=>Qx s (Qad x.1 x.2)) []
def Qd7(q p:List Tm):Nat->List Tm
 |0=>p
 |n+1=>Qad (Qd7 q p n) q
theorem Qk4{q:List Tm}:∀ {n:Nat} {p r:List Tm},Qci q n p=some r->r=Qd7 q p n
 |0,p,r,h=>(Option.some.inj h).symm
 | n+1,p,r,h=>by
  unfold Qci at h
  split at h
  ·cases h
  ·have e:=Qk4 h
   have key:∀k,Qd7 q (Qad p q) k=Qd7 q p (k+1):=fun k=>by
    induction k with
    |zero=>rfl
    |succ k ih=>show Qad (Qd7 q (Qad p q) k) q=Qad (Qd7 q p (k+1)) q;rw[ih]
   rw[e,key]
theorem Qh6{l:List (List Tm×List Tm)}{i:Nat}(h:i<l.length):Qce l (i+1)=Qx (Qce l i) (Qad l[i].1 l[i].2):=by
 unfold Qce
 rw[List.take_succ_eq_append_getElem h,List.foldl_append]
 rfl
theorem Qz4{a b E a' b' E':Nat}{l:List (List Tm×List Tm)}(hl:∀x∈l,SZ a b E x.1/\SZ a' b' E' x.2):∀i,i<=l.length->SZ (i*(a+a')+1) (b+b'+i+1) (E+E') (Qce l i)
 |0,_=>by
  refine⟨⟨1,1,by omega,by omega,?_,?_,fun t ht=> ?_,?_⟩,0,fun t ht=> ?_⟩
  ·rw[Qem];omega
  ·rw[Qem];omega
  ·simp[Qce]at ht
  ·simp only[Qce,List.take_zero,List.foldl_nil,n1];decide
  ·simp[Qce]at ht
 |i+1,hi=>by
  have h:=Qz4 hl i (by omega)
  obtain⟨h1,h2⟩:=hl _ (List.getElem_mem (show i<l.length by omega))
  rw[Qh6 (by omega)]
  refine(h.padd (h1.pmul h2)).mono ?_ ?_ (Nat.le_refl _)
  ·rw[Nat.succ_mul];omega
  ·omega
theorem Qrk{l:List (List Tm×List Tm)}{i:Nat}(h:i<l.length):Qgc (l.drop i) (Qce l i)=if 4000<(Qce l (i+1)).length then none else Qgc (l.drop (i+1)) (Qce l (i+1)):=by
 rw[List.drop_eq_getElem_cons h]
 rw[Qh6 h]
 rfl
end Go.FW
namespace Go.FW
open Go
theorem Qps{l:List (List Tm×List Tm)}(hl:∀x∈l,Nrm x.1/\Nrm x.2):∀i,i<=l.length->Nrm (Qce l i)
 |0,_=>Nrm.nil
 |i+1,hi=>by
  obtain⟨h1,h2⟩:=hl _ (List.getElem_mem (show i<l.length by omega))
  rw[Qh6 (by omega)]
  exact Qn5 (Qps hl i (by omega)) (Qc2 h1.s h2.s)
theorem Q4r{q p:List Tm}(hp:Nrm p)(hq:Nrm q):∀n,Nrm (Qd7 q p n)
 |0=>hp
 |n+1=>Qc2 (Q4r hp hq n).s hq.s
theorem Qt5{vs:List Rat}{K E:Nat}{l:List (List Tm×List Tm)}(hl:∀x∈l,Nrm x.1/\Nrm x.2)(hb:∀x∈l,PB K E x.1/\PB K E x.2)(h0:∀x∈l,Qar vs x.2=0):∀i,i<=l.length->Qar vs (Qce l i)=0
 |0,_=>rfl
 |i+1,hi=>by
  have hm:=List.getElem_mem (show i<l.length by omega)
  obtain⟨h1,h2⟩:=hl _ hm
  obtain⟨b1,b2⟩:=hb _ hm
  rw[Qh6 (by omega),Q4d (Qps hl i (by omega)).c (Qc2 h1.s h2.s).c,Qt5 hl hb h0 i (by omega),Qtr b1 b2,h0 _ hm]
  grind
theorem Qpt{E F:Nat}{q p:List Tm}(hp:XB E p)(hq:XB F q):∀n,XB (E+n*F) (Qd7 q p n)
 |0=>by simpa[Qd7]using hp
 |n+1=>by
  have:=(Qpt hp hq n).pmul hq
  rwa[show E+n*F+F=E+(n+1)*F by rw[Nat.succ_mul];omega]at this
theorem Ql9{vs:List Rat}{q p:List Tm}{E F:Nat}(hp:XB E p)(hq:XB F q):∀n,Qar vs (Qd7 q p n)=Qar vs p*Qar vs q^n
 |0=>by rw[Rat.pow_zero,Rat.mul_one];rfl
 |n+1=>by
  obtain⟨K',h⟩:=Qpt hp hq n
  obtain⟨K,g⟩:=hq
  show Qar vs (Qad (Qd7 q p n) q)=_
  rw[Qtr h g,Ql9 hp ⟨K,g⟩ n,Rat.pow_succ]
  grind
theorem Qz5{x:Rat}(h:x≠0):∀n:Nat,x^n≠0
 |0=>by rw[Rat.pow_zero];decide
 |n+1=>fun e=>by
  rw[Rat.pow_succ]at e
  rcases Rat.mul_eq_zero.1 e with e|e
  ·exact Qz5 h n e
  ·exact h e
def Qqn(l:List (List Tm×Nat))(p:List Tm):List Tm:=l.foldl (fun p x=>Qd7 x.1 p x.2) p
theorem Qz6{vs:List Rat}:∀ {l:List (List Tm×Nat)} {p:List Tm} {E:Nat},XB E p->(∀x∈l,∃F,XB F x.1)->Qar vs p≠0->(∀x∈l,0<x.2->Qar vs x.1≠0)->Qar vs (Qqn l p)≠0/\∃F,XB F (Qqn l p)
 | [],p,E,hp,_,h,_=>⟨h,E,hp⟩
 | x::l,p,E,hp,hl,h,h0=>by
  obtain⟨F,hx⟩:=hl x (List.mem_cons_self ..)
  refine Qz6 (l:=l) (p:=Qd7 x.1 p x.2) (Qpt hp hx x.2) (fun y hy=>hl y (List.mem_cons_of_mem _ hy)) (fun e=> ?_) fun y hy=>h0 y (List.mem_cons_of_mem _ hy)
  rw[Ql9 hp hx]at e
  rcases Rat.mul_eq_zero.1 e with e|e
  ·exact h e
  ·by_cases hz:x.2=0
   ·rw[hz,Rat.pow_zero]at e;exact absurd e (by decide)
   ·exact Qz5 (h0 x (List.mem_cons_self ..) (by omega)) _ e
theorem Q4s{vs:List Rat}{K E n:Nat}{c:List (List Tm×List Tm)}{f:List (List Tm×Nat)}{one goal:List Tm}(hc:∀x∈c,Nrm x.1/\Nrm x.2)(hb:∀x∈c,PB K E x.1/\PB K E x.2)(hf:∀x∈f,∃F,XB F x.1)(h1:XB 0 one)(e1:Qar vs one≠0)(hg:XB E goal)
  (h0:∀x∈c,Qar vs x.2=0) (hn:∀x∈f,0<x.2->Qar vs x.1≠0) (h:Qd7 goal (Qqn f one) n=Qce c c.length):Qar vs goal=0:=by
 obtain⟨p1,F,p2⟩:=Qz6 h1 hf e1 hn
 have h2:=Ql9 (vs:=vs) p2 hg n
 rw[h,Qt5 hc hb h0 _ (Nat.le_refl _)]at h2
 refine Decidable.byContradiction fun hz=> ?_
 rcases Rat.mul_eq_zero.1 h2.symm with e|e
 ·exact p1 e
 ·exact Qz5 hz n e
end Go.FW
namespace Go.FW
open Go
end Go.FW
namespace Go.FW
open Go
theorem Qvh{p:List Tm}(np:Nrm p)(h0:p≠[]):plt 0 p=hdT p:=by
 obtain⟨h1,h2⟩:=Qob (o:=0) np h0
 apply Classical.byContradiction
 intro hne
 have h3:=h2 _ (Qay h0) (fun e=>hne e.symm)
 rcases Qj5 np.s _ h1 with e|e
 ·exact hne e
 ·have h4:=Qc9 (hdT p).2 (plt 0 p).2
  have h5:Qa8 0 (plt 0 p).2 (hdT p).2=Qah (plt 0 p).2 (hdT p).2:=by unfold Qa8;rw[if_neg (by simp)]
  omega
theorem Q2l{p q:List Tm}(np:Nrm p)(nq:Nrm q)(h1:p≠[])(h2:q≠[]):Qad p q≠[]/\hdT (Qad p q)=((hdT p).1*(hdT q).1,Qal (hdT p).2 (hdT q).2):=by
 obtain⟨h3,h4⟩:=Qahc (o:=0) np nq h1 h2
 rw[Qvh (Qc2 np.s nq.s) h3,Qvh np h1,Qvh nq h2]at h4
 exact⟨h3,h4⟩
theorem Qwu{E:Nat}{a b:List Int}(ha:MB E a)(hb:MB E b)(hl:a.getLast? ≠some 0):Qfz b (Qal a b)=true/\Qb2 (Qal a b) b=a:=by
 have hm:=ha.mul hb
 have hd:Qfz b (Qal a b)=true:=(Qsc hm).2 fun i=>by rw[Qdh];have:=ha.eN i;omega
 refine⟨hd,?_⟩
 have e:=Qg5 hm hb (Qgb a b) hd
 refine Qii (Qpn _ _) hl fun i=> ?_
 have:=congrArg (fun l=>eN l i) e
 simp only[Qdh]at this
 omega
theorem Nrm.drop{p:List Tm}(h:Nrm p):∀k,Nrm (p.drop k)
 |0=>h
 |k+1=>by
  have:=Nrm.drop h k
  rw[<-List.drop_drop]
  cases hd:p.drop k with
  |nil=>simpa using Nrm.nil
  |cons t l=>rw[hd]at this;simpa using this.tail
theorem Qz7{p q:List Tm}{E:Nat}(np:Nrm p)(nq:Nrm q)(bp:∀t∈p,MB E t.2)(bq:∀t∈q,MB E t.2)(hq:q≠[]):∀k,k<=p.length->exP q (Qad p q) k=Qad (p.drop k) q/\exQ q (Qad p q) k=p.take k
 |0,_=>⟨rfl,rfl⟩
 | k+1,h=>by
  obtain⟨h1,h2⟩:=Qz7 np nq bp bq hq k (by omega)
  have hk:k<p.length:=by omega
  have e1:p.drop k=p[k]::p.drop (k+1):=List.drop_eq_getElem_cons hk
  have n1:=np.drop k
  have n2:=np.drop (k+1)
  have hne:p.drop k≠[]:=by rw[e1];exact List.cons_ne_nil _ _
  obtain⟨h3,h4⟩:=Q2l n1 nq hne hq
  have e2:hdT (p.drop k)=p[k]:=by rw[e1];rfl
  rw[e2]at h4
  have hz:=nq.z _ (Qay hq)
  have hqm:=bq _ (Qay hq)
  have hpm:=bp _ (List.getElem_mem hk)
  obtain⟨h5,h6⟩:=Qwu hpm hqm (np.c _ (List.getElem_mem hk))
  have eT:exT q (Qad (p.drop k) q)=p[k]:=by
   unfold exT
   rw[h4]
   simp only
   rw[h6]
   have:p[k].1*(hdT q).1/(hdT q).1=p[k].1:=Rat.mul_div_cancel hz
   rw[this]
  have n3:Nrm (Qad (p.drop k) q):=Qc2 n1.s nq.s
  constructor
  ·show exN q (exP q (Qad p q) k)=_
   rw[h1]
   refine Qkd (Qmu n3 nq) (Qc2 n2.s nq.s) fun φ=> ?_
   rw[Qvd n3 nq,eT,Qg3,Qg3,e1,Qaq]
   grind
  ·show exQ q (Qad p q) k++[exT q (exP q (Qad p q) k)]=_
   rw[h1,h2,eT,List.take_succ_eq_append_getElem hk]
theorem Qanu{p q:List Tm}{E:Nat}(np:Nrm p)(nq:Nrm q)(bp:∀t∈p,MB E t.2)(bq:∀t∈q,MB E t.2)(hq:q≠[]){k:Nat}(h:k<p.length):Qe1 q (exP q (Qad p q) k):=by
 obtain⟨h1,h2⟩:=Qz7 np nq bp bq hq k (by omega)
 have e1:p.drop k=p[k]::p.drop (k+1):=List.drop_eq_getElem_cons h
 have hne:p.drop k≠[]:=by rw[e1];exact List.cons_ne_nil _ _
 obtain⟨h3,h4⟩:=Q2l (np.drop k) nq hne hq
 have e2:hdT (p.drop k)=p[k]:=by rw[e1];rfl
 rw[h1]
 refine⟨h3,?_⟩
 rw[h4,e2]
 exact(Qwu (bp _ (List.getElem_mem h)) (bq _ (Qay hq)) (np.c _ (List.getElem_mem h))).1
theorem Qt6{p:List Tm}(np:Nrm p){c:Rat}(hc:c≠0):Qav p c=p.map fun t=>(t.1*c,t.2):=by
 rw[Qav,if_neg hc,Q5]
 induction p with
 |nil=>rfl
 | cons t p ih=>
  have hz:t.1*c≠0:=fun h=>by
   rcases Rat.mul_eq_zero.1 h with h|h
   ·exact np.z t (by simp) h
   ·exact hc h
  have ih':=ih np.tail
  rw[List.filterMap_cons,List.map_cons]
  simp only[if_neg hz]
  rw[ih',Qnp (np.c t (by simp))]
theorem Qt7{p:List Tm}(np:Nrm p):Qav p 1=p:=by
 rw[Qt6 np (by decide)]
 simp
theorem Qpu{p:List Tm}(np:Nrm p)(a b:Rat):Qav (Qav p a) b=Qav p (a*b):=by
 refine Qkd (Qep (Qep np.s a).s b) (Qep np.s _) fun φ=> ?_
 rw[Qh1 φ (Qep np.s a).c,Qh1 φ np.c,Qh1 φ np.c]
 grind
end Go.FW
namespace Go.FW
open Go
set_option maxRecDepth 100000
abbrev PV.pe(r:List Tm×Int):PV:= .tup [PV.poly r.1,.int .i64 r.2]
abbrev PV.cert(fs:List (List Tm))(ps:List Int)(n:Int)(cs:List (List Tm)):PV:= .agg [PV.polys fs,PV.mono ps,.int .i64 n,PV.polys cs]
def Qg9:Option (List Tm)->List Tm×Int
 |some r=>(r,0)
 |none=>([],4)
def Qcg(cs ls:List (List Tm)):List Tm×Int:=if cs.length=ls.length then Qg9 (Qgc (cs.zip ls) [])else([],16)
def Qk5(q p:List Tm)(n:Nat):List Tm×Int:=Qg9 (Qci q n p)
def Qix(ps:List Int):Bool:=ps.all fun n=>decide (0<=n/\n<=64)
def Qc4(fs:List (List Tm))(ps:List Int):List Tm×Int:=
 if fs.length=ps.length then(if Qix ps then Qg9 (Qfs (fs.zip (ps.map Int.toNat)) (Qbj 1))else([],2))else([],16)
def Qgd(fs:List (List Tm))(ps:List Int)(n:Int)(cs hs:List (List Tm))(g:List Tm):Int:=
 if(Qc4 fs ps).2=0 then
  if fs.any List.isEmpty then 3
  else if n<1∨64<n then 2
  else if cs.length=hs.length then
   match Qci g n.toNat (Qc4 fs ps).1 with
   |none=>4
   |some l=>if(Qcg cs hs).2=0 then(if l=(Qcg cs hs).1 then 0 else 17)else(Qcg cs hs).2
  else 16
 else(Qc4 fs ps).2
structure Sml(p:List Tm):Prop where
 z:SZ 64 64 64 p
 l:p.length<=64
 n:Nrm p
structure Big(p:List Tm):Prop where
 z:SZ (2097152) (2097152) (16384) p
 l:p.length<=131072
 n:Nrm p
theorem Sml.PB{p:List Tm}(h:Sml p):PB 256 64 p:=h.z.PB.mono (by omega) (by omega)
theorem Big.PB{p:List Tm}(h:Big p):FW.PB (8388608) (16384) p:=h.z.PB.mono (by omega) (by omega)
theorem Sml.big{p:List Tm}(h:Sml p):Big p:=⟨h.z.mono (by omega) (by omega) (by omega),by have:=h.l;omega,h.n⟩
theorem Qaiy{cs ls:List (List Tm)}(hl:cs.length=ls.length){i:Nat}(h:i<cs.length):(cs.zip ls)[i]'(by simp;omega)=(cs[i],ls[i]'(by omega)):=List.getElem_zip
theorem Q2m{P Q:List Tm->Prop}{cs ls:List (List Tm)}(h1:∀c∈cs,P c)(h2:∀c∈ls,Q c):∀x∈cs.zip ls,P x.1/\Q x.2:=fun x hx=>by
 obtain⟨i,hi,rfl⟩:=List.getElem_of_mem hx
 rw[List.getElem_zip]
 exact⟨h1 _ (List.getElem_mem _),h2 _ (List.getElem_mem _)⟩
theorem Q2n{cs ls:List (List Tm)}(h1:∀c∈cs,Big c)(h2:∀c∈ls,Sml c)(hl:cs.length<=8){i:Nat}(hi:i<=(cs.zip ls).length):PB (268435456) (32768) (Qce (cs.zip ls) i)/\Nrm (Qce (cs.zip ls) i):=by
 have hz:=Q2m (P:=Big) (Q:=Sml) h1 h2
 have hi8:i<=8:=by rw[List.length_zip]at hi;omega
 refine⟨((Qz4 (fun x hx=>⟨(hz x hx).1.z,(hz x hx).2.z⟩) i hi).mono (a':=16777729) (b':=2097225) (E':=32768) ?_ (by omega) (by omega)).PB.mono (by omega) (by omega),Qps (fun x hx=>⟨(hz x hx).1.n,(hz x hx).2.n⟩) i hi⟩
 exact Nat.succ_le_succ (Nat.le_trans (Nat.mul_le_mul_right _ hi8) (by decide+kernel))
structure Prd(m:Nat)(p:List Tm):Prop where
 z:SZ (m*64+1) (m*64+2) (m*64) p
 n:Nrm p
 l:p.length<=4000
theorem Prd.PB{m:Nat}{p:List Tm}(h:Prd m p)(hm:m<=1024):FW.PB (262144) (131072) p:=h.z.PB.mono (by omega) (by omega)
theorem Prd.mul{m:Nat}{p q:List Tm}(h:Prd m p)(hq:Sml q)(hl:(Qad p q).length<=4000):Prd (m+1) (Qad p q):=
 ⟨(h.z.pmul hq.z).mono (by omega) (by omega) (by omega),Qc2 h.n.s hq.n.s,hl⟩
theorem SZ.one:SZ 1 1 0 (Qbj 1):=by
 have e:Qbj 1=[((1:Rat),[])]:=by unfold Qbj;rw[if_neg (by decide)]
 rw[e]
 refine⟨⟨1,1,by omega,by omega,by rw[Qem];omega,by rw[Qem];omega,fun t ht=> ?_,?_⟩,3,fun t ht=> ?_⟩
 ·obtain rfl:t=(1,[]):=by simpa using ht
  exact⟨1,by decide+kernel⟩
 ·simp only[n1];decide+kernel
 ·obtain rfl:t=(1,[]):=by simpa using ht
  refine⟨?_,⟨by simp,by simp,by simp⟩,by simp⟩
  show rs 1+1<=3
  have:=Qr1
  omega
theorem Prd.one:Prd 0 (Qbj 1):=⟨SZ.one.mono (by omega) (by omega) (by omega),Q38 1,by unfold Qbj;rw[if_neg (by decide)];simp⟩
theorem Qz8{q P:List Tm}{n k:Nat}(h:k<n):Qci q (n-k) P=if 4000<(Qad P q).length then none else Qci q (n-(k+1)) (Qad P q):=by
 rw[show n-k=(n-(k+1))+1 by omega];rfl
theorem Qj6{q:List Tm}(hq:Sml q):∀(n m:Nat)(p r:List Tm),Prd m p->Qci q n p=some r->Prd (m+n) r
 |0,m,p,r,hp,h=>by cases h;exact hp
 | n+1,m,p,r,hp,h=>by
  unfold Qci at h
  split at h
  ·cases h
  ·have:=Qj6 hq n (m+1) _ r (hp.mul hq (by omega)) h
   rwa[show m+1+n=m+(n+1)by omega]at this
theorem Q1d{l:List (List Tm×Nat)}{i:Nat}{p:List Tm}(h:i<l.length):Qfs (l.drop i) p=(Qci l[i].1 l[i].2 p).bind (Qfs (l.drop (i+1))):=by
 rw[List.drop_eq_getElem_cons h];rfl
def Qha(fs:List (List Tm))(ps:List Int):List (List Tm×Nat):=fs.zip (ps.map Int.toNat)
theorem Qhb{fs:List (List Tm)}{ps:List Int}(h:fs.length=ps.length):(Qha fs ps).length=fs.length:=by simp[Qha,h]
theorem Qoj{fs:List (List Tm)}{ps:List Int}(h:fs.length=ps.length){i:Nat}(hi:i<fs.length):(Qha fs ps)[i]'(by rw[Qhb h];exact hi)=(fs[i],(ps[i]'(by omega)).toNat):=by
 simp[Qha,List.getElem_zip]
theorem Qwv{ps:List Int}(h:Qix ps=true){i:Nat}(hi:i<ps.length):0<=ps[i]/\ps[i]<=64:=by
 have:=List.all_eq_true.1 h _ (List.getElem_mem hi)
 simpa using this
theorem Q75{ps:List Int}{i:Nat}(hi:i<ps.length)(h:¬(0<=ps[i]/\ps[i]<=64)):Qix ps=false:=by
 unfold Qix
 rw[List.all_eq_false];exact⟨_,List.getElem_mem hi,by simpa using h⟩
theorem Q76{ps:List Int}(h:∀j (hj:j<ps.length),0<=ps[j]/\ps[j]<=64):Qix ps=true:=by
 unfold Qix
 rw[List.all_eq_true]
 intro x hx
 obtain⟨j,hj,rfl⟩:=List.getElem_of_mem hx
 exact decide_eq_true (h j hj)
theorem Qww{fs:List (List Tm)}{ps:List Int}(h:fs.length=ps.length)(hp:Qix ps=false):Qc4 fs ps=([],2):=by
 unfold Qc4;rw[if_pos h,hp];rfl
theorem Qads{fs:List (List Tm)}{ps:List Int}(h:fs.length=ps.length)(hp:Qix ps=true):Qc4 fs ps=Qg9 (Qfs (Qha fs ps) (Qbj 1)):=by
 unfold Qc4;rw[if_pos h,hp];rfl
theorem Q77{l:List (List Tm×Nat)}(hl:∀x∈l,Sml x.1/\x.2<=64):∀(m:Nat)(p r:List Tm),Prd m p->Qfs l p=some r->∃n,n<=m+64*l.length/\Prd n r:=by
 induction l with
 |nil=>intro m p r hp h;cases h;exact⟨m,by omega,hp⟩
 | cons x l ih=>
  intro m p r hp h
  obtain⟨h1,h2⟩:=hl x (List.mem_cons_self ..)
  show ∃n,_
  unfold Qfs at h
  cases hr:Qci x.1 x.2 p with
  |none=>rw[hr]at h;cases h
  |some s=>
   rw[hr]at h
   obtain⟨n,h3,h4⟩:=ih (fun y hy=>hl y (List.mem_cons_of_mem _ hy)) (m+x.2) s r (Qj6 h1 _ _ _ _ hp hr) h
   exact⟨n,by rw[List.length_cons];omega,h4⟩
theorem Q78{fs:List (List Tm)}{ps:List Int}(hf:∀c∈fs,Sml c)(hl:fs.length<=8)(h:(Qc4 fs ps).2=0):∃n,n<=512/\Prd n (Qc4 fs ps).1:=by
 unfold Qc4 at h⊢
 split at h
 ·rename_i h1
  rw[if_pos h1]
  split at h
  ·rename_i h2
   rw[if_pos h2]
   cases hr:Qfs (Qha fs ps) (Qbj 1)with
   |none=>unfold Qha at hr;rw[hr]at h;cases h
   | some r=>
    have hr':=hr
    unfold Qha at hr'
    rw[hr']
    obtain⟨n,h3,h4⟩:=Q77 (l:=Qha fs ps) (fun x hx=>by
     obtain⟨i,hi,rfl⟩:=List.getElem_of_mem hx
     have hi':i<fs.length:=by rwa[Qhb h1]at hi
     rw[Qoj h1 hi']
     have:=Qwv h2 (i:=i) (by omega)
     exact⟨hf _ (List.getElem_mem hi'),by simp only;omega⟩) 0 _ r Prd.one hr
    rw[Qhb h1]at h3
    exact⟨n,by omega,h4⟩
  ·cases h
 ·cases h
theorem Qrl{l:List (List Tm×List Tm)}{s:List Tm}:∀k i,k=l.length-i->i<=l.length->(Qce l i).length<=4000->Qgc (l.drop i) (Qce l i)=some s->s=Qce l l.length/\s.length<=4000
 |0,i,hk,hi,hl,h=>by
  obtain rfl:i=l.length:=by omega
  rw[List.drop_length]at h
  cases h;exact⟨rfl,hl⟩
 |k+1,i,hk,hi,hl,h=>by
  have hi':i<l.length:=by omega
  rw[Qrk hi']at h
  split at h
  ·cases h
  ·exact Qrl k (i+1) (by omega) (by omega) (by omega) h
theorem Qz9{cs ls:List (List Tm)}(h:(Qcg cs ls).2=0):cs.length=ls.length/\Qgc (cs.zip ls) []=some (Qcg cs ls).1/\(Qcg cs ls).1=Qce (cs.zip ls) (cs.zip ls).length/\(Qcg cs ls).1.length<=4000:=by
 unfold Qcg at h⊢
 split at h
 ·rename_i he
  rw[if_pos he]
  cases hr:Qgc (cs.zip ls) []with
  |none=>rw[hr]at h;cases h
  |some s=>
   obtain⟨h1,h2⟩:=Qrl _ 0 rfl (by omega) (by simp[Qce]) (s:=s) (by exact hr)
   exact⟨he,rfl,h1,h2⟩
 ·cases h
theorem Qadt{cs ls:List (List Tm)}(h1:∀c∈cs,Big c)(h2:∀c∈ls,Sml c)(hl:cs.length<=8):PB 268435456 32768 (Qcg cs ls).1/\Nrm (Qcg cs ls).1/\(Qcg cs ls).1.length<=4000:=by
 by_cases h:(Qcg cs ls).2=0
 ·obtain⟨_,_,h3,h4⟩:=Qz9 h
  have:=Q2n h1 h2 hl (Nat.le_refl _)
  rw[<-h3]at this
  exact⟨this.1,this.2,h4⟩
 ·have e:(Qcg cs ls).1=[]:=by
   unfold Qcg at h⊢
   split
   ·rename_i he
    rw[if_pos he]at h
    cases hr:Qgc (cs.zip ls) []with
    |none=>rfl
    |some s=>rw[hr]at h;exact absurd rfl h
   ·rfl
  rw[e];exact⟨PB.nil _ _,Nrm.nil,by simp⟩
end Go.FW
