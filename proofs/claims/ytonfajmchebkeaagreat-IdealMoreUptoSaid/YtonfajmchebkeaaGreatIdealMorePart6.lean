/- Part 6 of the proof of IdealMore: FwUJ, FwWA, FwWB, FwWC, FwWD, FwUH, FwUK, FwWE. Own lemmas; no conditions. -/
import Derived.Test.YtonfajmchebkeaaGreatIdealMorePart5
set_option linter.unusedSimpArgs false
set_option linter.unnecessarySimpa false
set_option linter.unusedVariables false
namespace Go.FW
open Go
def c4(m:List Int):Nat:=(((eN m 3).toNat*81+(eN m 2).toNat)*729+(eN m 1).toNat)*6561+(eN m 0).toNat
theorem Qae3{a b:List Int}(ha:∀i,0<=eN a i)(hb:∀i,0<=eN b i)(la:a.length<=4)(lb:b.length<=4)(pa:psi a<=6560)(pb:psi b<=6560)(h:Qah a b<0):c4 a<c4 b:=by
 have a0:=ha 0;have a1:=ha 1;have a2:=ha 2;have a3:=ha 3
 have b0:=hb 0;have b1:=hb 1;have b2:=hb 2;have b3:=hb 3
 have:=Qvn la lb h
 simp only[psi]at pa pb
 simp only[c4,Zo,Zg,Zm,Zc,Zf,Zl,Zh,Zs,Zi,Zb,Zk,Zn,Zu,Zq,Zr,Zz]
 omega
theorem Q5a{a:List Int}(pa:psi a<=6560):c4 a<2^32:=by
 simp only[psi]at pa
 simp only[c4,Zo,Zg,Zm,Zc,Zf,Zl,Zh,Zs,Zi,Zb,Zk,Zn,Zu,Zq,Zr,Zz]
 omega
structure ExI(D F W N0:Rat)(p:List Tm):Prop where
 i:IW D F 6560 p
 n:nW W p<=N0
 pos:Pos p
 ml:ML 4 p
 nrm:Nrm p
theorem Quf{p:List Tm}:(∀t∈p,psi t.2<=6560)->Pos p->ML 4 p->Qbe p->p≠[]->p.length<=c4 (hdT p).2+1:=by
 induction p with
 |nil=>intro _ _ _ _ h;exact absurd rfl h
 | cons t p ih=>
  intro hp hP hM hs _
  cases p with
  |nil=>simp
  |cons s p=>
   have h1:=ih (fun x hx=>hp x (by simp[hx])) (fun x hx=>hP x (by simp[hx])) (fun x hx=>hM x (by simp[hx])) hs.2 (by simp)
   have h2:=hs.1 s (by simp)
   have h3:=Qc8 t.2 s.2
   have h4:=Qae3 (hP s (by simp)) (hP t (by simp)) (hM s (by simp)) (hM t (by simp)) (hp s (by simp)) (hp t (by simp)) (by omega)
   simp only[hdT,List.headD_cons,List.length_cons]at h1⊢
   omega
theorem ExI.len{D F W N0:Rat}{p:List Tm}(h:ExI D F W N0 p):p.length<=2^32:=by
 by_cases h0:p=[]
 ·subst h0;simp
 ·have h1:=Quf (fun t ht=>(h.i t ht).1) h.pos h.ml h.nrm.s h0
  have:=Q5a (h.i _ (Qau h0)).1
  omega
theorem Q0m{W:Rat}(h:1<=W):∀ {p:List Tm} {t:Tm},t∈p->Qbd t.1<=nW W p
 | s::p,t,ht=>by
  have h0:(0:Rat)<=W:=by grind
  have h1:=Qw6 h0 p
  have h2:=Qf9 h0 s.1 s.2
  simp only[nW]
  rcases List.mem_cons.1 ht with rfl|ht
  ·have h3:=Rat.mul_le_mul_of_nonneg_left (Qox h (psi t.2)) (Qby t.1)
   grind
  ·have:=Q0m h ht
   grind
theorem Qug(x:Nat):∀n:Nat,nl (x^n)<=n*nl x+1
 |0=>by rw[Nat.pow_zero,Qez];omega
 |n+1=>by
  rw[Nat.pow_succ,Nat.succ_mul]
  have:=Qb1 (x^n) x
  have:=Qug x n
  omega
theorem ExI.PB{d f w n0 L:Nat}{p:List Tm}(h:ExI d f w n0 p)(hd:0<d)(hf:0<f)(hw:0<w)(hn0:0<n0)(hL:nl (n0*(d*f^6560))<L):PB L 6560 p:=by
 intro t ht
 obtain⟨h1,z,hz⟩:=h.i t ht
 have hw1:(1:Rat)<=(w:Rat):=by
  rw[<-Rat.intCast_natCast,show(1:Rat)=((1:Int):Rat)from rfl,Rat.intCast_le_intCast];omega
 have hN:Qbd t.1<=(n0:Rat):=by have:=Q0m hw1 ht;have:=h.n;grind
 have hX:(d:Rat)*(f:Rat)^(6560-psi t.2)=((d*f^(6560-psi t.2):Nat):Rat):=by
  rw[Rat.natCast_mul,Rat.natCast_pow]
 have hkey:∀N k:Nat,k<=N->d*f^k<=d*f^N:=fun N k h=>Nat.mul_le_mul_left _ (Nat.pow_le_pow_right hf h)
 have hXl:=hkey 6560 (6560-psi t.2) (Nat.sub_le _ _)
 have hX0:0<d*f^(6560-psi t.2):=Nat.mul_pos hd (Nat.pow_pos hf)
 rw[hX]at hz
 generalize d*f^(6560-psi t.2)=X at *
 generalize d*f^6560=Y at *
 have hXr:((X:Int):Rat)≠0:=by rw[Ne,Rat.intCast_eq_zero_iff];omega
 have e:t.1=(z:Rat)/((X:Int):Rat):=by rw[<-hz,Rat.intCast_natCast];rw[Rat.intCast_natCast]at hXr;grind
 have hzl:z.natAbs<=n0*Y:=by
  have h2:Qbd (z:Rat)=Qbd t.1*(X:Rat):=by
   rw[<-hz,Qhn];congr 1
   rw[<-Rat.intCast_natCast,Qix,Int.natAbs_natCast,Rat.intCast_natCast]
  rw[Qix]at h2
  have h3:(0:Rat)<=(X:Rat):=by rw[<-Rat.intCast_natCast,show(0:Rat)=((0:Int):Rat)from rfl,Rat.intCast_le_intCast];omega
  have h4:=Rat.mul_le_mul_of_nonneg_right hN h3
  rw[<-h2,<-Rat.natCast_mul,<-Rat.intCast_natCast,<-Rat.intCast_natCast,Rat.intCast_le_intCast]at h4
  have h5:=Nat.mul_le_mul_left n0 hXl
  omega
 have hr:=Q0g z (X:Int) (by omega)
 rw[<-e,Int.natAbs_natCast]at hr
 have g1:=Qbm hzl
 have g2:nl X<=nl (n0*Y):=by
  exact Qbm (Nat.le_trans hXl (Nat.le_mul_of_pos_left _ hn0))
 have g3:1<=nl X:=by
  apply Decidable.byContradiction;intro hc
  have:=Qgw.1 (show nl X=0 by omega)
  omega
 refine⟨by omega,⟨by have:=h.ml t ht;omega,fun x hx=> ?_,fun x hx=> ?_⟩,h.nrm.c t ht⟩
 all_goals
  obtain⟨i,hi,rfl⟩:=List.getElem_of_mem hx
  have hp:=h.pos t ht i
  rw[Qc0 hi]at hp
 ·exact hp
 ·have hl:=h.ml t ht
  simp only[psi]at h1
  rw[<-Qc0 hi]
  rw[<-Qc0 hi]at hp
  have:i=0∨i=1∨i=2∨i=3:=by omega
  rcases this with rfl|rfl|rfl|rfl<;>omega
theorem ExI.step{D F W N0:Rat}{p q:List Tm}{y:Tm}{K E K' E':Nat}(h:ExI D F W N0 p)(hQ:QOk F W y q)(bp:FW.PB K E p)(bq:FW.PB K' E' (y::q))(nq:Nrm (y::q))(hg:Qfd (y::q) p):ExI D F W N0 (exN (y::q) p):=by
 cases p with
 |nil=>exact absurd rfl hg.1
 |cons x p=>
  obtain⟨h1,h2,h3,h4⟩:=Qam7 (K:=max K K') (E:=max E E') hQ (bp.mono (by omega) (by omega)) (bq.mono (by omega) (by omega)) h.nrm nq hg.2 h.i h.pos h.ml
  exact⟨h1,by have:=h.n;grind,h3,h4,Qm9 h.nrm nq⟩
def Qhp(p:List Tm):Nat:=(p.map fun t=>t.1.den).foldr (· * ·) 1
def Qdy(p:List Tm):Nat:=(p.map fun t=>t.1.num.natAbs).foldr (· + ·) 0
theorem Qso(p:List Tm):0<Qhp p:=by
 induction p with
 |nil=>simp[Qhp]
 |cons t p ih=>exact Nat.mul_pos (Nat.pos_of_ne_zero t.1.den_nz) ih
theorem Qoy:∀ {p:List Tm} {t:Tm},t∈p->t.1.den∣Qhp p
 |s::p,t,ht=>by
  rcases List.mem_cons.1 ht with rfl|ht
  ·exact Nat.dvd_mul_right _ _
  ·exact Nat.dvd_trans (Qoy ht) (Nat.dvd_mul_left _ _)
theorem Q2z{p:List Tm}{K E:Nat}(hp:FW.PB K E p):nl (Qhp p)<=p.length*K+1:=by
 induction p with
 |nil=>simp[Qhp,Qez]
 |cons t p ih=>
  have h1:=ih (PB.cons.1 hp).2
  have h2:=(PB.cons.1 hp).1.c
  have h3:=Qb1 t.1.den (Qhp p)
  unfold rs at h2
  rw[List.length_cons,Nat.succ_mul]
  have e:Qhp (t::p)=t.1.den*Qhp p:=rfl
  rw[e];omega
theorem Q20{p:List Tm}{K E:Nat}(hp:FW.PB K E p):nl (Qdy p)<=p.length+K:=by
 induction p with
 |nil=>simp[Qdy,Qqm]
 |cons t p ih=>
  have h1:=ih (PB.cons.1 hp).2
  have h2:=(PB.cons.1 hp).1.c
  have h3:=Qmy t.1.num.natAbs (Qdy p)
  unfold rs at h2
  have e:Qdy (t::p)=t.1.num.natAbs+Qdy p:=rfl
  rw[e,List.length_cons];omega
theorem Qvp{c:Rat}{L:Nat}(h:c.den∣L):IsI (c*(L:Rat)):=by
 obtain⟨k,rfl⟩:=h
 refine⟨c.num*(k:Int),?_⟩
 have hd0:=c.den_nz
 have d1:c=(c.num:Rat)/((c.den:Int):Rat):=by
  conv=>lhs;rw[<-Rat.mkRat_self c]
  rw[Rat.mkRat_eq_div,Rat.intCast_natCast]
 have k1:((c.den:Int):Rat)≠0:=by rw[Ne,Rat.intCast_eq_zero_iff];omega
 rw[Rat.natCast_mul,Rat.intCast_mul,Rat.intCast_natCast,<-Rat.intCast_natCast c.den]
 generalize((c.den:Int):Rat)=D at *
 generalize(c.num:Rat)=N at *
 rw[d1]
 grind
theorem Qli(c:Rat):Qbd c*(c.den:Rat)=((c.num.natAbs:Nat):Rat):=by
 have d1:c*(c.den:Rat)=(c.num:Rat):=by
  have e:c=(c.num:Rat)/((c.den:Int):Rat):=by
   conv=>lhs;rw[<-Rat.mkRat_self c]
   rw[Rat.mkRat_eq_div,Rat.intCast_natCast]
  have k1:((c.den:Int):Rat)≠0:=by rw[Ne,Rat.intCast_eq_zero_iff];have:=c.den_nz;omega
  rw[<-Rat.intCast_natCast]
  generalize((c.den:Int):Rat)=D at *
  generalize(c.num:Rat)=N at *
  rw[e];grind
 rw[<-Qix,<-d1,Qhn]
 congr 1
 rw[<-Rat.intCast_natCast,Qix,Int.natAbs_natCast,Rat.intCast_natCast]
theorem Qcr{a b:Nat}(h:a<=b):(a:Rat)<=(b:Rat):=by
 rw[<-Rat.intCast_natCast,<-Rat.intCast_natCast,Rat.intCast_le_intCast];omega
theorem Qrw(c:Rat):Qbd c<=((c.num.natAbs:Nat):Rat):=by
 have h:=Qli c
 have h1:(1:Rat)<=(c.den:Rat):=Qcr (a:=1) (Nat.pos_of_ne_zero c.den_nz)
 have:=Rat.mul_le_mul_of_nonneg_left h1 (Qby c)
 grind
theorem Qae4{w:Nat}(hw:0<w){N:Nat}:∀ {p:List Tm},(∀t∈p,psi t.2<=N)->nW w p<=((Qdy p*w^N:Nat):Rat)
 | [],_=>by
  have e:Qdy []=0:=rfl
  rw[e,Nat.zero_mul];exact Rat.le_refl
 |t::p,h=>by
  have hw1:(1:Rat)<=(w:Rat):=Qcr (a:=1) hw
  have h1:=Qae4 hw (p:=p) (fun s hs=>h s (by simp[hs]))
  have h2:=Q0k hw1 (h t (by simp))
  have h3:=Rat.mul_le_mul_of_nonneg_left h2 (Qby t.1)
  have h4:=Rat.mul_le_mul_of_nonneg_right (Qrw t.1) (Qe3 (show(0:Rat)<=(w:Rat)by grind) N)
  have e:Qdy (t::p)=t.1.num.natAbs+Qdy p:=rfl
  rw[e,Nat.add_mul,Rat.natCast_add,Rat.natCast_mul,Rat.natCast_pow]
  simp only[nW]
  grind
def exW(y:Tm)(q:List Tm):Nat:=Qdy q*y.1.den+1
def Qp7(y:Tm)(q:List Tm):Nat:=Qhp q*y.1.num.natAbs
theorem qok{y:Tm}{q:List Tm}{K:Nat}(bq:FW.PB K 8 (y::q))(nq:Nrm (y::q))(hm:ML 4 (y::q)):QOk (Qp7 y q:Nat) (exW y q:Nat) y q:=by
 have hy0:=nq.z y (by simp)
 have hw1:(1:Rat)<=((exW y q:Nat):Rat):=Qcr (a:=1) (by unfold exW;omega)
 have hlt:∀s∈q,psi s.2<psi y.2:=fun s hs=>by
  have h1:=nq.s.1 s hs
  have h2:=Qc8 y.2 s.2
  exact Qam6 (bq s (by simp[hs])).m (bq y (by simp)).m (hm s (by simp[hs])) (hm y (by simp)) (by omega)
 refine⟨hw1,IsI.nat _,hlt,fun s hs=> ?_,?_,fun t ht i=>((bq t ht).m.eN i).1,hm⟩
 ·have h1:=Qvp (Qoy hs)
  have h2:IsI (((y.1.num.natAbs:Nat):Rat)/y.1):=by
   have h3:=Qli y.1
   have h4:((y.1.num.natAbs:Nat):Rat)/y.1=(y.1.den:Rat)∨((y.1.num.natAbs:Nat):Rat)/y.1= -(y.1.den:Rat):=by
    rw[<-h3];unfold Qbd;grind
   rcases h4 with h4|h4<;>rw[h4]
   ·exact IsI.nat _
   ·exact(IsI.nat _).neg
  have h5:=h1.mul h2
  have e:s.1/y.1*((Qp7 y q:Nat):Rat)=s.1*(Qhp q:Rat)*(((y.1.num.natAbs:Nat):Rat)/y.1):=by
   unfold Qp7;rw[Rat.natCast_mul];grind
  rw[e];exact h5
 ·cases q with
  |nil=>
   have:=Qf9 (W:=((exW y []:Nat):Rat)) (by grind) y.1 y.2
   simp only[nW];exact this
  | cons s q=>
   have hp0:0<psi y.2:=by have:=hlt s (by simp);omega
   obtain⟨n,hn⟩:∃n,psi y.2=n+1:=⟨psi y.2-1,by omega⟩
   have h1:=Qae4 (w:=exW y (s::q)) (by unfold exW;omega) (N:=n) (p:=s::q) (fun t ht=>by have:=hlt t ht;omega)
   rw[Rat.natCast_mul,Rat.natCast_pow]at h1
   have h2:((Qdy (s::q):Nat):Rat)<=Qbd y.1*((exW y (s::q):Nat):Rat):=by
    have h3:=Qli y.1
    have h4:(1:Rat)<=((y.1.num.natAbs:Nat):Rat):=Qcr (a:=1) (by
     have:y.1.num≠0:=fun e=>hy0 (Rat.num_eq_zero.1 e)
     omega)
    have h5:=Rat.mul_le_mul_of_nonneg_left h4 (show(0:Rat)<=((Qdy (s::q):Nat):Rat)from Qcr (a:=0) (by omega))
    unfold exW
    rw[Rat.natCast_add,Rat.natCast_mul]
    have h6:=Qby y.1
    have h7:((1:Nat):Rat)=1:=rfl
    rw[h7]
    generalize((Qdy (s::q):Nat):Rat)=S at *
    grind
   have h8:=Rat.mul_le_mul_of_nonneg_right h2 (Qe3 (show(0:Rat)<=((exW y (s::q):Nat):Rat)by grind) n)
   rw[hn,Rat.pow_succ]
   grind
end Go.FW
namespace Go.FW
open Go
def n1:List Tm->Rat
 | []=>0
 |t::p=>Qbd t.1+n1 p
theorem Ql8:∀p,0<=n1 p
 | []=>Rat.le_refl
 |t::p=>by
  have h1:=Qby t.1
  have h2:=Ql8 p
  simp only[n1];grind
theorem Q21(p q:List Tm):n1 (Qy p q)<=n1 p+n1 q:=by
 induction p,q using Qy.induct with
 |case1 q=>rw[Qei];simp only[n1];grind
 |case2 p hp=>rw[Qca];simp only[n1];grind
 |case3 c m p d l q h1 ih=>rw[Qy,if_pos h1];simp only[n1]at ih ⊢;grind
 |case4 c m p d l q h1 h2 ih=>rw[Qy,if_neg h1,if_pos h2];simp only[n1]at ih ⊢;grind
 |case5 c m p d l q h1 h2 h3 ih=>
  rw[Qy,if_neg h1,if_neg h2,if_pos h3]
  have g1:=Qby c
  have g2:=Qby d
  simp only[n1]at ih ⊢;grind
 |case6 c m p d l q h1 h2 h3 ih=>
  rw[Qy,if_neg h1,if_neg h2,if_neg h3]
  have g:=Q0j c d
  simp only[n1]at ih⊢
  grind
theorem Qw8(t:Tm):∀p:List Tm,n1 (Q3 p t)<=Qbd t.1*n1 p
 | []=>by simp only[Q3,List.filterMap_nil,n1];grind
 |s::p=>by
  have ih:=Qw8 t p
  have g:=Qhn s.1 t.1
  have g2:=Rat.mul_nonneg (Qby t.1) (Qby s.1)
  unfold Q3 at ih⊢
  rw[List.filterMap_cons]
  by_cases e:s.1*t.1=0
  ·rw[if_pos e];simp only[n1];grind
  ·rw[if_neg e];simp only[n1];grind
def n1s:List (List Tm)->Rat
 | []=>0
 |p::l=>n1 p+n1s l
theorem Quh:∀a b:List (List Tm),n1s (a++b)=n1s a+n1s b
 | [],b=>by simp only[List.nil_append,n1s];grind
 |p::a,b=>by
  simp only[List.cons_append,n1s]
  rw[Quh a b];grind
theorem Q22(l:List (List Tm)):n1 (Qba l)<=n1s l:=by
 induction l using Qba.induct with
 |case1=>rw[Qba];exact Rat.le_refl
 |case2 p=>rw[Qba];simp only[n1s];grind
 |case3 p q r h1 h2=>
  rw[Qba]
  have h3:=Q21 (Qba ((p::q::r).take ((p::q::r).length/2))) (Qba ((p::q::r).drop ((p::q::r).length/2)))
  have h4:=Quh ((p::q::r).take ((p::q::r).length/2)) ((p::q::r).drop ((p::q::r).length/2))
  rw[List.take_append_drop]at h4
  rw[h4]
  grind
theorem Qp8(q:List Tm):∀p:List Tm,n1s (p.map (Q3 q))<=n1 p*n1 q
 | []=>by simp only[List.map_nil,n1s,n1];grind
 |t::p=>by
  have ih:=Qp8 q p
  have h:=Qw8 t q
  simp only[List.map_cons,n1s,n1]
  grind
theorem Qajf(p q:List Tm):n1 (Qu p q)<=n1 p*n1 q:=by
 unfold Qu
 split
 ·have h1:=Q22 (q.map (Q3 p))
  have h2:=Qp8 p q
  unfold Qgh;grind
 ·have h1:=Q22 (p.map (Q3 q))
  have h2:=Qp8 q p
  unfold Qgh;grind
def Dn(D:Nat)(p:List Tm):Prop:=∀t∈p,IsI (t.1*(D:Rat))
theorem Q23{D:Nat}(p q:List Tm):Dn D p->Dn D q->Dn D (Qy p q):=by
 induction p,q using Qy.induct with
 |case1 q=>intro _ h;rwa[Qei]
 |case2 p hp=>intro h _;rwa[Qca]
 |case3 c m p d l q h1 ih=>
  intro hp hq;rw[Qy,if_pos h1]
  intro t ht
  rcases List.mem_cons.1 ht with rfl|ht
  ·exact hp _ (List.mem_cons_self ..)
  ·exact ih (fun t ht=>hp t (List.mem_cons_of_mem _ ht)) hq t ht
 |case4 c m p d l q h1 h2 ih=>
  intro hp hq;rw[Qy,if_neg h1,if_pos h2]
  intro t ht
  rcases List.mem_cons.1 ht with rfl|ht
  ·exact hq _ (List.mem_cons_self ..)
  ·exact ih hp (fun t ht=>hq t (List.mem_cons_of_mem _ ht)) t ht
 |case5 c m p d l q h1 h2 h3 ih=>
  intro hp hq;rw[Qy,if_neg h1,if_neg h2,if_pos h3]
  exact ih (fun t ht=>hp t (List.mem_cons_of_mem _ ht)) fun t ht=>hq t (List.mem_cons_of_mem _ ht)
 | case6 c m p d l q h1 h2 h3 ih=>
  intro hp hq;rw[Qy,if_neg h1,if_neg h2,if_neg h3]
  intro t ht
  rcases List.mem_cons.1 ht with rfl|ht
  ·have a:=hp (c,m) (List.mem_cons_self ..)
   have b:=hq (d,l) (List.mem_cons_self ..)
   show IsI ((c+d)*(D:Rat))
   rw[Rat.add_mul];exact a.add b
  ·exact ih (fun t ht=>hp t (List.mem_cons_of_mem _ ht)) (fun t ht=>hq t (List.mem_cons_of_mem _ ht)) t ht
theorem Q24{D:Nat}(l:List (List Tm)):(∀p∈l,Dn D p)->Dn D (Qba l):=by
 induction l using Qba.induct with
 |case1=>intro _;rw[Qba];intro t ht;cases ht
 |case2 p=>intro h;rw[Qba];exact h p (List.mem_cons_self ..)
 |case3 p q r h1 h2=>
  intro h
  rw[Qba]
  exact Q23 _ _ (h1 fun x hx=>h x (List.mem_of_mem_take hx)) (h2 fun x hx=>h x (List.mem_of_mem_drop hx))
theorem Qw9{D D':Nat}{t:Tm}(ht:IsI (t.1*(D':Rat))){p:List Tm}(hp:Dn D p):Dn (D*D') (Q3 p t):=by
 intro x hx
 simp only[Q3,List.mem_filterMap]at hx
 obtain⟨s,hs,e⟩:=hx
 split at e
 ·cases e
 ·obtain rfl:(s.1*t.1,Qak s.2 t.2)=x:=by simpa using e
  have:=(hp s hs).mul ht
  show IsI (s.1*t.1*((D*D':Nat):Rat))
  rw[Rat.natCast_mul,show s.1*t.1*((D:Rat)*(D':Rat))=s.1*(D:Rat)*(t.1*(D':Rat))by grind]
  exact this
theorem Qajg{D D':Nat}{p q:List Tm}(hp:Dn D p)(hq:Dn D' q):Dn (D*D') (Qu p q):=by
 unfold Qu
 split
 ·refine Q24 _ fun x hx=> ?_
  obtain⟨t,ht,rfl⟩:=List.mem_map.1 hx
  exact Qw9 (hq t ht) hp
 ·refine Q24 _ fun x hx=> ?_
  obtain⟨t,ht,rfl⟩:=List.mem_map.1 hx
  rw[Nat.mul_comm]
  exact Qw9 (hp t ht) hq
theorem Q8o:∀ {p:List Tm} {t:Tm},t∈p->Qbd t.1<=n1 p
 | s::p,t,ht=>by
  have h1:=Ql8 p
  have h2:=Qby s.1
  simp only[n1]
  rcases List.mem_cons.1 ht with rfl|ht
  ·grind
  ·have:=Q8o ht
   grind
theorem Q0n{D N:Nat}{p:List Tm}(hD:0<D)(hN:0<N)(hp:Dn D p)(hn:n1 p<=(N:Rat)){t:Tm}(ht:t∈p):rs t.1<=nl (N*D)+nl D+2:=by
 obtain⟨z,hz⟩:=hp t ht
 have hT:=Q8o ht
 have hNt:Qbd t.1<=(N:Rat):=by grind
 have hXr:((D:Int):Rat)≠0:=by rw[Ne,Rat.intCast_eq_zero_iff];omega
 have e:t.1=(z:Rat)/((D:Int):Rat):=by rw[<-hz,Rat.intCast_natCast];rw[Rat.intCast_natCast]at hXr;grind
 have hzl:z.natAbs<=N*D:=by
  have h2:Qbd (z:Rat)=Qbd t.1*(D:Rat):=by
   rw[<-hz,Qhn];congr 1
   rw[<-Rat.intCast_natCast,Qix,Int.natAbs_natCast,Rat.intCast_natCast]
  rw[Qix]at h2
  have h3:(0:Rat)<=(D:Rat):=by rw[<-Rat.intCast_natCast,show(0:Rat)=((0:Int):Rat)from rfl,Rat.intCast_le_intCast];omega
  have h4:=Rat.mul_le_mul_of_nonneg_right hNt h3
  rw[<-h2,<-Rat.natCast_mul,<-Rat.intCast_natCast,<-Rat.intCast_natCast,Rat.intCast_le_intCast]at h4
  omega
 have hr:=Q0g z (D:Int) (by omega)
 rw[<-e,Int.natAbs_natCast]at hr
 have g1:=Qbm hzl
 omega
end Go.FW
namespace Go.FW
open Go
def XB(E:Nat)(p:List Tm):Prop:=∃K,PB K E p
theorem XB.padd{E:Nat}{p q:List Tm}:XB E p->XB E q->XB E (FW.Qy p q):=fun⟨_,h⟩ ⟨_,g⟩=>⟨_,Qvf p q h g⟩
theorem XB.psum{E:Nat}(l:List (List Tm)):(∀p∈l,XB E p)->XB E (FW.Qba l):=by
 induction l using FW.Qba.induct with
 |case1=>intro _;rw[FW.Qba];exact⟨0,PB.nil _ _⟩
 |case2 p=>intro h;rw[FW.Qba];exact h p (List.mem_cons_self ..)
 |case3 p q r h1 h2=>
  intro h
  rw[FW.Qba]
  exact XB.padd (h1 fun x hx=>h x (List.mem_of_mem_take hx)) (h2 fun x hx=>h x (List.mem_of_mem_drop hx))
theorem XB.pmul{E F:Nat}{p q:List Tm}:XB E p->XB F q->XB (E+F) (FW.Qu p q):=fun⟨K,h⟩ ⟨L,g⟩=>by
 unfold FW.Qu
 split
 ·refine XB.psum _ fun x hx=> ?_
  obtain⟨t,ht,rfl⟩:=List.mem_map.1 hx
  exact⟨K+L,Qft h (g t ht)⟩
 ·refine XB.psum _ fun x hx=> ?_
  obtain⟨t,ht,rfl⟩:=List.mem_map.1 hx
  rw[Nat.add_comm]
  exact⟨L+K,Qft g (h t ht)⟩
structure SZ(a b E:Nat)(p:List Tm):Prop where
 d:∃D N:Nat,0<D/\0<N/\nl D<=a/\nl N<=b/\Dn D p/\n1 p<=(N:Rat)
 x:XB E p
theorem SZ.mono{a b E a' b' E':Nat}{p:List Tm}(h:SZ a b E p)(ha:a<=a')(hb:b<=b')(hE:E<=E'):SZ a' b' E' p:=by
 obtain⟨⟨D,N,h1,h2,h3,h4,h5,h6⟩,K,hx⟩:=h
 exact⟨⟨D,N,h1,h2,by omega,by omega,h5,h6⟩,K,hx.mono (Nat.le_refl _) hE⟩
theorem Dn.dvd{D D':Nat}{p:List Tm}(h:Dn D p)(hd:D∣D'):Dn D' p:=fun t ht=>by
 obtain⟨k,rfl⟩:=hd
 rw[Rat.natCast_mul,<-Rat.mul_assoc]
 exact(h t ht).mul (IsI.nat k)
theorem SZ.pmul{a b E a' b' E':Nat}{p q:List Tm}(hp:SZ a b E p)(hq:SZ a' b' E' q):SZ (a+a') (b+b') (E+E') (FW.Qu p q):=by
 obtain⟨⟨D,N,h1,h2,h3,h4,h5,h6⟩,hx⟩:=hp
 obtain⟨⟨D',N',g1,g2,g3,g4,g5,g6⟩,gx⟩:=hq
 have e1:=Qb1 D D'
 have e2:=Qb1 N N'
 refine⟨⟨D*D',N*N',Nat.mul_pos h1 g1,Nat.mul_pos h2 g2,by omega,by omega,Qajg h5 g5,?_⟩,hx.pmul gx⟩
 have m1:=Qajf p q
 have m2:=Rat.mul_le_mul_of_nonneg_right h6 (Ql8 q)
 have n0:(0:Rat)<=(N:Rat):=by have:=Ql8 p;grind
 have m3:=Rat.mul_le_mul_of_nonneg_left g6 n0
 rw[Rat.natCast_mul];grind
theorem SZ.padd{a b E a' b':Nat}{p q:List Tm}(hp:SZ a b E p)(hq:SZ a' b' E q):SZ (a+a') (max b b'+1) E (FW.Qy p q):=by
 obtain⟨⟨D,N,h1,h2,h3,h4,h5,h6⟩,hx⟩:=hp
 obtain⟨⟨D',N',g1,g2,g3,g4,g5,g6⟩,gx⟩:=hq
 have e1:=Qb1 D D'
 have e2:=Qmy N N'
 refine⟨⟨D*D',N+N',Nat.mul_pos h1 g1,by omega,by omega,by omega,Q23 p q (h5.dvd (Nat.dvd_mul_right _ _)) (g5.dvd (Nat.dvd_mul_left _ _)),?_⟩,hx.padd gx⟩
 have m1:=Q21 p q
 rw[Rat.natCast_add];grind
theorem SZ.PB{a b E:Nat}{p:List Tm}(h:SZ a b E p):PB (a+b+a+3) E p:=fun t ht=>by
 obtain⟨⟨D,N,h1,h2,h3,h4,h5,h6⟩,K,hx⟩:=h
 have hr:=Q0n h1 h2 h5 h6 ht
 have e:=Qb1 N D
 exact⟨by omega,(hx t ht).m,(hx t ht).l⟩
theorem Qvq:∀p:List Tm,n1 p<=((Qdy p:Nat):Rat)
 | []=>Rat.le_refl
 |t::p=>by
  have h1:=Qvq p
  have h2:=Qrw t.1
  have e:Qdy (t::p)=t.1.num.natAbs+Qdy p:=rfl
  rw[e,Rat.natCast_add]
  simp only[n1];grind
theorem SZ.of{K E L:Nat}{p:List Tm}(h:FW.PB K E p)(hl:p.length<=L):SZ (L*K+1) (L+K+2) E p:=by
 have h1:=Q2z h
 have h2:=Q20 h
 have h3:=Qmy (Qdy p) 1
 have h4:nl 1<=1:=by rw[Qez];exact Nat.le_refl 1
 have h5:p.length*K<=L*K:=Nat.mul_le_mul_right _ hl
 have h6:=Qbm (show Qdy p<=Qdy p+1 by omega)
 by_cases hz:nl (Qdy p)=0
 ·refine⟨⟨Qhp p,Qdy p+1,Qso p,by omega,by omega,by omega,fun t ht=>Qvp (Qoy ht),?_⟩,K,h⟩
  have:=Qvq p
  rw[Rat.natCast_add]
  have:(0:Rat)<=((1:Nat):Rat):=by decide
  grind
 ·refine⟨⟨Qhp p,Qdy p,Qso p,Nat.pos_of_ne_zero fun e=>hz (Qgw.2 e),by omega,by omega,fun t ht=>Qvp (Qoy ht),Qvq p⟩,K,h⟩
end Go.FW
namespace Go.FW
open Go
def Qfm:List (List Tm×List Tm)->List Tm->Option (List Tm)
 | [],s=>some s
 |x::l,s=>if 4000<(Qy s (Qu x.1 x.2)).length then none else Qfm l (Qy s (Qu x.1 x.2))
def Qcm(q:List Tm):Nat->List Tm->Option (List Tm)
 |0,p=>some p
 |n+1,p=>if 4000<(Qu p q).length then none else Qcm q n (Qu p q)
def Qfn:List (List Tm×Nat)->List Tm->Option (List Tm)
 | [],p=>some p
 |x::l,p=>(Qcm x.1 x.2 p).bind (Qfn l)
def Qcf(l:List (List Tm×List Tm))(i:Nat):List Tm:=(l.take i).foldl (fun s x=>Qy s (Qu x.1 x.2)) []
def Qdk(q p:List Tm):Nat->List Tm
 |0=>p
 |n+1=>Qu (Qdk q p n) q
theorem Qig{q:List Tm}:∀ {n:Nat} {p r:List Tm},Qcm q n p=some r->r=Qdk q p n
 |0,p,r,h=>(Option.some.inj h).symm
 | n+1,p,r,h=>by
  unfold Qcm at h
  split at h
  ·cases h
  ·have e:=Qig h
   have key:∀k,Qdk q (Qu p q) k=Qdk q p (k+1):=fun k=>by
    induction k with
    |zero=>rfl
    |succ k ih=>show Qu (Qdk q (Qu p q) k) q=Qu (Qdk q p (k+1)) q;rw[ih]
   rw[e,key]
theorem Qg1{l:List (List Tm×List Tm)}{i:Nat}(h:i<l.length):Qcf l (i+1)=Qy (Qcf l i) (Qu l[i].1 l[i].2):=by
 unfold Qcf
 rw[List.take_succ_eq_append_getElem h,List.foldl_append]
 rfl
theorem Q0o{a b E a' b' E':Nat}{l:List (List Tm×List Tm)}(hl:∀x∈l,SZ a b E x.1/\SZ a' b' E' x.2):∀i,i<=l.length->SZ (i*(a+a')+1) (b+b'+i+1) (E+E') (Qcf l i)
 |0,_=>by
  refine⟨⟨1,1,by omega,by omega,?_,?_,fun t ht=> ?_,?_⟩,0,fun t ht=> ?_⟩
  ·rw[Qez];omega
  ·rw[Qez];omega
  ·simp[Qcf]at ht
  ·simp only[Qcf,List.take_zero,List.foldl_nil,n1];decide
  ·simp[Qcf]at ht
 |i+1,hi=>by
  have h:=Q0o hl i (by omega)
  obtain⟨h1,h2⟩:=hl _ (List.getElem_mem (show i<l.length by omega))
  rw[Qg1 (by omega)]
  refine(h.padd (h1.pmul h2)).mono ?_ ?_ (Nat.le_refl _)
  ·rw[Nat.succ_mul];omega
  ·omega
theorem Qrx{l:List (List Tm×List Tm)}{i:Nat}(h:i<l.length):Qfm (l.drop i) (Qcf l i)=if 4000<(Qcf l (i+1)).length then none else Qfm (l.drop (i+1)) (Qcf l (i+1)):=by
 rw[List.drop_eq_getElem_cons h]
 rw[Qg1 h]
 rfl
end Go.FW
namespace Go.FW
open Go
theorem Ql9{l:List (List Tm×List Tm)}(hl:∀x∈l,Nrm x.1/\Nrm x.2):∀i,i<=l.length->Nrm (Qcf l i)
 |0,_=>Nrm.nil
 |i+1,hi=>by
  obtain⟨h1,h2⟩:=hl _ (List.getElem_mem (show i<l.length by omega))
  rw[Qg1 (by omega)]
  exact Qlf (Ql9 hl i (by omega)) (Qa1 h1.s h2.s)
theorem Qg2{q p:List Tm}(hp:Nrm p)(hq:Nrm q):∀n,Nrm (Qdk q p n)
 |0=>hp
 |n+1=>Qa1 (Qg2 hp hq n).s hq.s
def Qdj(l:List (List Tm×Nat))(p:List Tm):List Tm:=l.foldl (fun p x=>Qdk x.1 p x.2) p
end Go.FW
namespace Go.FW
open Go
end Go.FW
namespace Go.FW
open Go
theorem Qvr{p:List Tm}(np:Nrm p)(h0:p≠[]):plt 0 p=hdT p:=by
 obtain⟨h1,h2⟩:=Qiw (o:=0) np h0
 apply Classical.byContradiction
 intro hne
 have h3:=h2 _ (Qau h0) (fun e=>hne e.symm)
 rcases Qkh np.s _ h1 with e|e
 ·exact hne e
 ·have h4:=Qc8 (hdT p).2 (plt 0 p).2
  have h5:Qa9 0 (plt 0 p).2 (hdT p).2=Qah (plt 0 p).2 (hdT p).2:=by unfold Qa9;rw[if_neg (by simp)]
  omega
theorem Qvs{p q:List Tm}(np:Nrm p)(nq:Nrm q)(h1:p≠[])(h2:q≠[]):Qu p q≠[]/\hdT (Qu p q)=((hdT p).1*(hdT q).1,Qak (hdT p).2 (hdT q).2):=by
 obtain⟨h3,h4⟩:=Q2s (o:=0) np nq h1 h2
 rw[Qvr (Qa1 np.s nq.s) h3,Qvr np h1,Qvr nq h2]at h4
 exact⟨h3,h4⟩
theorem Qxa{E:Nat}{a b:List Int}(ha:MB E a)(hb:MB E b)(hl:a.getLast? ≠some 0):Qgc b (Qak a b)=true/\Qb5 (Qak a b) b=a:=by
 have hm:=ha.mul hb
 have hd:Qgc b (Qak a b)=true:=(Qsn hm).2 fun i=>by rw[Qdt];have:=ha.eN i;omega
 refine⟨hd,?_⟩
 have e:=Qhm hm hb (Qe0 a b) hd
 refine Qhj (Qp4 _ _) hl fun i=> ?_
 have:=congrArg (fun l=>eN l i) e
 simp only[Qdt]at this
 omega
theorem Nrm.drop{p:List Tm}(h:Nrm p):∀k,Nrm (p.drop k)
 |0=>h
 |k+1=>by
  have:=Nrm.drop h k
  rw[<-List.drop_drop]
  cases hd:p.drop k with
  |nil=>simpa using Nrm.nil
  |cons t l=>rw[hd]at this;simpa using this.tail
theorem Q0p{p q:List Tm}{E:Nat}(np:Nrm p)(nq:Nrm q)(bp:∀t∈p,MB E t.2)(bq:∀t∈q,MB E t.2)(hq:q≠[]):∀k,k<=p.length->exP q (Qu p q) k=Qu (p.drop k) q/\exQ q (Qu p q) k=p.take k
 |0,_=>⟨rfl,rfl⟩
 | k+1,h=>by
  obtain⟨h1,h2⟩:=Q0p np nq bp bq hq k (by omega)
  have hk:k<p.length:=by omega
  have e1:p.drop k=p[k]::p.drop (k+1):=List.drop_eq_getElem_cons hk
  have n1:=np.drop k
  have n2:=np.drop (k+1)
  have hne:p.drop k≠[]:=by rw[e1];exact List.cons_ne_nil _ _
  obtain⟨h3,h4⟩:=Qvs n1 nq hne hq
  have e2:hdT (p.drop k)=p[k]:=by rw[e1];rfl
  rw[e2]at h4
  have hz:=nq.z _ (Qau hq)
  have hqm:=bq _ (Qau hq)
  have hpm:=bp _ (List.getElem_mem hk)
  obtain⟨h5,h6⟩:=Qxa hpm hqm (np.c _ (List.getElem_mem hk))
  have eT:exT q (Qu (p.drop k) q)=p[k]:=by
   unfold exT
   rw[h4]
   simp only
   rw[h6]
   have:p[k].1*(hdT q).1/(hdT q).1=p[k].1:=Rat.mul_div_cancel hz
   rw[this]
  have n3:Nrm (Qu (p.drop k) q):=Qa1 n1.s nq.s
  constructor
  ·show exN q (exP q (Qu p q) k)=_
   rw[h1]
   refine Qex (Qm9 n3 nq) (Qa1 n2.s nq.s) fun φ=> ?_
   rw[Qq0 n3 nq,eT,Qb4,Qb4,e1,Qat]
   grind
  ·show exQ q (Qu p q) k++[exT q (exP q (Qu p q) k)]=_
   rw[h1,h2,eT,List.take_succ_eq_append_getElem hk]
theorem Qaoi{p q:List Tm}{E:Nat}(np:Nrm p)(nq:Nrm q)(bp:∀t∈p,MB E t.2)(bq:∀t∈q,MB E t.2)(hq:q≠[]){k:Nat}(h:k<p.length):Qfd q (exP q (Qu p q) k):=by
 obtain⟨h1,h2⟩:=Q0p np nq bp bq hq k (by omega)
 have e1:p.drop k=p[k]::p.drop (k+1):=List.drop_eq_getElem_cons h
 have hne:p.drop k≠[]:=by rw[e1];exact List.cons_ne_nil _ _
 obtain⟨h3,h4⟩:=Qvs (np.drop k) nq hne hq
 have e2:hdT (p.drop k)=p[k]:=by rw[e1];rfl
 rw[h1]
 refine⟨h3,?_⟩
 rw[h4,e2]
 exact(Qxa (bp _ (List.getElem_mem h)) (bq _ (Qau hq)) (np.c _ (List.getElem_mem h))).1
theorem Qoz{p:List Tm}(np:Nrm p){c:Rat}(hc:c≠0):Qal p c=p.map fun t=>(t.1*c,t.2):=by
 rw[Qal,if_neg hc,Q3]
 induction p with
 |nil=>rfl
 | cons t p ih=>
  have hz:t.1*c≠0:=fun h=>by
   rcases Rat.mul_eq_zero.1 h with h|h
   ·exact np.z t (by simp) h
   ·exact hc h
  have ih':=ih np.tail
  rw[List.filterMap_cons,List.map_cons]
  simp only[if_neg hz]
  rw[ih',Qn6 (np.c t (by simp))]
theorem Qo0{p:List Tm}(np:Nrm p):Qal p 1=p:=by
 rw[Qoz np (by decide)]
 simp
theorem Qlj{p:List Tm}(np:Nrm p)(a b:Rat):Qal (Qal p a) b=Qal p (a*b):=by
 refine Qex (Qe2 (Qe2 np.s a).s b) (Qe2 np.s _) fun φ=> ?_
 rw[Qia φ (Qe2 np.s a).c,Qia φ np.c,Qia φ np.c]
 grind
end Go.FW
namespace Go.FW
open Go
set_option maxRecDepth 100000
abbrev PV.pe(r:List Tm×Int):PV:= .tup [PV.poly r.1,.int .i64 r.2]
abbrev PV.cert(fs:List (List Tm))(ps:List Int)(n:Int)(cs:List (List Tm)):PV:= .agg [PV.polys fs,PV.mono ps,.int .i64 n,PV.polys cs]
def Qgd:Option (List Tm)->List Tm×Int
 |some r=>(r,0)
 |none=>([],4)
def Qcg(cs ls:List (List Tm)):List Tm×Int:=if cs.length=ls.length then Qgd (Qfm (cs.zip ls) [])else([],16)
def Qlk(q p:List Tm)(n:Nat):List Tm×Int:=Qgd (Qcm q n p)
def Qg3(ps:List Int):Bool:=ps.all fun n=>decide (0<=n/\n<=64)
def Qda(fs:List (List Tm))(ps:List Int):List Tm×Int:=
 if fs.length=ps.length then(if Qg3 ps then Qgd (Qfn (fs.zip (ps.map Int.toNat)) (Qbj 1))else([],2))else([],16)
def Qfo(fs:List (List Tm))(ps:List Int)(n:Int)(cs hs:List (List Tm))(g:List Tm):Int:=
 if(Qda fs ps).2=0 then
  if fs.any List.isEmpty then 3
  else if n<1∨64<n then 2
  else if cs.length=hs.length then
   match Qcm g n.toNat (Qda fs ps).1 with
   |none=>4
   |some l=>if(Qcg cs hs).2=0 then(if l=(Qcg cs hs).1 then 0 else 17)else(Qcg cs hs).2
  else 16
 else(Qda fs ps).2
structure Sml(p:List Tm):Prop where
 z:SZ 64 64 64 p
 l:p.length<=64
 n:Nrm p
structure Big(p:List Tm):Prop where
 z:SZ (2097152) (2097152) (16384) p
 l:p.length<=131072
 n:Nrm p
theorem Sml.PB{p:List Tm}(h:Sml p):PB 256 64 p:=h.z.PB.mono (by omega) (by omega)
theorem Big.PB{p:List Tm}(h:Big p):FW.PB (8388608) (16384) p:=h.z.PB.mono (by omega) (by omega)
theorem Sml.big{p:List Tm}(h:Sml p):Big p:=⟨h.z.mono (by omega) (by omega) (by omega),by have:=h.l;omega,h.n⟩
theorem Qajh{cs ls:List (List Tm)}(hl:cs.length=ls.length){i:Nat}(h:i<cs.length):(cs.zip ls)[i]'(by simp;omega)=(cs[i],ls[i]'(by omega)):=List.getElem_zip
theorem Qnc{P Q:List Tm->Prop}{cs ls:List (List Tm)}(h1:∀c∈cs,P c)(h2:∀c∈ls,Q c):∀x∈cs.zip ls,P x.1/\Q x.2:=fun x hx=>by
 obtain⟨i,hi,rfl⟩:=List.getElem_of_mem hx
 rw[List.getElem_zip]
 exact⟨h1 _ (List.getElem_mem _),h2 _ (List.getElem_mem _)⟩
theorem Q25{cs ls:List (List Tm)}(h1:∀c∈cs,Big c)(h2:∀c∈ls,Sml c)(hl:cs.length<=8){i:Nat}(hi:i<=(cs.zip ls).length):PB (268435456) (32768) (Qcf (cs.zip ls) i)/\Nrm (Qcf (cs.zip ls) i):=by
 have hz:=Qnc (P:=Big) (Q:=Sml) h1 h2
 have hi8:i<=8:=by rw[List.length_zip]at hi;omega
 refine⟨((Q0o (fun x hx=>⟨(hz x hx).1.z,(hz x hx).2.z⟩) i hi).mono (a':=16777729) (b':=2097225) (E':=32768) ?_ (by omega) (by omega)).PB.mono (by omega) (by omega),Ql9 (fun x hx=>⟨(hz x hx).1.n,(hz x hx).2.n⟩) i hi⟩
 exact Nat.succ_le_succ (Nat.le_trans (Nat.mul_le_mul_right _ hi8) (by decide+kernel))
structure Prd(m:Nat)(p:List Tm):Prop where
 z:SZ (m*64+1) (m*64+2) (m*64) p
 n:Nrm p
 l:p.length<=4000
theorem Prd.PB{m:Nat}{p:List Tm}(h:Prd m p)(hm:m<=1024):FW.PB (262144) (131072) p:=h.z.PB.mono (by omega) (by omega)
theorem Prd.mul{m:Nat}{p q:List Tm}(h:Prd m p)(hq:Sml q)(hl:(Qu p q).length<=4000):Prd (m+1) (Qu p q):=
 ⟨(h.z.pmul hq.z).mono (by omega) (by omega) (by omega),Qa1 h.n.s hq.n.s,hl⟩
theorem SZ.one:SZ 1 1 0 (Qbj 1):=by
 have e:Qbj 1=[((1:Rat),[])]:=by unfold Qbj;rw[if_neg (by decide)]
 rw[e]
 refine⟨⟨1,1,by omega,by omega,by rw[Qez];omega,by rw[Qez];omega,fun t ht=> ?_,?_⟩,3,fun t ht=> ?_⟩
 ·obtain rfl:t=(1,[]):=by simpa using ht
  exact⟨1,by decide+kernel⟩
 ·simp only[n1];decide+kernel
 ·obtain rfl:t=(1,[]):=by simpa using ht
  refine⟨?_,⟨by simp,by simp,by simp⟩,by simp⟩
  show rs 1+1<=3
  have:=Qzn
  omega
theorem Prd.one:Prd 0 (Qbj 1):=⟨SZ.one.mono (by omega) (by omega) (by omega),Qib 1,by unfold Qbj;rw[if_neg (by decide)];simp⟩
theorem Q0q{q P:List Tm}{n k:Nat}(h:k<n):Qcm q (n-k) P=if 4000<(Qu P q).length then none else Qcm q (n-(k+1)) (Qu P q):=by
 rw[show n-k=(n-(k+1))+1 by omega];rfl
theorem Qki{q:List Tm}(hq:Sml q):∀(n m:Nat)(p r:List Tm),Prd m p->Qcm q n p=some r->Prd (m+n) r
 |0,m,p,r,hp,h=>by cases h;exact hp
 | n+1,m,p,r,hp,h=>by
  unfold Qcm at h
  split at h
  ·cases h
  ·have:=Qki hq n (m+1) _ r (hp.mul hq (by omega)) h
   rwa[show m+1+n=m+(n+1)by omega]at this
theorem Q1y{l:List (List Tm×Nat)}{i:Nat}{p:List Tm}(h:i<l.length):Qfn (l.drop i) p=(Qcm l[i].1 l[i].2 p).bind (Qfn (l.drop (i+1))):=by
 rw[List.drop_eq_getElem_cons h];rfl
def Qb6(fs:List (List Tm))(ps:List Int):List (List Tm×Nat):=fs.zip (ps.map Int.toNat)
theorem Qiy{fs:List (List Tm)}{ps:List Int}(h:fs.length=ps.length):(Qb6 fs ps).length=fs.length:=by simp[Qb6,h]
theorem Qo1{fs:List (List Tm)}{ps:List Int}(h:fs.length=ps.length){i:Nat}(hi:i<fs.length):(Qb6 fs ps)[i]'(by rw[Qiy h];exact hi)=(fs[i],(ps[i]'(by omega)).toNat):=by
 simp[Qb6,List.getElem_zip]
theorem Qxb{ps:List Int}(h:Qg3 ps=true){i:Nat}(hi:i<ps.length):0<=ps[i]/\ps[i]<=64:=by
 have:=List.all_eq_true.1 h _ (List.getElem_mem hi)
 simpa using this
theorem Q8p{ps:List Int}{i:Nat}(hi:i<ps.length)(h:¬(0<=ps[i]/\ps[i]<=64)):Qg3 ps=false:=by
 unfold Qg3
 rw[List.all_eq_false];exact⟨_,List.getElem_mem hi,by simpa using h⟩
theorem Q8q{ps:List Int}(h:∀j (hj:j<ps.length),0<=ps[j]/\ps[j]<=64):Qg3 ps=true:=by
 unfold Qg3
 rw[List.all_eq_true]
 intro x hx
 obtain⟨j,hj,rfl⟩:=List.getElem_of_mem hx
 exact decide_eq_true (h j hj)
theorem Qxc{fs:List (List Tm)}{ps:List Int}(h:fs.length=ps.length)(hp:Qg3 ps=false):Qda fs ps=([],2):=by
 unfold Qda;rw[if_pos h,hp];rfl
theorem Q0r{fs:List (List Tm)}{ps:List Int}(h:fs.length=ps.length)(hp:Qg3 ps=true):Qda fs ps=Qgd (Qfn (Qb6 fs ps) (Qbj 1)):=by
 unfold Qda;rw[if_pos h,hp];rfl
theorem Q8r{l:List (List Tm×Nat)}(hl:∀x∈l,Sml x.1/\x.2<=64):∀(m:Nat)(p r:List Tm),Prd m p->Qfn l p=some r->∃n,n<=m+64*l.length/\Prd n r:=by
 induction l with
 |nil=>intro m p r hp h;cases h;exact⟨m,by omega,hp⟩
 | cons x l ih=>
  intro m p r hp h
  obtain⟨h1,h2⟩:=hl x (List.mem_cons_self ..)
  show ∃n,_
  unfold Qfn at h
  cases hr:Qcm x.1 x.2 p with
  |none=>rw[hr]at h;cases h
  |some s=>
   rw[hr]at h
   obtain⟨n,h3,h4⟩:=ih (fun y hy=>hl y (List.mem_cons_of_mem _ hy)) (m+x.2) s r (Qki h1 _ _ _ _ hp hr) h
   exact⟨n,by rw[List.length_cons];omega,h4⟩
theorem Q8s{fs:List (List Tm)}{ps:List Int}(hf:∀c∈fs,Sml c)(hl:fs.length<=8)(h:(Qda fs ps).2=0):∃n,n<=512/\Prd n (Qda fs ps).1:=by
 unfold Qda at h⊢
 split at h
 ·rename_i h1
  rw[if_pos h1]
  split at h
  ·rename_i h2
   rw[if_pos h2]
   cases hr:Qfn (Qb6 fs ps) (Qbj 1)with
   |none=>unfold Qb6 at hr;rw[hr]at h;cases h
   | some r=>
    have hr':=hr
    unfold Qb6 at hr'
    rw[hr']
    obtain⟨n,h3,h4⟩:=Q8r (l:=Qb6 fs ps) (fun x hx=>by
     obtain⟨i,hi,rfl⟩:=List.getElem_of_mem hx
     have hi':i<fs.length:=by rwa[Qiy h1]at hi
     rw[Qo1 h1 hi']
     have:=Qxb h2 (i:=i) (by omega)
     exact⟨hf _ (List.getElem_mem hi'),by simp only;omega⟩) 0 _ r Prd.one hr
    rw[Qiy h1]at h3
    exact⟨n,by omega,h4⟩
  ·cases h
 ·cases h
theorem Qry{l:List (List Tm×List Tm)}{s:List Tm}:∀k i,k=l.length-i->i<=l.length->(Qcf l i).length<=4000->Qfm (l.drop i) (Qcf l i)=some s->s=Qcf l l.length/\s.length<=4000
 |0,i,hk,hi,hl,h=>by
  obtain rfl:i=l.length:=by omega
  rw[List.drop_length]at h
  cases h;exact⟨rfl,hl⟩
 |k+1,i,hk,hi,hl,h=>by
  have hi':i<l.length:=by omega
  rw[Qrx hi']at h
  split at h
  ·cases h
  ·exact Qry k (i+1) (by omega) (by omega) (by omega) h
theorem Qsp{cs ls:List (List Tm)}(h:(Qcg cs ls).2=0):cs.length=ls.length/\Qfm (cs.zip ls) []=some (Qcg cs ls).1/\(Qcg cs ls).1=Qcf (cs.zip ls) (cs.zip ls).length/\(Qcg cs ls).1.length<=4000:=by
 unfold Qcg at h⊢
 split at h
 ·rename_i he
  rw[if_pos he]
  cases hr:Qfm (cs.zip ls) []with
  |none=>rw[hr]at h;cases h
  |some s=>
   obtain⟨h1,h2⟩:=Qry _ 0 rfl (by omega) (by simp[Qcf]) (s:=s) (by exact hr)
   exact⟨he,rfl,h1,h2⟩
 ·cases h
theorem Qaef{cs ls:List (List Tm)}(h1:∀c∈cs,Big c)(h2:∀c∈ls,Sml c)(hl:cs.length<=8):PB 268435456 32768 (Qcg cs ls).1/\Nrm (Qcg cs ls).1/\(Qcg cs ls).1.length<=4000:=by
 by_cases h:(Qcg cs ls).2=0
 ·obtain⟨_,_,h3,h4⟩:=Qsp h
  have:=Q25 h1 h2 hl (Nat.le_refl _)
  rw[<-h3]at this
  exact⟨this.1,this.2,h4⟩
 ·have e:(Qcg cs ls).1=[]:=by
   unfold Qcg at h⊢
   split
   ·rename_i he
    rw[if_pos he]at h
    cases hr:Qfm (cs.zip ls) []with
    |none=>rfl
    |some s=>rw[hr]at h;exact absurd rfl h
   ·rfl
  rw[e];exact⟨PB.nil _ _,Nrm.nil,by simp⟩
end Go.FW
