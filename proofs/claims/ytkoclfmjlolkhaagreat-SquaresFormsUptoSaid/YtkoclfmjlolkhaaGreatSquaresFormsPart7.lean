/- Part 7 of the proof of SquaresForms: FwUI, FwUJ, FwUH, FwUK, FwXA. Own lemmas; no conditions. -/
import Derived.Test.YtkoclfmjlolkhaaGreatSquaresFormsPart6
set_option linter.unusedSimpArgs false
set_option linter.unusedVariables false
set_option linter.unnecessarySimpa false
set_option maxRecDepth 100000
namespace Go.FW
open Go
def Qgy(c:Rat):Rat:=if c<0 then -c else c
theorem Qsn(c:Rat):0<=Qgy c:=by unfold Qgy;grind
theorem Qafw(a b:Rat):Qgy (a*b)=Qgy a*Qgy b:=by
 have pos:∀x:Rat,0<=x->Qgy x=x:=fun x h=>by unfold Qgy;grind
 have neg:∀x:Rat,x<=0->Qgy x= -x:=fun x h=>by unfold Qgy;grind
 rcases Decidable.em (0<=a)with ha|ha<;>rcases Decidable.em (0<=b)with hb|hb
 ·rw[pos _ (Rat.mul_nonneg ha hb),pos _ ha,pos _ hb]
 ·have h:=Rat.mul_nonneg ha (show 0<= -b by grind)
  rw[neg (a*b) (by grind),pos _ ha,neg b (by grind)];grind
 ·have h:=Rat.mul_nonneg (show 0<= -a by grind) hb
  rw[neg (a*b) (by grind),neg a (by grind),pos _ hb];grind
 ·have h:=Rat.mul_nonneg (show 0<= -a by grind) (show 0<= -b by grind)
  rw[pos (a*b) (by grind),neg a (by grind),neg b (by grind)];grind
theorem Q0z(z:Int):Qgy (z:Rat)=((z.natAbs:Nat):Rat):=by
 rw[<-Rat.intCast_natCast]
 unfold Qgy
 split
 ·rename_i h
  have h':z<0:=by have:=(Rat.intCast_lt_intCast (a:=z) (b:=0)).1 (by simpa using h);exact this
  rw[<-Rat.intCast_neg];congr 1;omega
 ·rename_i h
  have h':¬z<0:=fun hz=>h (by have:=(Rat.intCast_lt_intCast (a:=z) (b:=0)).2 hz;simpa using this)
  congr 1;omega
def psi(m:List Int):Nat:=(eN m 3).toNat*729+(eN m 2).toNat*81+(eN m 1).toNat*9+(eN m 0).toNat
theorem cmp4{a b:List Int}(ha:a.length<=4)(hb:b.length<=4):Qat a b=Qcv a b 4:=(Qi9 (by omega)).symm
theorem Qalj{a b:List Int}(ha:a.length<=4)(hb:b.length<=4)(h:Qat a b<0):
  eN a 3<eN b 3∨(eN a 3=eN b 3/\(eN a 2<eN b 2∨(eN a 2=eN b 2/\(eN a 1<eN b 1∨(eN a 1=eN b 1/\eN a 0<eN b 0))))):=by
 rw[cmp4 ha hb]at h
 simp only[Qcv]at h
 have z3:=Qk5 (x:=eN a 3) (y:=eN b 3)
 have z2:=Qk5 (x:=eN a 2) (y:=eN b 2)
 have z1:=Qk5 (x:=eN a 1) (y:=eN b 1)
 have z0:=Qk5 (x:=eN a 0) (y:=eN b 0)
 by_cases e3:eN a 3=eN b 3
 ·rw[if_pos e3]at h
  refine .inr ⟨e3,?_⟩
  by_cases e2:eN a 2=eN b 2
  ·rw[if_pos e2]at h
   refine .inr ⟨e2,?_⟩
   by_cases e1:eN a 1=eN b 1
   ·rw[if_pos e1]at h
    refine .inr ⟨e1,?_⟩
    by_cases e0:eN a 0=eN b 0
    ·rw[if_pos e0]at h;omega
    ·rw[if_neg e0]at h;exact z0.1 h
   ·rw[if_neg e1]at h;exact .inl (z1.1 h)
  ·rw[if_neg e2]at h;exact .inl (z2.1 h)
 ·rw[if_neg e3]at h;exact .inl (z3.1 h)
def nW(W:Rat):List Tm->Rat
 | []=>0
 |t::p=>Qgy t.1*W^psi t.2+nW W p
theorem Qux{W:Rat}(h:0<=W):∀n:Nat,0<=W^n
 |0=>by rw[Rat.pow_zero];decide
 |n+1=>by rw[Rat.pow_succ];exact Rat.mul_nonneg (Qux h n) h
theorem Quy{W:Rat}(h:1<=W):∀n:Nat,1<=W^n
 |0=>by rw[Rat.pow_zero];decide
 |n+1=>by
  rw[Rat.pow_succ]
  have h1:=Quy h n
  have:=Rat.mul_le_mul_of_nonneg_right h1 (show(0:Rat)<=W by grind)
  grind
theorem Qso{W:Rat}(h:0<=W)(c:Rat)(m:List Int):0<=Qgy c*W^psi m:=Rat.mul_nonneg (Qsn c) (Qux h _)
theorem Qxk{W:Rat}(h:0<=W):∀p,0<=nW W p
 | []=>by simp only[nW];decide
 |t::p=>by
  have h1:=Qso h t.1 t.2
  have h2:=Qxk h p
  simp only[nW];grind
def Pos(p:List Tm):Prop:=∀t∈p,∀i,0<=eN t.2 i
def IsI(c:Rat):Prop:=∃z:Int,c=(z:Rat)
theorem IsI.add{a b:Rat}:IsI a->IsI b->IsI (a+b):=fun⟨x,hx⟩ ⟨y,hy⟩=>⟨x+y,by rw[hx,hy,Rat.intCast_add]⟩
theorem IsI.neg{a:Rat}:IsI a->IsI (-a):=fun⟨x,hx⟩=>⟨-x,by rw[hx,Rat.intCast_neg]⟩
def IW(D F:Rat)(N:Nat)(p:List Tm):Prop:=∀t∈p,psi t.2<=N/\IsI (t.1*(D*F^(N-psi t.2)))
theorem IW.cons{D F:Rat}{N:Nat}{t:Tm}{p:List Tm}:IW D F N (t::p)↔(psi t.2<=N/\IsI (t.1*(D*F^(N-psi t.2))))/\IW D F N p:=by simp[IW]
def c4(m:List Int):Nat:=(((eN m 3).toNat*81+(eN m 2).toNat)*729+(eN m 1).toNat)*6561+(eN m 0).toNat
theorem Qaq7{a b:List Int}(ha:∀i,0<=eN a i)(hb:∀i,0<=eN b i)(la:a.length<=4)(lb:b.length<=4)(pa:psi a<=6560)(pb:psi b<=6560)(h:Qat a b<0):c4 a<c4 b:=by
 have a0:=ha 0;have a1:=ha 1;have a2:=ha 2;have a3:=ha 3
 have b0:=hb 0;have b1:=hb 1;have b2:=hb 2;have b3:=hb 3
 have:=Qalj la lb h
 simp only[psi]at pa pb
 simp only[c4,Zo,Zg,Zm,Zc,Zf,Zl,Zh,Zs,Zi,Zb,Zk,Zn,Zu,Zq,Zr,Zz]
 omega
theorem Qaq8{a:List Int}(pa:psi a<=6560):c4 a<2^32:=by
 simp only[psi]at pa
 simp only[c4,Zo,Zg,Zm,Zc,Zf,Zl,Zh,Zs,Zi,Zb,Zk,Zn,Zu,Zq,Zr,Zz]
 omega
structure ExI(D F W N0:Rat)(p:List Tm):Prop where
 i:IW D F 6560 p
 n:nW W p<=N0
 pos:Pos p
 ml:ML 4 p
 nrm:Nrm p
theorem Q6b{p:List Tm}:(∀t∈p,psi t.2<=6560)->Pos p->ML 4 p->Qcw p->p≠[]->p.length<=c4 (hdT p).2+1:=by
 induction p with
 |nil=>intro _ _ _ _ h;exact absurd rfl h
 | cons t p ih=>
  intro hp hP hM hs _
  cases p with
  |nil=>simp
  |cons s p=>
   have h1:=ih (fun x hx=>hp x (by simp[hx])) (fun x hx=>hP x (by simp[hx])) (fun x hx=>hM x (by simp[hx])) hs.2 (by simp)
   have h2:=hs.1 s (by simp)
   have h3:=Qja t.2 s.2
   have h4:=Qaq7 (hP s (by simp)) (hP t (by simp)) (hM s (by simp)) (hM t (by simp)) (hp s (by simp)) (hp t (by simp)) (by omega)
   simp only[hdT,List.headD_cons,List.length_cons]at h1⊢
   omega
theorem ExI.len{D F W N0:Rat}{p:List Tm}(h:ExI D F W N0 p):p.length<=2^32:=by
 by_cases h0:p=[]
 ·subst h0;simp
 ·have h1:=Q6b (fun t ht=>(h.i t ht).1) h.pos h.ml h.nrm.s h0
  have:=Qaq8 (h.i _ (Qali h0)).1
  omega
theorem Q9w{W:Rat}(h:1<=W):∀ {p:List Tm} {t:Tm},t∈p->Qgy t.1<=nW W p
 | s::p,t,ht=>by
  have h0:(0:Rat)<=W:=by grind
  have h1:=Qxk h0 p
  have h2:=Qso h0 s.1 s.2
  simp only[nW]
  rcases List.mem_cons.1 ht with rfl|ht
  ·have h3:=Rat.mul_le_mul_of_nonneg_left (Quy h (psi t.2)) (Qsn t.1)
   grind
  ·have:=Q9w h ht
   grind
theorem ExI.PB{d f w n0 L:Nat}{p:List Tm}(h:ExI d f w n0 p)(hd:0<d)(hf:0<f)(hw:0<w)(hn0:0<n0)(hL:nl (n0*(d*f^6560))<L):PB L 6560 p:=by
 intro t ht
 obtain⟨h1,z,hz⟩:=h.i t ht
 have hw1:(1:Rat)<=(w:Rat):=by
  rw[<-Rat.intCast_natCast,show(1:Rat)=((1:Int):Rat)from rfl,Rat.intCast_le_intCast];omega
 have hN:Qgy t.1<=(n0:Rat):=by have:=Q9w hw1 ht;have:=h.n;grind
 have hX:(d:Rat)*(f:Rat)^(6560-psi t.2)=((d*f^(6560-psi t.2):Nat):Rat):=by
  rw[Rat.natCast_mul,Rat.natCast_pow]
 have hkey:∀N k:Nat,k<=N->d*f^k<=d*f^N:=fun N k h=>Nat.mul_le_mul_left _ (Nat.pow_le_pow_right hf h)
 have hXl:=hkey 6560 (6560-psi t.2) (Nat.sub_le _ _)
 have hX0:0<d*f^(6560-psi t.2):=Nat.mul_pos hd (Nat.pow_pos hf)
 rw[hX]at hz
 generalize d*f^(6560-psi t.2)=X at *
 generalize d*f^6560=Y at *
 have hXr:((X:Int):Rat)≠0:=by rw[Ne,Rat.intCast_eq_zero_iff];omega
 have e:t.1=(z:Rat)/((X:Int):Rat):=by rw[<-hz,Rat.intCast_natCast];rw[Rat.intCast_natCast]at hXr;grind
 have hzl:z.natAbs<=n0*Y:=by
  have h2:Qgy (z:Rat)=Qgy t.1*(X:Rat):=by
   rw[<-hz,Qafw];congr 1
   rw[<-Rat.intCast_natCast,Q0z,Int.natAbs_natCast,Rat.intCast_natCast]
  rw[Q0z]at h2
  have h3:(0:Rat)<=(X:Rat):=by rw[<-Rat.intCast_natCast,show(0:Rat)=((0:Int):Rat)from rfl,Rat.intCast_le_intCast];omega
  have h4:=Rat.mul_le_mul_of_nonneg_right hN h3
  rw[<-h2,<-Rat.natCast_mul,<-Rat.intCast_natCast,<-Rat.intCast_natCast,Rat.intCast_le_intCast]at h4
  have h5:=Nat.mul_le_mul_left n0 hXl
  omega
 have hr:=Q9v z (X:Int) (by omega)
 rw[<-e,Int.natAbs_natCast]at hr
 have g1:=Qb6 hzl
 have g2:nl X<=nl (n0*Y):=by
  exact Qb6 (Nat.le_trans hXl (Nat.le_mul_of_pos_left _ hn0))
 have g3:1<=nl X:=by
  apply Decidable.byContradiction;intro hc
  have:=Qil.1 (show nl X=0 by omega)
  omega
 refine⟨by omega,⟨by have:=h.ml t ht;omega,fun x hx=> ?_,fun x hx=> ?_⟩,h.nrm.c t ht⟩
 all_goals
  obtain⟨i,hi,rfl⟩:=List.getElem_of_mem hx
  have hp:=h.pos t ht i
  rw[Qea hi]at hp
 ·exact hp
 ·have hl:=h.ml t ht
  simp only[psi]at h1
  rw[<-Qea hi]
  rw[<-Qea hi]at hp
  have:i=0∨i=1∨i=2∨i=3:=by omega
  rcases this with rfl|rfl|rfl|rfl<;>omega
theorem Nrm.drop{p:List Tm}(h:Nrm p):∀k,Nrm (p.drop k)
 |0=>h
 |k+1=>by
  have:=Nrm.drop h k
  rw[<-List.drop_drop]
  cases hd:p.drop k with
  |nil=>simpa using Nrm.nil
  |cons t l=>rw[hd]at this;simpa using this.tail
structure RSq where
 n:Bool
 a:List Nat
 d:List Nat
 p:List RTm
instance : Inhabited RSq := ⟨⟨false, [], [], []⟩⟩
abbrev Sq:=Rat×List Tm
abbrev PV.sq(x:Sq):PV:= .agg [.bool (decide (x.1.num<0)),PV.num x.1.num.natAbs,PV.num x.1.den,PV.poly x.2]
def shQ(a d:List Nat):Bool:=decide (a.length<=2)&&decide (d.length<=2)
end Go.FW
