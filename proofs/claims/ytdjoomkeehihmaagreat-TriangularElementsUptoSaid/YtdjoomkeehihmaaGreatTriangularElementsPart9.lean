/- Part 9 of the proof of TriangularElements: W6, FwUE. Own lemmas; no conditions. -/
import Derived.Test.YtdjoomkeehihmaaGreatTriangularElementsPart8
set_option maxHeartbeats 1000000
set_option linter.unusedSimpArgs false
set_option linter.unusedVariables false
set_option linter.unnecessarySimpa false
set_option maxRecDepth 100000
namespace Go.Proofs.YtdjoomkeehihmaaGreat
open Go Go.FW
theorem ace{x y:Int}(hx:nl x.natAbs<2^38)(hy:nl y.natAbs<2^38)(h0:y≠0):Qc Tryz.prog 161 [PV.zz x,PV.zz y] (· = .aw [PV.rat ((x:Rat)/(y:Rat)),.int .i64 0]):=by
 have hv:=Tb x y h0;have hr:=R1 (n:=decide (x<0) !=decide (y<0)) (a:=ah x.natAbs) (d:=ah y.natAbs) (Qp _) (Qp _) hx hy;rw[rv,Q7,hv]at hr;have hs:=CH (n:=decide (y<0)) (a:=ah y.natAbs) (Qp _) (by show nl _<_;omega);rw[lM]at hs;generalize(x:Rat)/(y:Rat)=Q at *
 refine Qf Qj Tryz.func161 rfl af6 (by simp[JV]) fun C hP=>?_;simp only[JV,Zo,Zg,Zm,Zc,Zf,Zl,Zh,Zs,Zi,Zb,Zk,Zn,Zu,Zq,Zr,Zz];refine Sz0 ?_;refine Qa hP hs rfl rfl rfl ?_;refine Sz0 ?_;refine Qb (fun h=>absurd (DA.1 h) h0) (fun _=>?_);refine Sz0 ?_;refine Qa hP hr rfl rfl rfl ?_;refine Sz0 ?_;refine jC ?_;refine Sz0 ?_;exact fl rfl rfl rfl (Qx _) (Qx _)
theorem acf{x:Int}(hx:nl x.natAbs<2^40):Qc Tryz.prog 166 [PV.zz x] (· =PV.zz (-x)):=by
 have hs:=s6 (n:= !decide (x<0)) (a:=ah x.natAbs) (Qp _) (by show nl _<_;omega);have e:zv (!decide (x<0)) (ah x.natAbs)= -x:=by rw[rV];by_cases h:x<0<;>simp[h]<;>omega
 rw[e]at hs;refine Qf Qj Tryz.func166 rfl agK (by simp[J4]) fun C hP=>?_;simp only[J4,Zo,Zg,Zm,Zc,Zf,Zl,Zh,Zs,Zi,Zb,Zk,Zn,Zu,Zq,Zr,Zz];refine Sz0 ?_;refine Qa hP hs rfl rfl rfl ?_;refine Sz0 ?_;refine dD ?_;refine Sz0 ?_;exact Qd rfl rfl
theorem ZW{x y:Int}(hx:nl x.natAbs<2^35)(hy:nl y.natAbs<2^35)(h0:y≠0):Qc Tryz.prog 130 [PV.zz x,PV.zz y] (· = .aw [PV.rat ((x:Rat)/(y:Rat)),.int .i64 0]):=by
 have h3:(y:Rat)≠0:=by rw[Ne,Ka6];exact h0
 have Fi:nl (-x).natAbs<2^35:=by rw[KcC];exact hx
 have o1:=zs (z:=x) (D:=y.natAbs) (by omega) (by omega);have o2:=zs (z:= -x) (D:=y.natAbs) (by omega) (by omega);have e1:¬y<0->mkRat x y.natAbs=(x:Rat)/(y:Rat):=fun h=>by rw[Kb2,<-Rat.intCast_natCast];congr 2;omega
 have e2:y<0->mkRat (-x) y.natAbs=(x:Rat)/(y:Rat):=fun h=>by
  have e:(((y.natAbs:Nat):Int):Rat)= -(y:Rat):=by rw[<-Rat.intCast_neg];congr 1;omega
  rw[Kb2,<-Rat.intCast_natCast,e,Kc3];grind
 refine Qf Qj Tryz.func130 rfl agN (by simp[Jr]) fun C hP=>?_;simp only[Jr,Zo,Zg,Zm,Zc,Zf,Zl,Zh,Zs,Zi,Zb,Zk,Zn,Zu,Zq,Zr,Zz];refine Sz0 ?_;refine Qa hP (G8 (by omega)) rfl rfl rfl ?_;refine Sz0 ?_;refine Qb (fun h=>absurd (DA.1 h) h0) (fun _=>?_);refine Sz0 ?_;refine Qb (fun hn=>?_) (fun hn=>?_)
 ·rw[e2 hn]at o2;generalize(x:Rat)/(y:Rat)=Q at *
  refine Sz0 ?_;refine Qa hP (acf (x:=x) (by omega)) rfl rfl rfl ?_;refine Sz0 ?_;refine Qa hP o2 rfl rfl rfl ?_;refine Sz0 ?_;refine jC ?_;refine Sz0 ?_;exact fl rfl rfl rfl (Qx _) (Qx _)
 ·rw[e1 hn]at o1;generalize(x:Rat)/(y:Rat)=Q at *
  refine Sz0 ?_;refine Qa hP o1 rfl rfl rfl ?_;refine Sz0 ?_;refine jC ?_;refine Sz0 ?_;exact fl rfl rfl rfl (Qx _) (Qx _)
end Go.Proofs.YtdjoomkeehihmaaGreat
namespace Go.FW
open Go
def dN(p:List Tm):Nat:=p.foldl (fun g t=>Nat.gcd g t.1.num.natAbs) 0
def ba(p:List Tm):Nat:=p.foldl (fun l t=>l*(t.1.den/Nat.gcd l t.1.den)) 1
theorem De{p:List Tm}{i:Nat}(h:i<p.length):dN (p.take (i+1))=Nat.gcd (dN (p.take i)) p[i].1.num.natAbs:=by rw[Kah h,dN,KbX];rfl
theorem tq{p:List Tm}{i:Nat}(h:i<p.length):ba (p.take (i+1))=ba (p.take i)*(p[i].1.den/Nat.gcd (ba (p.take i)) p[i].1.den):=by rw[Kah h,ba,KbX];rfl
structure FJ(G L:Nat):Prop where
 l0:0<L
 cop:Nat.Coprime G L
theorem NI{G L n d:Nat}(h:FJ G L)(hd:0<d)(hc:Nat.Coprime n d):
  FJ (Nat.gcd G n) (L*(d/Nat.gcd L d))/\Nat.gcd (G*(d/Nat.gcd L d)) (n*(L/Nat.gcd L d))=Nat.gcd G n:=by
 obtain⟨g,hg⟩:∃g,g=Nat.gcd L d:=⟨_,rfl⟩
 have im:0<g:=hg▸Nat.gcd_pos_of_pos_left d h.l0;obtain⟨a,ha⟩:g∣d:=hg▸KbW L d;obtain⟨b,hb⟩:g∣L:=hg▸KbI L d;have sv:Nat.Coprime a b:=by
  have e:Nat.gcd L d=g*Nat.gcd b a:=by conv=>lhs;rw[hb,ha,Nat.gcd_mul_left]
  rw[<-hg]at e;have:Nat.gcd b a=1:=by apply Nat.eq_of_mul_eq_mul_left im;rw[KbF];exact e.symm
  rw[Nat.Coprime,Kcx];exact this
 have e1:d/Nat.gcd L d=a:=by rw[<-hg,ha,Kbj _ im]
 have e2:L/Nat.gcd L d=b:=by rw[<-hg,hb,Kbj _ im]
 have Vw:=h.cop;rw[e1,e2];have yw:0<a:=Nat.pos_of_mul_pos_left (ha▸hd:0<g*a);have UN:Nat.Coprime n a:=Nat.Coprime.coprime_dvd_right ⟨g,by rw[ha,KaS]⟩ hc;have cGb:Nat.Coprime G b:=Nat.Coprime.coprime_dvd_right ⟨g,by rw[hb,KaS]⟩ Vw;refine⟨⟨Kce h.l0 yw,?_⟩,?_⟩
 ·refine Nat.Coprime.mul_right ?_ ?_
  ·exact Nat.Coprime.coprime_dvd_left (KbI G n) Vw
  ·exact Nat.Coprime.coprime_dvd_left (KbW G n) UN
 ·have c1:Nat.Coprime a (n*b):=Nat.Coprime.mul_right UN.symm sv;rw[KaS G a,Nat.Coprime.gcd_mul_left_cancel _ c1,KaS n b,Nat.Coprime.gcd_mul_left_cancel_right _ cGb.symm]
theorem IG(q:Rat):Nat.Coprime q.num.natAbs q.den:=q.reduced
theorem tK(p:List Tm):∀i,i<=p.length->FJ (dN (p.take i)) (ba (p.take i))
 |0,_=>⟨by simp[ba],by simp[dN,ba,Nat.Coprime]⟩
 |i+1,h=>by rw[De (by omega),tq (by omega)];exact(NI (tK p i (by omega)) (KaY p[i].1.den_nz) (IG _)).1
theorem OQ(p:List Tm){i:Nat}(h:i<p.length):ba (p.take i)∣ba (p.take (i+1))/\p[i].1.den∣ba (p.take (i+1)):=by
 rw[tq h];refine⟨Nat.dvd_mul_right _ _,?_⟩;generalize ba (p.take i)=L;generalize p[i].1.den=d;obtain⟨a,ha⟩:Nat.gcd L d∣d:=KbW L d;obtain⟨b,hb⟩:Nat.gcd L d∣L:=KbI L d;generalize hg:Nat.gcd L d=g at *
 rcases Kc1 g with h0|h0
 ·rw[h0,KbH]at ha;subst ha;rw[h0]at hb;simp at hb;subst hb;simp
 ·have e1:d/g=a:=by rw[ha,Kbj _ h0]
  rw[e1];exact⟨b,by rw[ha,hb,Nat.mul_right_comm]⟩
theorem PK(p:List Tm):∀ {i j:Nat},i<=j->j<=p.length->ba (p.take i)∣ba (p.take j):=by
 intro i j h hj;obtain⟨k,rfl⟩:∃k,j=i+k:=⟨j-i,by omega⟩
 clear h;induction k with
 |zero=>exact Nat.dvd_refl _
 |succ k ih=>exact Kco (ih (by omega)) (OQ p (i:=i+k) (by omega)).1
theorem HG(p:List Tm){i:Nat}(h:i<p.length):p[i].1.den∣ba p:=by have h1:=(OQ p h).2;have h2:=PK p (i:=i+1) (j:=p.length) (by omega) (Kac _);rw[Kar]at h2;exact Kco h1 h2
def pL(L:Nat)(p:List Tm):Nat:=p.foldl (fun g t=>Nat.gcd g (t.1.num.natAbs*(L/t.1.den))) 0
theorem GU{L:Nat}{p:List Tm}{i:Nat}(h:i<p.length):pL L (p.take (i+1))=Nat.gcd (pL L (p.take i)) (p[i].1.num.natAbs*(L/p[i].1.den)):=by rw[Kah h,pL,KbX];rfl
theorem OR{L:Nat}{p:List Tm}(hL:L=ba p):∀i,i<=p.length->pL L (p.take i)=dN (p.take i)*(L/ba (p.take i))
 |0,_=>by simp[pL,dN]
 | i+1,h=>by
  have hi:i<p.length:=by omega
  have hd:=PK p (i:=i+1) (j:=p.length) h (Kac _);rw[Kar,<-hL]at hd;obtain⟨c,hc⟩:=hd;have jH:=NI (tK p i (by omega)) (KaY p[i].1.den_nz) (IG p[i].1);have iq:=(tK p (i+1) h).l0;have VT:=(tK p i (by omega)).l0;rw[GU hi,OR hL i (by omega),De hi,<-jH.2];rw[tq hi]at hc iq;rw[tq hi];have jI:=KaY p[i].1.den_nz;generalize ba (p.take i)=Li at *
  generalize p[i].1.den=d at *
  generalize dN (p.take i)=G at *
  generalize p[i].1.num.natAbs=n at *
  clear jH;obtain⟨g,hg⟩:∃g,g=Nat.gcd Li d:=⟨_,rfl⟩
  have im:0<g:=hg▸Nat.gcd_pos_of_pos_left d VT;obtain⟨a,ha⟩:g∣d:=hg▸KbW Li d;obtain⟨b,hb⟩:g∣Li:=hg▸KbI Li d;rw[<-hg]at hc iq⊢;have e1:d/g=a:=by rw[ha,Kbj _ im]
  have e2:Li/g=b:=by rw[hb,Kbj _ im]
  rw[e1]at hc iq⊢;rw[e2];have f1:L/Li=a*c:=by rw[hc,Kbi,Kbj _ VT]
  have f2:L/d=b*c:=by
   have:L=d*(b*c):=by rw[hc,hb,ha];simp only[Kbi,Kby,KaS]
   rw[this,Kbj _ jI]
  have f3:L/(Li*a)=c:=by rw[hc,Kbj _ iq]
  rw[f1,f2,f3,<-Nat.mul_assoc,<-Nat.mul_assoc,Nat.gcd_mul_right]
theorem NJ{p:List Tm}:pL (ba p) p=dN p:=by have h:=OR (p:=p) rfl p.length (Kac _);have h2:=(tK p p.length (Kac _)).l0;rw[Kar]at h h2;rw[h,Nat.div_self h2,KbF]
theorem vt{p:List Tm}(hz:NZ p)(h0:p≠[]):dN p≠0:=by
 have hd:∀(l:List Tm)(g:Nat),l.foldl (fun g t=>Nat.gcd g t.1.num.natAbs) g∣g/\∀t∈l,l.foldl (fun g t=>Nat.gcd g t.1.num.natAbs) g∣t.1.num.natAbs:=by
  intro l;induction l with
  |nil=>intro g;simp
  |cons t l ih=>
   intro g;obtain⟨h1,h2⟩:=ih (Nat.gcd g t.1.num.natAbs);refine⟨Kco h1 (KbI _ _),fun s hs=>?_⟩;rcases KaQ.1 hs with rfl|hs
   ·exact Kco h1 (KbW _ _)
   ·exact h2 s hs
 obtain⟨t,ht⟩:=List.exists_mem_of_ne_nil p h0;have h2:=(hd p 0).2 t ht;intro h;rw[show List.foldl (fun g t=>Nat.gcd g t.1.num.natAbs) 0 p=dN p from rfl,h]at h2;have h3:=Nat.eq_zero_of_zero_dvd h2;exact hz t ht (Rat.num_eq_zero.1 (Int.natAbs_eq_zero.1 h3))
theorem Eh(x y:Nat):nl (Nat.gcd x y)<=max (nl x) (nl y):=by
 rcases Kc1 x with h|h
 ·subst h;rw[Nat.gcd_zero_left];omega
 ·have:=fJ (Nat.gcd_le_left y h);omega
theorem xD{p:List Tm}{K E:Nat}(hp:PB K E p):∀i,i<=p.length->nl (dN (p.take i))<=K
 |0,_=>by simp[dN,xx]
 |i+1,h=>by rw[De (by omega)];have h1:=xD hp i (by omega);have h2:=Eh (dN (p.take i)) p[i].1.num.natAbs;have h3:=(hp _ (Kag (show i<p.length by omega))).c;unfold rs at h3;omega
theorem vn{p:List Tm}{K E:Nat}(hp:PB K E p):∀i,i<=p.length->nl (ba (p.take i))<=1+i*K
 |0,_=>by simp[ba,jP]
 |i+1,h=>by rw[tq (by omega),Nat.succ_mul];have h1:=vn hp i (by omega);have h2:=gL (ba (p.take i)) (p[i].1.den/Nat.gcd (ba (p.take i)) p[i].1.den);have h3:=(hp _ (Kag (show i<p.length by omega))).c;have h4:=vA p[i].1.den (Nat.gcd (ba (p.take i)) p[i].1.den);unfold rs at h3;omega
theorem OS{p:List Tm}{K E:Nat}(hp:PB K E p):∀i,i<=p.length->nl (pL (ba p) (p.take i))<=K+(1+p.length*K)
 |0,_=>by simp[pL,xx]
 |i+1,h=>by
  have hi:i<p.length:=by omega
  rw[GU hi];have h1:=OS hp i (by omega);have h2:=Eh (pL (ba p) (p.take i)) (p[i].1.num.natAbs*(ba p/p[i].1.den));have h3:=(hp _ (Kag hi)).c;have h4:=gL p[i].1.num.natAbs (ba p/p[i].1.den);have h5:=vA (ba p) p[i].1.den;have h6:=vn hp p.length (Kac _);rw[Kar]at h6;unfold rs at h3;omega
def dO(p:List Tm):Rat:=((if(p.headD (0,[])).1<0 then -(ba p:Int)else(ba p:Int):Int):Rat)/((dN p:Int):Rat)
theorem Ei(x y:Int)(hy:y≠0):rs ((x:Rat)/(y:Rat))<=max (nl x.natAbs) (max (nl y.natAbs) 1):=by
 rw[<-Tb x y hy];have:=Dy (zv (decide (x<0) !=decide (y<0)) (ah x.natAbs)) y.natAbs
 rwa[jN,Q7]at this
theorem PL{p:List Tm}{K E:Nat}(hp:PB K E p)(hz:NZ p)(h0:p≠[]):rs (dO p)<=1+p.length*K+K:=by
 have h1:=xD hp p.length (Kac _);have h2:=vn hp p.length (Kac _);rw[Kar]at h1 h2;have h3:=vt hz h0;unfold dO;refine Kaw (Ei _ _ (by omega)) ?_;rw[KaD];split
 ·rw[KcC,KaD];omega
 ·rw[KaD];omega
theorem SB{c:Rat}{L:Nat}(h:c.den∣L):(c*((L:Int):Rat)).num.natAbs=c.num.natAbs*(L/c.den):=by
 obtain⟨k,rfl⟩:=h;have jI:=c.den_nz;have e:c*(((c.den*k:Nat):Int):Rat)=((c.num*(k:Int):Int):Rat):=by
  have d1:c=(c.num:Rat)/((c.den:Int):Rat):=by
   conv=>lhs;rw[<-Rat.mkRat_self c]
   rw[Kb2,KaX]
  have k1:((c.den:Int):Rat)≠0:=by rw[Ne,Ka6];omega
  rw[Int.natCast_mul,Kbu,Kbu];generalize((c.den:Int):Rat)=D at *
  generalize(c.num:Rat)=N at *
  rw[d1];grind
 rw[e,Rat.num_intCast,Kcq,KaD,Kbj _ (KaY jI)]
end Go.FW
