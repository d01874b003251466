/- Part 9 of the proof of TriangularZeros: W6, FwUE. Own lemmas; no conditions. -/
import Derived.Test.YtdjoomkeehihmaaGreatTriangularZerosPart8
set_option maxHeartbeats 1000000
set_option linter.unusedSimpArgs false
set_option linter.unusedVariables false
set_option linter.unnecessarySimpa false
set_option maxRecDepth 100000
namespace Go.Proofs.YtdjoomkeehihmaaGreat
open Go Go.FW
theorem acv{x y:Int}(hx:nl x.natAbs<2^38)(hy:nl y.natAbs<2^38)(h0:y≠0):Qc Tryz.prog 161 [PV.zz x,PV.zz y] (· = .au [PV.rat ((x:Rat)/(y:Rat)),.int .i64 0]):=by
 have hv:=Uy x y h0;have hr:=SM (n:=decide (x<0) !=decide (y<0)) (a:=ah x.natAbs) (d:=ah y.natAbs) (Qp _) (Qp _) hx hy;rw[rv,Q7,hv]at hr;have hs:=CY (n:=decide (y<0)) (a:=ah y.natAbs) (Qp _) (by show nl _<_;omega);rw[lU]at hs;generalize(x:Rat)/(y:Rat)=Q at *
 refine Qf Qo Tryz.func161 rfl agP (by simp[Kj]) fun C hP=>?_;simp only[Kj,Zo,Zg,Zm,Zc,Zf,Zl,Zh,Zs,Zi,Zb,Zk,Zn,Zu,Zq,Zr,Zz];refine Sz0 ?_;refine Qa hP hs rfl rfl rfl ?_;refine Sz0 ?_;refine Qb (fun h=>absurd (DN.1 h) h0) (fun _=>?_);refine Sz0 ?_;refine Qa hP hr rfl rfl rfl ?_;refine Sz0 ?_;refine iS ?_;refine Sz0 ?_;exact eV rfl rfl rfl (Qy _) (Qy _)
theorem acw{x:Int}(hx:nl x.natAbs<2^40):Qc Tryz.prog 166 [PV.zz x] (· =PV.zz (-x)):=by
 have hs:=th (n:= !decide (x<0)) (a:=ah x.natAbs) (Qp _) (by show nl _<_;omega);have e:zv (!decide (x<0)) (ah x.natAbs)= -x:=by rw[r9];by_cases h:x<0<;>simp[h]<;>omega
 rw[e]at hs;refine Qf Qo Tryz.func166 rfl ahu (by simp[Ko]) fun C hP=>?_;simp only[Ko,Zo,Zg,Zm,Zc,Zf,Zl,Zh,Zs,Zi,Zb,Zk,Zn,Zu,Zq,Zr,Zz];refine Sz0 ?_;refine Qa hP hs rfl rfl rfl ?_;refine Sz0 ?_;refine dC ?_;refine Sz0 ?_;exact Qd rfl rfl
theorem Q9g{x y:Int}(hx:nl x.natAbs<2^35)(hy:nl y.natAbs<2^35)(h0:y≠0):Qc Tryz.prog 130 [PV.zz x,PV.zz y] (· = .au [PV.rat ((x:Rat)/(y:Rat)),.int .i64 0]):=by
 have h3:(y:Rat)≠0:=by rw[Ne,Ka6];exact h0
 have FG:nl (-x).natAbs<2^35:=by rw[KcD];exact hx
 have o1:=zK (z:=x) (D:=y.natAbs) (by omega) (by omega);have o2:=zK (z:= -x) (D:=y.natAbs) (by omega) (by omega);have e1:¬y<0->mkRat x y.natAbs=(x:Rat)/(y:Rat):=fun h=>by rw[Kb2,<-Rat.intCast_natCast];congr 2;omega
 have e2:y<0->mkRat (-x) y.natAbs=(x:Rat)/(y:Rat):=fun h=>by
  have e:(((y.natAbs:Nat):Int):Rat)= -(y:Rat):=by rw[<-Rat.intCast_neg];congr 1;omega
  rw[Kb2,<-Rat.intCast_natCast,e,Kc5];grind
 refine Qf Qo Tryz.func130 rfl agX (by simp[JK]) fun C hP=>?_;simp only[JK,Zo,Zg,Zm,Zc,Zf,Zl,Zh,Zs,Zi,Zb,Zk,Zn,Zu,Zq,Zr,Zz];refine Sz0 ?_;refine Qa hP (Hh (by omega)) rfl rfl rfl ?_;refine Sz0 ?_;refine Qb (fun h=>absurd (DN.1 h) h0) (fun _=>?_);refine Sz0 ?_;refine Qb (fun hn=>?_) (fun hn=>?_)
 ·rw[e2 hn]at o2;generalize(x:Rat)/(y:Rat)=Q at *
  refine Sz0 ?_;refine Qa hP (acw (x:=x) (by omega)) rfl rfl rfl ?_;refine Sz0 ?_;refine Qa hP o2 rfl rfl rfl ?_;refine Sz0 ?_;refine iS ?_;refine Sz0 ?_;exact eV rfl rfl rfl (Qy _) (Qy _)
 ·rw[e1 hn]at o1;generalize(x:Rat)/(y:Rat)=Q at *
  refine Sz0 ?_;refine Qa hP o1 rfl rfl rfl ?_;refine Sz0 ?_;refine iS ?_;refine Sz0 ?_;exact eV rfl rfl rfl (Qy _) (Qy _)
end Go.Proofs.YtdjoomkeehihmaaGreat
namespace Go.FW
open Go
def dS(p:List Tm):Nat:=p.foldl (fun g t=>Nat.gcd g t.1.num.natAbs) 0
def bb(p:List Tm):Nat:=p.foldl (fun l t=>l*(t.1.den/Nat.gcd l t.1.den)) 1
theorem Dx{p:List Tm}{i:Nat}(h:i<p.length):dS (p.take (i+1))=Nat.gcd (dS (p.take i)) p[i].1.num.natAbs:=by rw[Kah h,dS,KbW];rfl
theorem tz{p:List Tm}{i:Nat}(h:i<p.length):bb (p.take (i+1))=bb (p.take i)*(p[i].1.den/Nat.gcd (bb (p.take i)) p[i].1.den):=by rw[Kah h,bb,KbW];rfl
structure Gc(G L:Nat):Prop where
 l0:0<L
 cop:Nat.Coprime G L
theorem Ow{G L n d:Nat}(h:Gc G L)(hd:0<d)(hc:Nat.Coprime n d):
  Gc (Nat.gcd G n) (L*(d/Nat.gcd L d))/\Nat.gcd (G*(d/Nat.gcd L d)) (n*(L/Nat.gcd L d))=Nat.gcd G n:=by
 obtain⟨g,hg⟩:∃g,g=Nat.gcd L d:=⟨_,rfl⟩
 have iw:0<g:=hg▸Nat.gcd_pos_of_pos_left d h.l0;obtain⟨a,ha⟩:g∣d:=hg▸KbV L d;obtain⟨b,hb⟩:g∣L:=hg▸KbJ L d;have sD:Nat.Coprime a b:=by
  have e:Nat.gcd L d=g*Nat.gcd b a:=by conv=>lhs;rw[hb,ha,Nat.gcd_mul_left]
  rw[<-hg]at e;have:Nat.gcd b a=1:=by apply Nat.eq_of_mul_eq_mul_left iw;rw[KbF];exact e.symm
  rw[Nat.Coprime,Kcx];exact this
 have e1:d/Nat.gcd L d=a:=by rw[<-hg,ha,Kbi _ iw]
 have e2:L/Nat.gcd L d=b:=by rw[<-hg,hb,Kbi _ iw]
 have Wh:=h.cop;rw[e1,e2];have yJ:0<a:=Nat.pos_of_mul_pos_left (ha▸hd:0<g*a);have Vx:Nat.Coprime n a:=Nat.Coprime.coprime_dvd_right ⟨g,by rw[ha,KaU]⟩ hc;have cGb:Nat.Coprime G b:=Nat.Coprime.coprime_dvd_right ⟨g,by rw[hb,KaU]⟩ Wh;refine⟨⟨Kce h.l0 yJ,?_⟩,?_⟩
 ·refine Nat.Coprime.mul_right ?_ ?_
  ·exact Nat.Coprime.coprime_dvd_left (KbJ G n) Wh
  ·exact Nat.Coprime.coprime_dvd_left (KbV G n) Vx
 ·have c1:Nat.Coprime a (n*b):=Nat.Coprime.mul_right Vx.symm sD;rw[KaU G a,Nat.Coprime.gcd_mul_left_cancel _ c1,KaU n b,Nat.Coprime.gcd_mul_left_cancel_right _ cGb.symm]
theorem IB(q:Rat):Nat.Coprime q.num.natAbs q.den:=q.reduced
theorem tP(p:List Tm):∀i,i<=p.length->Gc (dS (p.take i)) (bb (p.take i))
 |0,_=>⟨by simp[bb],by simp[dS,bb,Nat.Coprime]⟩
 |i+1,h=>by rw[Dx (by omega),tz (by omega)];exact(Ow (tP p i (by omega)) (KaY p[i].1.den_nz) (IB _)).1
theorem Pg(p:List Tm){i:Nat}(h:i<p.length):bb (p.take i)∣bb (p.take (i+1))/\p[i].1.den∣bb (p.take (i+1)):=by
 rw[tz h];refine⟨Nat.dvd_mul_right _ _,?_⟩;generalize bb (p.take i)=L;generalize p[i].1.den=d;obtain⟨a,ha⟩:Nat.gcd L d∣d:=KbV L d;obtain⟨b,hb⟩:Nat.gcd L d∣L:=KbJ L d;generalize hg:Nat.gcd L d=g at *
 rcases Kc3 g with h0|h0
 ·rw[h0,KbI]at ha;subst ha;rw[h0]at hb;simp at hb;subst hb;simp
 ·have e1:d/g=a:=by rw[ha,Kbi _ h0]
  rw[e1];exact⟨b,by rw[ha,hb,Nat.mul_right_comm]⟩
theorem Re(p:List Tm):∀ {i j:Nat},i<=j->j<=p.length->bb (p.take i)∣bb (p.take j):=by
 intro i j h hj;obtain⟨k,rfl⟩:∃k,j=i+k:=⟨j-i,by omega⟩
 clear h;induction k with
 |zero=>exact Nat.dvd_refl _
 |succ k ih=>exact Kco (ih (by omega)) (Pg p (i:=i+k) (by omega)).1
theorem Ip(p:List Tm){i:Nat}(h:i<p.length):p[i].1.den∣bb p:=by have h1:=(Pg p h).2;have h2:=Re p (i:=i+1) (j:=p.length) (by omega) (Kac _);rw[Kar]at h2;exact Kco h1 h2
def pO(L:Nat)(p:List Tm):Nat:=p.foldl (fun g t=>Nat.gcd g (t.1.num.natAbs*(L/t.1.den))) 0
theorem Hj{L:Nat}{p:List Tm}{i:Nat}(h:i<p.length):pO L (p.take (i+1))=Nat.gcd (pO L (p.take i)) (p[i].1.num.natAbs*(L/p[i].1.den)):=by rw[Kah h,pO,KbW];rfl
theorem Ph{L:Nat}{p:List Tm}(hL:L=bb p):∀i,i<=p.length->pO L (p.take i)=dS (p.take i)*(L/bb (p.take i))
 |0,_=>by simp[pO,dS]
 | i+1,h=>by
  have hi:i<p.length:=by omega
  have hd:=Re p (i:=i+1) (j:=p.length) h (Kac _);rw[Kar,<-hL]at hd;obtain⟨c,hc⟩:=hd;have jK:=Ow (tP p i (by omega)) (KaY p[i].1.den_nz) (IB p[i].1);have ix:=(tP p (i+1) h).l0;have WK:=(tP p i (by omega)).l0;rw[Hj hi,Ph hL i (by omega),Dx hi,<-jK.2];rw[tz hi]at hc ix;rw[tz hi];have jL:=KaY p[i].1.den_nz;generalize bb (p.take i)=Li at *
  generalize p[i].1.den=d at *
  generalize dS (p.take i)=G at *
  generalize p[i].1.num.natAbs=n at *
  clear jK;obtain⟨g,hg⟩:∃g,g=Nat.gcd Li d:=⟨_,rfl⟩
  have iw:0<g:=hg▸Nat.gcd_pos_of_pos_left d WK;obtain⟨a,ha⟩:g∣d:=hg▸KbV Li d;obtain⟨b,hb⟩:g∣Li:=hg▸KbJ Li d;rw[<-hg]at hc ix⊢;have e1:d/g=a:=by rw[ha,Kbi _ iw]
  have e2:Li/g=b:=by rw[hb,Kbi _ iw]
  rw[e1]at hc ix⊢;rw[e2];have f1:L/Li=a*c:=by rw[hc,Kbh,Kbi _ WK]
  have f2:L/d=b*c:=by
   have:L=d*(b*c):=by rw[hc,hb,ha];simp only[Kbh,Kbz,KaU]
   rw[this,Kbi _ jL]
  have f3:L/(Li*a)=c:=by rw[hc,Kbi _ ix]
  rw[f1,f2,f3,<-Nat.mul_assoc,<-Nat.mul_assoc,Nat.gcd_mul_right]
theorem Ox{p:List Tm}:pO (bb p) p=dS p:=by have h:=Ph (p:=p) rfl p.length (Kac _);have h2:=(tP p p.length (Kac _)).l0;rw[Kar]at h h2;rw[h,Nat.div_self h2,KbF]
theorem vz{p:List Tm}(hz:NZ p)(h0:p≠[]):dS p≠0:=by
 have hd:∀(l:List Tm)(g:Nat),l.foldl (fun g t=>Nat.gcd g t.1.num.natAbs) g∣g/\∀t∈l,l.foldl (fun g t=>Nat.gcd g t.1.num.natAbs) g∣t.1.num.natAbs:=by
  intro l;induction l with
  |nil=>intro g;simp
  |cons t l ih=>
   intro g;obtain⟨h1,h2⟩:=ih (Nat.gcd g t.1.num.natAbs);refine⟨Kco h1 (KbJ _ _),fun s hs=>?_⟩;rcases KaP.1 hs with rfl|hs
   ·exact Kco h1 (KbV _ _)
   ·exact h2 s hs
 obtain⟨t,ht⟩:=List.exists_mem_of_ne_nil p h0;have h2:=(hd p 0).2 t ht;intro h;rw[show List.foldl (fun g t=>Nat.gcd g t.1.num.natAbs) 0 p=dS p from rfl,h]at h2;have h3:=Nat.eq_zero_of_zero_dvd h2;exact hz t ht (Rat.num_eq_zero.1 (Int.natAbs_eq_zero.1 h3))
theorem EE(x y:Nat):nl (Nat.gcd x y)<=max (nl x) (nl y):=by
 rcases Kc3 x with h|h
 ·subst h;rw[Nat.gcd_zero_left];omega
 ·have:=fS (Nat.gcd_le_left y h);omega
theorem xN{p:List Tm}{K E:Nat}(hp:PB K E p):∀i,i<=p.length->nl (dS (p.take i))<=K
 |0,_=>by simp[dS,xQ]
 |i+1,h=>by rw[Dx (by omega)];have h1:=xN hp i (by omega);have h2:=EE (dS (p.take i)) p[i].1.num.natAbs;have h3:=(hp _ (Kag (show i<p.length by omega))).c;unfold rs at h3;omega
theorem vv{p:List Tm}{K E:Nat}(hp:PB K E p):∀i,i<=p.length->nl (bb (p.take i))<=1+i*K
 |0,_=>by simp[bb,jV]
 |i+1,h=>by rw[tz (by omega),Nat.succ_mul];have h1:=vv hp i (by omega);have h2:=gV (bb (p.take i)) (p[i].1.den/Nat.gcd (bb (p.take i)) p[i].1.den);have h3:=(hp _ (Kag (show i<p.length by omega))).c;have h4:=vE p[i].1.den (Nat.gcd (bb (p.take i)) p[i].1.den);unfold rs at h3;omega
theorem Pj{p:List Tm}{K E:Nat}(hp:PB K E p):∀i,i<=p.length->nl (pO (bb p) (p.take i))<=K+(1+p.length*K)
 |0,_=>by simp[pO,xQ]
 |i+1,h=>by
  have hi:i<p.length:=by omega
  rw[Hj hi];have h1:=Pj hp i (by omega);have h2:=EE (pO (bb p) (p.take i)) (p[i].1.num.natAbs*(bb p/p[i].1.den));have h3:=(hp _ (Kag hi)).c;have h4:=gV p[i].1.num.natAbs (bb p/p[i].1.den);have h5:=vE (bb p) p[i].1.den;have h6:=vv hp p.length (Kac _);rw[Kar]at h6;unfold rs at h3;omega
def dP(p:List Tm):Rat:=((if(p.headD (0,[])).1<0 then -(bb p:Int)else(bb p:Int):Int):Rat)/((dS p:Int):Rat)
theorem EF(x y:Int)(hy:y≠0):rs ((x:Rat)/(y:Rat))<=max (nl x.natAbs) (max (nl y.natAbs) 1):=by
 rw[<-Uy x y hy];have:=DM (zv (decide (x<0) !=decide (y<0)) (ah x.natAbs)) y.natAbs
 rwa[jS,Q7]at this
theorem Rf{p:List Tm}{K E:Nat}(hp:PB K E p)(hz:NZ p)(h0:p≠[]):rs (dP p)<=1+p.length*K+K:=by
 have h1:=xN hp p.length (Kac _);have h2:=vv hp p.length (Kac _);rw[Kar]at h1 h2;have h3:=vz hz h0;unfold dP;refine Kaw (EF _ _ (by omega)) ?_;rw[KaD];split
 ·rw[KcD,KaD];omega
 ·rw[KaD];omega
theorem TC{c:Rat}{L:Nat}(h:c.den∣L):(c*((L:Int):Rat)).num.natAbs=c.num.natAbs*(L/c.den):=by
 obtain⟨k,rfl⟩:=h;have jL:=c.den_nz;have e:c*(((c.den*k:Nat):Int):Rat)=((c.num*(k:Int):Int):Rat):=by
  have d1:c=(c.num:Rat)/((c.den:Int):Rat):=by
   conv=>lhs;rw[<-Rat.mkRat_self c]
   rw[Kb2,KaX]
  have k1:((c.den:Int):Rat)≠0:=by rw[Ne,Ka6];omega
  rw[Int.natCast_mul,Kbv,Kbv];generalize((c.den:Int):Rat)=D at *
  generalize(c.num:Rat)=N at *
  rw[d1];grind
 rw[e,Rat.num_intCast,Kcq,KaD,Kbi _ (KaY jL)]
end Go.FW
