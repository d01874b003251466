/- Part 9 of the proof of TriangularEquation: W6, FwUE. Own lemmas; no conditions. -/
import Derived.Test.YtdaldpkjhcfblaaGreatTriangularEquationPart8
set_option maxHeartbeats 1000000
set_option linter.unusedSimpArgs false
set_option linter.unusedVariables false
set_option linter.unnecessarySimpa false
set_option maxRecDepth 100000
namespace Go.Proofs.YtdaldpkjhcfblaaGreat
open Go Go.FW
theorem Qaad{x y:Int}(hx:nl x.natAbs<2^38)(hy:nl y.natAbs<2^38)(h0:y≠0):Qd Tryz.prog 160 [PV.zz x,PV.zz y] (· = .tup [PV.rat ((x:Rat)/(y:Rat)),.int .i64 0]):=by
 have hv:=Qvt x y h0;have hr:=Qqv (n:=decide (x<0) !=decide (y<0)) (a:=dig x.natAbs) (d:=dig y.natAbs) (Qq _) (Qq _) hx hy;rw[rv,Q7,hv]at hr;have hs:=Qj2 (n:=decide (y<0)) (a:=dig y.natAbs) (Qq _) (by show nl _<_;omega);rw[Qga]at hs;generalize(x:Rat)/(y:Rat)=Q at *
 refine Qf Qj Tryz.func160 rfl Qajb (by simp[c160]) fun C hP=>?_;simp only[c160];refine Sz0 ?_;refine Qa hP hs rfl rfl rfl ?_;refine Sz0 ?_;refine Qb (fun h=>absurd (Q0u.1 h) h0) (fun _=>?_);refine Sz0 ?_;refine Qa hP hr rfl rfl rfl ?_;refine Sz0 ?_;refine Qhk ?_;refine Sz0 ?_;exact Qf9 rfl rfl rfl (Q2 _) (Q2 _)
end Go.Proofs.YtdaldpkjhcfblaaGreat
namespace Go.FW
open Go
def Qhs(p:List Tm):Nat:=p.foldl (fun g t=>Nat.gcd g t.1.num.natAbs) 0
def Qe4(p:List Tm):Nat:=p.foldl (fun l t=>l*(t.1.den/Nat.gcd l t.1.den)) 1
theorem Qrd{p:List Tm}{i:Nat}(h:i<p.length):Qhs (p.take (i+1))=Nat.gcd (Qhs (p.take i)) p[i].1.num.natAbs:=by rw[List.take_succ_eq_append_getElem h,Qhs,List.foldl_append];rfl
theorem Qre{p:List Tm}{i:Nat}(h:i<p.length):Qe4 (p.take (i+1))=Qe4 (p.take i)*(p[i].1.den/Nat.gcd (Qe4 (p.take i)) p[i].1.den):=by rw[List.take_succ_eq_append_getElem h,Qe4,List.foldl_append];rfl
structure Cont(G L:Nat):Prop where
 l0:0<L
 cop:Nat.Coprime G L
theorem Qaae{G L n d:Nat}(h:Cont G L)(hd:0<d)(hc:Nat.Coprime n d):
  Cont (Nat.gcd G n) (L*(d/Nat.gcd L d))/\Nat.gcd (G*(d/Nat.gcd L d)) (n*(L/Nat.gcd L d))=Nat.gcd G n:=by
 obtain⟨g,hg⟩:∃g,g=Nat.gcd L d:=⟨_,rfl⟩
 have hg0:0<g:=hg▸Nat.gcd_pos_of_pos_left d h.l0;obtain⟨a,ha⟩:g∣d:=hg▸Nat.gcd_dvd_right L d;obtain⟨b,hb⟩:g∣L:=hg▸Nat.gcd_dvd_left L d;have hab:Nat.Coprime a b:=by
  have e:Nat.gcd L d=g*Nat.gcd b a:=by conv=>lhs;rw[hb,ha,Nat.gcd_mul_left]
  rw[<-hg]at e;have:Nat.gcd b a=1:=by apply Nat.eq_of_mul_eq_mul_left hg0;rw[Nat.mul_one];exact e.symm
  rw[Nat.Coprime,Nat.gcd_comm];exact this
 have e1:d/Nat.gcd L d=a:=by rw[<-hg,ha,Nat.mul_div_cancel_left _ hg0]
 have e2:L/Nat.gcd L d=b:=by rw[<-hg,hb,Nat.mul_div_cancel_left _ hg0]
 have hcop:=h.cop;rw[e1,e2];have ha0:0<a:=Nat.pos_of_mul_pos_left (ha▸hd:0<g*a);have cna:Nat.Coprime n a:=Nat.Coprime.coprime_dvd_right ⟨g,by rw[ha,Nat.mul_comm]⟩ hc;have cGb:Nat.Coprime G b:=Nat.Coprime.coprime_dvd_right ⟨g,by rw[hb,Nat.mul_comm]⟩ hcop;refine⟨⟨Nat.mul_pos h.l0 ha0,?_⟩,?_⟩
 ·refine Nat.Coprime.mul_right ?_ ?_
  ·exact Nat.Coprime.coprime_dvd_left (Nat.gcd_dvd_left G n) hcop
  ·exact Nat.Coprime.coprime_dvd_left (Nat.gcd_dvd_right G n) cna
 ·have c1:Nat.Coprime a (n*b):=Nat.Coprime.mul_right cna.symm hab;rw[Nat.mul_comm G a,Nat.Coprime.gcd_mul_left_cancel _ c1,Nat.mul_comm n b,Nat.Coprime.gcd_mul_left_cancel_right _ cGb.symm]
theorem Qako(q:Rat):Nat.Coprime q.num.natAbs q.den:=q.reduced
theorem Qagu(p:List Tm):∀i,i<=p.length->Cont (Qhs (p.take i)) (Qe4 (p.take i))
 |0,_=>⟨by simp[Qe4],by simp[Qhs,Qe4,Nat.Coprime]⟩
 |i+1,h=>by rw[Qrd (by omega),Qre (by omega)];exact(Qaae (Qagu p i (by omega)) (Nat.pos_of_ne_zero p[i].1.den_nz) (Qako _)).1
theorem Q4g{p:List Tm}(hz:NZ p)(h0:p≠[]):Qhs p≠0:=by
 have hd:∀(l:List Tm)(g:Nat),l.foldl (fun g t=>Nat.gcd g t.1.num.natAbs) g∣g/\∀t∈l,l.foldl (fun g t=>Nat.gcd g t.1.num.natAbs) g∣t.1.num.natAbs:=by
  intro l;induction l with
  |nil=>intro g;simp
  |cons t l ih=>
   intro g;obtain⟨h1,h2⟩:=ih (Nat.gcd g t.1.num.natAbs);refine⟨Nat.dvd_trans h1 (Nat.gcd_dvd_left _ _),fun s hs=>?_⟩;rcases List.mem_cons.1 hs with rfl|hs
   ·exact Nat.dvd_trans h1 (Nat.gcd_dvd_right _ _)
   ·exact h2 s hs
 obtain⟨t,ht⟩:=List.exists_mem_of_ne_nil p h0;have h2:=(hd p 0).2 t ht;intro h;rw[show List.foldl (fun g t=>Nat.gcd g t.1.num.natAbs) 0 p=Qhs p from rfl,h]at h2;have h3:=Nat.eq_zero_of_zero_dvd h2;exact hz t ht (Rat.num_eq_zero.1 (Int.natAbs_eq_zero.1 h3))
theorem Qaaf(x y:Nat):nl (Nat.gcd x y)<=max (nl x) (nl y):=by
 rcases Nat.eq_zero_or_pos x with h|h
 ·subst h;rw[Nat.gcd_zero_left];omega
 ·have:=Qbm (Nat.gcd_le_left y h);omega
theorem Qr1{p:List Tm}{K E:Nat}(hp:PB K E p):∀i,i<=p.length->nl (Qhs (p.take i))<=K
 |0,_=>by simp[Qhs,Qnv]
 |i+1,h=>by rw[Qrd (by omega)];have h1:=Qr1 hp i (by omega);have h2:=Qaaf (Qhs (p.take i)) p[i].1.num.natAbs;have h3:=(hp _ (List.getElem_mem (show i<p.length by omega))).c;unfold rs at h3;omega
theorem Qr2{p:List Tm}{K E:Nat}(hp:PB K E p):∀i,i<=p.length->nl (Qe4 (p.take i))<=1+i*K
 |0,_=>by simp[Qe4,Qex]
 |i+1,h=>by rw[Qre (by omega),Nat.succ_mul];have h1:=Qr2 hp i (by omega);have h2:=Qdl (Qe4 (p.take i)) (p[i].1.den/Nat.gcd (Qe4 (p.take i)) p[i].1.den);have h3:=(hp _ (List.getElem_mem (show i<p.length by omega))).c;have h4:=Quy p[i].1.den (Nat.gcd (Qe4 (p.take i)) p[i].1.den);unfold rs at h3;omega
def Qk1(p:List Tm):Rat:=((if(p.headD (0,[])).1<0 then -(Qe4 p:Int)else(Qe4 p:Int):Int):Rat)/((Qhs p:Int):Rat)
theorem Q1y(x y:Int)(hy:y≠0):rs ((x:Rat)/(y:Rat))<=max (nl x.natAbs) (max (nl y.natAbs) 1):=by
 rw[<-Qvt x y hy];have:=Qow (zv (decide (x<0) !=decide (y<0)) (dig x.natAbs)) y.natAbs
 rwa[Qb1,Q7]at this
theorem Qakp{p:List Tm}{K E:Nat}(hp:PB K E p)(hz:NZ p)(h0:p≠[]):rs (Qk1 p)<=1+p.length*K+K:=by
 have h1:=Qr1 hp p.length (Nat.le_refl _);have h2:=Qr2 hp p.length (Nat.le_refl _);rw[List.take_length]at h1 h2;have h3:=Q4g hz h0;unfold Qk1;refine Nat.le_trans (Q1y _ _ (by omega)) ?_;rw[Int.natAbs_natCast];split
 ·rw[Int.natAbs_neg,Int.natAbs_natCast];omega
 ·rw[Int.natAbs_natCast];omega
end Go.FW
