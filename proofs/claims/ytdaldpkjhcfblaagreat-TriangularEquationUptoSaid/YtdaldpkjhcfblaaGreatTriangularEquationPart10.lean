/- Part 10 of the proof of TriangularEquation: W7, FwUF. Own lemmas; no conditions. -/
import Derived.Test.YtdaldpkjhcfblaaGreatTriangularEquationPart9
set_option maxHeartbeats 1000000
set_option linter.unusedSimpArgs false
set_option linter.unusedVariables false
set_option linter.unnecessarySimpa false
set_option maxRecDepth 100000
namespace Go.Proofs.YtdaldpkjhcfblaaGreat
open Go Go.FW
theorem Qaps{c:Rat}{L:Nat}(hL:0<L):PV.agg [.bool (decide (Qef c<0)),PV.num L]=PV.zz (if c<0 then -(L:Int)else(L:Int)):=by
 by_cases h:c<0
 ·rw[if_pos h,PV.zz,decide_eq_true (Qox.2 h),decide_eq_true (by omega),Int.natAbs_neg,Int.natAbs_natCast]
 ·rw[if_neg h,PV.zz,decide_eq_false (fun x=>h (Qox.1 x)),decide_eq_false (by omega),Int.natAbs_natCast]
theorem Qapt(L:Nat):PV.agg [.bool false,PV.num L]=PV.zz (L:Int):=by rw[PV.zz,decide_eq_false (by omega),Int.natAbs_natCast]
theorem Qakq{x y:Nat}(hx:nl x<2^40)(hy:nl y<2^40):Qd Tryz.prog 127 [PV.num x,PV.num y] (· =PV.num (x*y)):=by
 have:=Qma (Qq x) (Qq y) hx hy
 rwa[Q7,Q7]at this
theorem Qsa{p:List Tm}{K E:Nat}(hp:PB K E p)(np:Nrm p)(h0:p≠[])(hl:p.length<=2^20)(hK:p.length*K+(K+K)<=2^32)(hE:E<=2^38):
  Qd Tryz.prog 141 [PV.poly p] (· = .tup [PV.poly (Qcf p (Qk1 p)),PV.rat (Qk1 p)]):=by
 have h0l:0<p.length:=List.length_pos_iff.2 h0;have hpr:=Qakp hp np.z h0;have hge:=Q4g np.z h0;have hl0:=(Qagu p p.length (Nat.le_refl _)).l0;have hn1:=Qr2 hp p.length (Nat.le_refl _);have hn2:=Qr1 hp p.length (Nat.le_refl _);have hpk:K<=p.length*K:=Nat.le_mul_of_pos_left _ h0l;have hK1:1<=K:=by have:=(hp.get h0l).c;omega
 have hmk:=Qaad (x:=if(p[0]).1<0 then -(Qe4 p:Int)else(Qe4 p:Int)) (y:=(Qhs p:Int)) (by split<;>simp only[Int.natAbs_neg,Int.natAbs_natCast]<;>rw[List.take_length]at hn1<;>omega) (by rw[Int.natAbs_natCast];rw[List.take_length]at hn2;omega) (by omega);rw[<-Qaps (by rw[List.take_length]at hl0;exact hl0),<-Qapt]at hmk;have hfe:(((if(p[0]).1<0 then -(Qe4 p:Int)else(Qe4 p:Int):Int):Rat)/((Qhs p:Int):Rat))=Qk1 p:=by
  unfold Qk1;cases p with
  |nil=>cases h0 rfl
  |cons t p=>rfl
 rw[hfe]at hmk;have hc0:=(hp.get h0l).c;have hx0:p[0]=p[0]:=rfl;refine Qf Qj Tryz.func141 rfl Qajl (by simp[c141]) fun C hP=>?_;simp only[c141];refine Sz0 ?_;refine Qb (fun h=>absurd h (by omega)) (fun _=>?_);refine Sz0 ?_;refine Qa hP (Qn7 (n:=1) (by omega)) rfl rfl rfl ?_;refine Sz0 ?_;refine Qhn 4 1 Tz0 ?_;refine Qy (by repeat (first|exact Qu|exact Qn|exact Qo|exact Qk|exact Qp|apply Qm|apply Qt|apply Qw|apply Q5|apply Q6|apply Qi|apply Qz)) [(4,5),(7,11),(21,48)] [7] (fun n J hp=>∃i,n=p.length-i/\i<=p.length/\J 4=PV.num (Qhs (p.take i))/\J 5=PV.num (Qe4 (p.take i))/\J 21= .int .i64 (i:Nat)/\hp 3=some ⟨3,51,[.agg [.bool false,.nilS,.nilS]],false⟩) p.length ?_ ?_
 ·refine⟨0,rfl,by omega,?_⟩;refine Sz0 ?_;refine⟨?_,rfl,rfl⟩;simp[Qhs,Qa7]
 rintro _ J h ⟨i,rfl,hi,h4,h5,h21,hh3⟩;refine Sz3 h4 h5 h21 ?_;refine Qb (fun hg=>?_) (fun hg=>?_)
 ·have hi':i<p.length:=by omega
  have htp:=(hp.get hi').c;have hg1:=Qr1 hp i hi;have hg2:=Qr2 hp i hi;have hik:i*K<=p.length*K:=Nat.mul_le_mul_right _ hi;have hs1:=Qrd hi';have hs2:=Qre hi';unfold rs at htp;generalize hx:p[i]=x at *
  have hd0:=x.1.den_nz;have hgd:Nat.gcd (Qe4 (p.take i)) x.1.den≠0:=fun h=>hd0 (Nat.eq_zero_of_gcd_eq_zero_right h);have hgn:=Qaaf (Qe4 (p.take i)) x.1.den;have hqd:=Quy x.1.den (Nat.gcd (Qe4 (p.take i)) x.1.den);generalize Qhs (p.take i)=G at *
  generalize Qe4 (p.take i)=L at *
  refine Sz4 h4 h5 h21 hx ?_;refine Qa hP (Qw5 (x:=G) (y:=x.1.num.natAbs) (by show nl _<_;omega) (by show nl _<_;omega)) rfl rfl rfl ?_;refine Sz4 h4 h5 h21 hx ?_;refine Qa hP (Qw5 (x:=L) (y:=x.1.den) (by show nl _<_;omega) (by show nl _<_;omega)) rfl rfl rfl ?_;refine Sz4 h4 h5 h21 hx ?_;refine Qa hP (Qpc (x:=x.1.den) (y:=Nat.gcd L x.1.den) (by show nl _<_;omega) (by show nl _<_;omega) hgd) rfl rfl rfl ?_;refine Sz4 h4 h5 h21 hx ?_;refine Qa hP (Qakq (x:=L) (y:=x.1.den/Nat.gcd L x.1.den) (by omega) (by omega)) rfl rfl rfl ?_;refine Sz5 h4 h5 h21 hx hh3 ?_;refine Qh (p.length-(i+1)) (by omega) ⟨i+1,rfl,by omega,?_⟩;rw[hs1,hs2];exact Tz1 hh3
 ·obtain rfl:i=p.length:=by omega
  rw[List.take_length]at h4 h5 hn1 hn2;generalize hx:p[0]=x at *
  have hlL:=hl0;refine Sz3 h4 h5 hx ?_;refine Qa hP (Qqw (a:=x.1) (by omega)) rfl rfl rfl ?_;refine Sz3 h4 h5 hx ?_;refine Qa hP hmk rfl rfl rfl ?_;generalize Qk1 p=a at *
  refine Sz3 h4 h5 hx ?_;refine Qa hP (Qmc (K:=2+p.length*K+K) (hp.mono (by omega) (Nat.le_refl _)) (by omega) (by omega) hE (by omega)) rfl rfl rfl ?_;refine Sz1 hh3 ?_;refine Qhk ?_;refine Sz0 ?_;exact Qf9 rfl rfl rfl (Q2 _) (Q2 _)
end Go.Proofs.YtdaldpkjhcfblaaGreat
namespace Go.FW
open Go
def hdT(p:List Tm):Tm:=p.headD (0,[])
theorem Qakr{p:List Tm}(h:0<p.length):p[0]=hdT p:=by cases p with
 |nil=>simp at h
 |cons t p=>rfl
theorem Q4h{p:List Tm}(h:p≠[]):hdT p∈p:=by cases p with
 |nil=>exact absurd rfl h
 |cons t p=>simp[hdT]
theorem Q6u{p:List Tm}(hs:Qbc p):∀t∈p,t=hdT p∨Qak t.2 (hdT p).2<0:=by
 cases p with
 |nil=>intro t ht;cases ht
 | cons x p=>
  intro t ht;rcases List.mem_cons.1 ht with rfl|ht
  ·exact .inl rfl
  ·right;have:=hs.1 t ht;have e:=Qia x.2 t.2;show Qak t.2 x.2<0;omega
end Go.FW
