/- Part 10 of the proof of TriangularChains: W7, FwUF. Own lemmas; no conditions. -/
import Derived.Test.YtdaldpkjhcfblaaGreatTriangularChainsPart9
set_option maxHeartbeats 1000000
set_option linter.unusedSimpArgs false
set_option linter.unusedVariables false
set_option linter.unnecessarySimpa false
set_option maxRecDepth 100000
namespace Go.Proofs.YtdaldpkjhcfblaaGreat
open Go Go.FW
theorem Qamv{c:Rat}{L:Nat}(hL:0<L):PV.agg [.bool (decide (Qdv c<0)),PV.num L]=PV.zz (if c<0 then -(L:Int)else(L:Int)):=by
 by_cases h:c<0
 ·rw[if_pos h,PV.zz,decide_eq_true (Qm9.2 h),decide_eq_true (by omega),Int.natAbs_neg,Int.natAbs_natCast]
 ·rw[if_neg h,PV.zz,decide_eq_false (fun x=>h (Qm9.1 x)),decide_eq_false (by omega),Int.natAbs_natCast]
theorem Qamw(L:Nat):PV.agg [.bool false,PV.num L]=PV.zz (L:Int):=by rw[PV.zz,decide_eq_false (by omega),Int.natAbs_natCast]
theorem Qahy{x y:Nat}(hx:nl x<2^40)(hy:nl y<2^40):Qd Tryz.prog 127 [PV.num x,PV.num y] (· =PV.num (x*y)):=by
 have:=Qky (Ql x) (Ql y) hx hy
 rwa[Qy,Qy]at this
theorem Qp2{p:List Tm}{K E:Nat}(hp:PB K E p)(np:Nrm p)(h0:p≠[])(hl:p.length<=2^20)(hK:p.length*K+(K+K)<=2^32)(hE:E<=2^38):
  Qd Tryz.prog 141 [PV.poly p] (· = .tup [PV.poly (Qcg p (Qjs p)),PV.rat (Qjs p)]):=by
 have h0l:0<p.length:=List.length_pos_iff.2 h0;have hpr:=Qahx hp np.z h0;have hge:=Q1g np.z h0;have hl0:=(Qad0 p p.length (Nat.le_refl _)).l0;have hn1:=Qpz hp p.length (Nat.le_refl _);have hn2:=Qpy hp p.length (Nat.le_refl _);have hpk:K<=p.length*K:=Nat.le_mul_of_pos_left _ h0l;have hK1:1<=K:=by have:=(hp.get h0l).c;omega
 have hmk:=Q7l (x:=if(p[0]).1<0 then -(Qeg p:Int)else(Qeg p:Int)) (y:=(Qgp p:Int)) (by split<;>simp only[Int.natAbs_neg,Int.natAbs_natCast]<;>rw[List.take_length]at hn1<;>omega) (by rw[Int.natAbs_natCast];rw[List.take_length]at hn2;omega) (by omega);rw[<-Qamv (by rw[List.take_length]at hl0;exact hl0),<-Qamw]at hmk;have hfe:(((if(p[0]).1<0 then -(Qeg p:Int)else(Qeg p:Int):Int):Rat)/((Qgp p:Int):Rat))=Qjs p:=by
  unfold Qjs;cases p with
  |nil=>cases h0 rfl
  |cons t p=>rfl
 rw[hfe]at hmk;have hc0:=(hp.get h0l).c;have hx0:p[0]=p[0]:=rfl;refine Qf Qi Tryz.func141 rfl Qagr (by simp[c141]) fun C hP=>?_;simp only[c141];refine Sz0 ?_;refine Qb (fun h=>absurd h (by omega)) (fun _=>?_);refine Sz0 ?_;refine Qa hP (Qmk (n:=1) (by omega)) rfl rfl rfl ?_;refine Sz0 ?_;refine Qhc 4 1 Tz0 ?_;refine Qw (by repeat (first|exact Qv|exact Qp|exact Qq|exact Qr|exact Qs|apply Qo|apply Qu|apply Qx|apply Q2|apply Q3|apply Qk|apply Qz)) [(4,5),(7,11),(21,48)] [7] (fun n J hp=>∃i,n=p.length-i/\i<=p.length/\J 4=PV.num (Qgp (p.take i))/\J 5=PV.num (Qeg (p.take i))/\J 21= .int .i64 (i:Nat)/\hp 3=some ⟨3,51,[.agg [.bool false,.nilS,.nilS]],false⟩) p.length ?_ ?_
 ·refine⟨0,rfl,by omega,?_⟩;refine Sz0 ?_;refine⟨?_,rfl,rfl⟩;simp[Qgp,Qa0]
 rintro _ J h ⟨i,rfl,hi,h4,h5,h21,hh3⟩;refine Sz3 h4 h5 h21 ?_;refine Qb (fun hg=>?_) (fun hg=>?_)
 ·have hi':i<p.length:=by omega
  have htp:=(hp.get hi').c;have hg1:=Qpy hp i hi;have hg2:=Qpz hp i hi;have hik:i*K<=p.length*K:=Nat.mul_le_mul_right _ hi;have hs1:=Qpd hi';have hs2:=Qpe hi';unfold rs at htp;generalize hx:p[i]=x at *
  have hd0:=x.1.den_nz;have hgd:Nat.gcd (Qeg (p.take i)) x.1.den≠0:=fun h=>hd0 (Nat.eq_zero_of_gcd_eq_zero_right h);have hgn:=Q7n (Qeg (p.take i)) x.1.den;have hqd:=Qsn x.1.den (Nat.gcd (Qeg (p.take i)) x.1.den);generalize Qgp (p.take i)=G at *
  generalize Qeg (p.take i)=L at *
  refine Sz4 h4 h5 h21 hx ?_;refine Qa hP (Qum (x:=G) (y:=x.1.num.natAbs) (by show nl _<_;omega) (by show nl _<_;omega)) rfl rfl rfl ?_;refine Sz4 h4 h5 h21 hx ?_;refine Qa hP (Qum (x:=L) (y:=x.1.den) (by show nl _<_;omega) (by show nl _<_;omega)) rfl rfl rfl ?_;refine Sz4 h4 h5 h21 hx ?_;refine Qa hP (Qnp (x:=x.1.den) (y:=Nat.gcd L x.1.den) (by show nl _<_;omega) (by show nl _<_;omega) hgd) rfl rfl rfl ?_;refine Sz4 h4 h5 h21 hx ?_;refine Qa hP (Qahy (x:=L) (y:=x.1.den/Nat.gcd L x.1.den) (by omega) (by omega)) rfl rfl rfl ?_;refine Sz5 h4 h5 h21 hx hh3 ?_;refine Qh (p.length-(i+1)) (by omega) ⟨i+1,rfl,by omega,?_⟩;rw[hs1,hs2];exact Tz1 hh3
 ·obtain rfl:i=p.length:=by omega
  rw[List.take_length]at h4 h5 hn1 hn2;generalize hx:p[0]=x at *
  have hlL:=hl0;refine Sz3 h4 h5 hx ?_;refine Qa hP (Qoz (a:=x.1) (by omega)) rfl rfl rfl ?_;refine Sz3 h4 h5 hx ?_;refine Qa hP hmk rfl rfl rfl ?_;generalize Qjs p=a at *
  refine Sz3 h4 h5 hx ?_;refine Qa hP (Qk0 (K:=2+p.length*K+K) (hp.mono (by omega) (Nat.le_refl _)) (by omega) (by omega) hE (by omega)) rfl rfl rfl ?_;refine Sz1 hh3 ?_;refine Qiu ?_;refine Sz0 ?_;exact Qgn rfl rfl rfl (Q4 _) (Q4 _)
end Go.Proofs.YtdaldpkjhcfblaaGreat
namespace Go.FW
open Go
def hdT(p:List Tm):Tm:=p.headD (0,[])
theorem Qahz{p:List Tm}(h:0<p.length):p[0]=hdT p:=by cases p with
 |nil=>simp at h
 |cons t p=>rfl
theorem Q1h{p:List Tm}(h:p≠[]):hdT p∈p:=by cases p with
 |nil=>exact absurd rfl h
 |cons t p=>simp[hdT]
theorem Q31{p:List Tm}(hs:Qa9 p):∀t∈p,t=hdT p∨Qaf t.2 (hdT p).2<0:=by
 cases p with
 |nil=>intro t ht;cases ht
 | cons x p=>
  intro t ht;rcases List.mem_cons.1 ht with rfl|ht
  ·exact .inl rfl
  ·right;have:=hs.1 t ht;have e:=Qg5 x.2 t.2;show Qaf t.2 x.2<0;omega
end Go.FW
