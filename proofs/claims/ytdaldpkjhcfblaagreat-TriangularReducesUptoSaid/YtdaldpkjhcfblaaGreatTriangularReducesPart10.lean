/- Part 10 of the proof of TriangularReduces: W7, FwUF. Own lemmas; no conditions. -/
import Derived.Test.YtdaldpkjhcfblaaGreatTriangularReducesPart9
set_option maxHeartbeats 1000000
set_option linter.unusedSimpArgs false
set_option linter.unusedVariables false
set_option linter.unnecessarySimpa false
set_option maxRecDepth 100000
namespace Go.Proofs.YtdaldpkjhcfblaaGreat
open Go Go.FW
theorem Qaou{c:Rat}{L:Nat}(hL:0<L):PV.agg [.bool (decide (Qd4 c<0)),PV.num L]=PV.zz (if c<0 then -(L:Int)else(L:Int)):=by
 by_cases h:c<0
 ·rw[if_pos h,PV.zz,decide_eq_true (Qod.2 h),decide_eq_true (by omega),Int.natAbs_neg,Int.natAbs_natCast]
 ·rw[if_neg h,PV.zz,decide_eq_false (fun x=>h (Qod.1 x)),decide_eq_false (by omega),Int.natAbs_natCast]
theorem Qaov(L:Nat):PV.agg [.bool false,PV.num L]=PV.zz (L:Int):=by rw[PV.zz,decide_eq_false (by omega),Int.natAbs_natCast]
theorem Qajw{x y:Nat}(hx:nl x<2^40)(hy:nl y<2^40):Qd Tryz.prog 127 [PV.num x,PV.num y] (· =PV.num (x*y)):=by
 have:=Qlr (Qq x) (Qq y) hx hy
 rwa[Q4,Q4]at this
theorem Qrn{p:List Tm}{K E:Nat}(hp:PB K E p)(np:Nrm p)(h0:p≠[])(hl:p.length<=2^20)(hK:p.length*K+(K+K)<=2^32)(hE:E<=2^38):
  Qd Tryz.prog 141 [PV.poly p] (· = .tup [PV.poly (Qca p (Qkj p)),PV.rat (Qkj p)]):=by
 have h0l:0<p.length:=List.length_pos_iff.2 h0;have hpr:=Qajv hp np.z h0;have hge:=Q3p np.z h0;have hl0:=(Qafx p p.length (Nat.le_refl _)).l0;have hn1:=Qrg hp p.length (Nat.le_refl _);have hn2:=Qrf hp p.length (Nat.le_refl _);have hpk:K<=p.length*K:=Nat.le_mul_of_pos_left _ h0l;have hK1:1<=K:=by have:=(hp.get h0l).c;omega
 have hmk:=Q9i (x:=if(p[0]).1<0 then -(Qep p:Int)else(Qep p:Int)) (y:=(Qhf p:Int)) (by split<;>simp only[Int.natAbs_neg,Int.natAbs_natCast]<;>rw[List.take_length]at hn1<;>omega) (by rw[Int.natAbs_natCast];rw[List.take_length]at hn2;omega) (by omega);rw[<-Qaou (by rw[List.take_length]at hl0;exact hl0),<-Qaov]at hmk;have hfe:(((if(p[0]).1<0 then -(Qep p:Int)else(Qep p:Int):Int):Rat)/((Qhf p:Int):Rat))=Qkj p:=by
  unfold Qkj;cases p with
  |nil=>cases h0 rfl
  |cons t p=>rfl
 rw[hfe]at hmk;have hc0:=(hp.get h0l).c;have hx0:p[0]=p[0]:=rfl;refine Qf Qj Tryz.func141 rfl Qaiq (by simp[c141]) fun C hP=>?_;simp only[c141];refine Sz0 ?_;refine Qb (fun h=>absurd h (by omega)) (fun _=>?_);refine Sz0 ?_;refine Qa hP (Qnm (n:=1) (by omega)) rfl rfl rfl ?_;refine Sz0 ?_;refine Qha 4 1 Tz0 ?_;refine Qx (by repeat (first|exact Qu|exact Qm|exact Qn|exact Qk|exact Qo|apply Ql|apply Qt|apply Qw|apply Q2|apply Q3|apply Qi|apply Qy)) [(4,5),(7,11),(21,48)] [7] (fun n J hp=>∃i,n=p.length-i/\i<=p.length/\J 4=PV.num (Qhf (p.take i))/\J 5=PV.num (Qep (p.take i))/\J 21= .int .i64 (i:Nat)/\hp 3=some ⟨3,51,[.agg [.bool false,.nilS,.nilS]],false⟩) p.length ?_ ?_
 ·refine⟨0,rfl,by omega,?_⟩;refine Sz0 ?_;refine⟨?_,rfl,rfl⟩;simp[Qhf,Qa3]
 rintro _ J h ⟨i,rfl,hi,h4,h5,h21,hh3⟩;refine Sz3 h4 h5 h21 ?_;refine Qb (fun hg=>?_) (fun hg=>?_)
 ·have hi':i<p.length:=by omega
  have htp:=(hp.get hi').c;have hg1:=Qrf hp i hi;have hg2:=Qrg hp i hi;have hik:i*K<=p.length*K:=Nat.mul_le_mul_right _ hi;have hs1:=Qqq hi';have hs2:=Qqr hi';unfold rs at htp;generalize hx:p[i]=x at *
  have hd0:=x.1.den_nz;have hgd:Nat.gcd (Qep (p.take i)) x.1.den≠0:=fun h=>hd0 (Nat.eq_zero_of_gcd_eq_zero_right h);have hgn:=Q9k (Qep (p.take i)) x.1.den;have hqd:=Qub x.1.den (Nat.gcd (Qep (p.take i)) x.1.den);generalize Qhf (p.take i)=G at *
  generalize Qep (p.take i)=L at *
  refine Sz4 h4 h5 h21 hx ?_;refine Qa hP (Qwh (x:=G) (y:=x.1.num.natAbs) (by show nl _<_;omega) (by show nl _<_;omega)) rfl rfl rfl ?_;refine Sz4 h4 h5 h21 hx ?_;refine Qa hP (Qwh (x:=L) (y:=x.1.den) (by show nl _<_;omega) (by show nl _<_;omega)) rfl rfl rfl ?_;refine Sz4 h4 h5 h21 hx ?_;refine Qa hP (Qot (x:=x.1.den) (y:=Nat.gcd L x.1.den) (by show nl _<_;omega) (by show nl _<_;omega) hgd) rfl rfl rfl ?_;refine Sz4 h4 h5 h21 hx ?_;refine Qa hP (Qajw (x:=L) (y:=x.1.den/Nat.gcd L x.1.den) (by omega) (by omega)) rfl rfl rfl ?_;refine Sz5 h4 h5 h21 hx hh3 ?_;refine Qh (p.length-(i+1)) (by omega) ⟨i+1,rfl,by omega,?_⟩;rw[hs1,hs2];exact Tz1 hh3
 ·obtain rfl:i=p.length:=by omega
  rw[List.take_length]at h4 h5 hn1 hn2;generalize hx:p[0]=x at *
  have hlL:=hl0;refine Sz3 h4 h5 hx ?_;refine Qa hP (Qqb (a:=x.1) (by omega)) rfl rfl rfl ?_;refine Sz3 h4 h5 hx ?_;refine Qa hP hmk rfl rfl rfl ?_;generalize Qkj p=a at *
  refine Sz3 h4 h5 hx ?_;refine Qa hP (Qlt (K:=2+p.length*K+K) (hp.mono (by omega) (Nat.le_refl _)) (by omega) (by omega) hE (by omega)) rfl rfl rfl ?_;refine Sz1 hh3 ?_;refine Qfu ?_;refine Sz0 ?_;exact Qe6 rfl rfl rfl (Qz _) (Qz _)
end Go.Proofs.YtdaldpkjhcfblaaGreat
namespace Go.FW
open Go
def hdT(p:List Tm):Tm:=p.headD (0,[])
theorem Qajx{p:List Tm}(h:0<p.length):p[0]=hdT p:=by cases p with
 |nil=>simp at h
 |cons t p=>rfl
theorem Q3q{p:List Tm}(h:p≠[]):hdT p∈p:=by cases p with
 |nil=>exact absurd rfl h
 |cons t p=>simp[hdT]
theorem Q51{p:List Tm}(hs:Qbb p):∀t∈p,t=hdT p∨Qak t.2 (hdT p).2<0:=by
 cases p with
 |nil=>intro t ht;cases ht
 | cons x p=>
  intro t ht;rcases List.mem_cons.1 ht with rfl|ht
  ·exact .inl rfl
  ·right;have:=hs.1 t ht;have e:=Qhx x.2 t.2;show Qak t.2 x.2<0;omega
end Go.FW
