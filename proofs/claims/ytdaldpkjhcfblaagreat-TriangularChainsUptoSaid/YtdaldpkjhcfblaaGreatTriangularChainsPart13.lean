/- Part 13 of the proof of TriangularChains: P5, U6, P6, V1, W12, W13, W14, FwUH. Own lemmas; no conditions. -/
import Derived.Test.YtdaldpkjhcfblaaGreatTriangularChainsPart12
set_option maxHeartbeats 1000000
set_option linter.unusedSimpArgs false
set_option linter.unusedVariables false
set_option linter.unnecessarySimpa false
set_option maxRecDepth 100000
namespace Go.Proofs.YtdaldpkjhcfblaaGreat
open Go Go.FW
def Qaz(p:List Tm):Int:=p.foldl (fun v t=>max v ((t.2.length:Int)-1)) (-1)
theorem Q35{p:List Tm}{i:Nat}(h:i<p.length):Qaz (p.take (i+1))=max (Qaz (p.take i)) ((p[i].2.length:Int)-1):=by rw[List.take_succ_eq_append_getElem h,Qaz,List.foldl_append];rfl
theorem Q7u(p:List Tm):∀d:Int,d<=p.foldl (fun v t=>max v ((t.2.length:Int)-1)) d/\(∀t∈p,(t.2.length:Int)-1<=p.foldl (fun v t=>max v ((t.2.length:Int)-1)) d)/\
  (p.foldl (fun v t=>max v ((t.2.length:Int)-1)) d=d∨∃t∈p,p.foldl (fun v t=>max v ((t.2.length:Int)-1)) d=(t.2.length:Int)-1):=by
 induction p with
 |nil=>intro d;exact⟨Int.le_refl _,(fun t h=>by cases h),.inl rfl⟩
 | cons x p ih=>
  intro d;obtain⟨h1,h2,h3⟩:=ih (max d ((x.2.length:Int)-1));simp only[List.foldl_cons];refine⟨by omega,fun t ht=>?_,?_⟩
  ·rcases List.mem_cons.1 ht with rfl|ht
   ·omega
   ·exact h2 t ht
  ·rcases h3 with h3|⟨t,ht,h3⟩
   ·by_cases hc:(x.2.length:Int)-1<=d
    ·left;omega
    ·exact .inr ⟨x,List.mem_cons_self ..,by omega⟩
   ·exact .inr ⟨t,List.mem_cons_of_mem _ ht,h3⟩
theorem Q36(p:List Tm): -1<=Qaz p/\(∀t∈p,(t.2.length:Int)-1<=Qaz p)/\(Qaz p= -1∨∃t∈p,Qaz p=(t.2.length:Int)-1):=Q7u p (-1)
theorem Qah4{E:Nat}{a b:List Int}(ha:MB E a)(hl:a.getLast? ≠some 0)(h:Qaf a b<0):a.length<=b.length:=by
 apply Classical.byContradiction;intro hc;obtain⟨k,hk⟩:∃k,a.length=k+1:=⟨a.length-1,by omega⟩
 have e:max a.length b.length=k+1:=by omega
 have h1:=ha.eN k;have h2:eN b k=0:=Qcu (by omega);have h3:eN a k≠0:=fun h0=>by have:=Qna hk;rw[Qct (by omega)]at h0;rw[h0]at this;exact hl this
 rw[Qaf,e,Qb2,h2]at h;have h4:Qbq (eN a k) 0=1:=by
  rcases Q6d (eN a k) 0 with h|h|h
  ·have:=Qih.1 (show Qbq (eN a k) 0<0 by omega);omega
  ·exact absurd (Q00.1 h) h3
  ·exact h
 simp only[h4]at h;revert h;simp[h3]
theorem Qac8{p:List Tm}{K E:Nat}(hp:PB K E p)(np:Nrm p)(h0:p≠[]):Qaz p=((hdT p).2.length:Int)-1:=by
 obtain⟨h1,h2,h3⟩:=Q36 p;have h4:=h2 _ (Q1h h0);rcases h3 with h3|⟨t,ht,h3⟩
 ·omega
 ·have htp:=hp t ht;rcases Q31 np.s t ht with e|e
  ·rw[<-e];exact h3
  ·have:=Qah4 htp.m htp.l e;omega
theorem Qe2{p:List Tm}{K E:Nat}(hp:PB K E p)(hlp:p.length<=2^36):Qd Tryz.prog 16 [PV.poly p] (· = .int .i64 (Qaz p)):=by
 refine Qf Qi Tryz.func16 rfl Qalm (by simp[c16]) fun C hP=>?_;simp only[c16];refine Sz0 ?_;refine Qw (by repeat (first|exact Qv|exact Qp|exact Qq|exact Qr|exact Qs|apply Qo|apply Qu|apply Qx|apply Q2|apply Q3|apply Qk|apply Qz)) [(3,3),(5,5),(8,17)] [5] (fun n J hp=>∃i,n=p.length-i/\i<=p.length/\J 3= .int .i64 (Qaz (p.take i))/\J 8= .int .i64 (i:Nat)) p.length ?_ ?_
 ·refine⟨0,rfl,by omega,?_⟩;refine Sz0 ?_;exact⟨rfl,rfl⟩
 rintro _ J h ⟨i,rfl,hi,h5,h10⟩;refine Sz2 h5 h10 ?_;refine Qb (fun hg=>?_) (fun hg=>?_)
 ·have hi':i<p.length:=by omega
  have htp:=hp.get hi';have htk:=Q35 hi';generalize hx:p[i]=x at *
  have hml:=htp.m.len;have hmm:=Qzt (a:=x.2) (by omega);rw[Qq9 htp.l]at hmm;refine Sz3 h5 h10 hx ?_;refine Qa hP hmm rfl rfl rfl ?_;refine Sz3 h5 h10 hx ?_;refine Qh (p.length-(i+1)) (by omega) ⟨i+1,rfl,by omega,?_⟩;rw[htk];exact Tz0
 ·obtain rfl:i=p.length:=by omega
  rw[List.take_length]at h5;refine Sz1 h5 ?_;exact Qc rfl rfl
theorem Qy3{a:List Int}{E:Nat}(ha:MB E a):Qd Tryz.prog 81 [PV.mono a] (· = .int .i64 ((a.length:Int)-1)):=by have:=ha.len;refine Qf Qi Tryz.func81 rfl Qalx (by simp[c81]) fun C hP=>?_;simp only[c81];refine Sz0 ?_;exact Qc rfl rfl
theorem Qpf{p:List Tm}{K E:Nat}(hp:PB K E p)(np:Nrm p)(hlp:p.length<=2^36):Qd Tryz.prog 40 [PV.poly p] (· = .int .i64 (Qaz p)):=by
 by_cases h0:p=[]
 ·subst h0;refine Qf Qi Tryz.func40 rfl Q66 (by simp[c40]) fun C hP=>?_;simp only[c40];refine Sz0 ?_;exact Qc rfl rfl
 have hl:=List.length_pos_iff.2 h0;have hh:=Qahz hl;have hm:=Qac8 hp np h0;have htp:=hp.get hl;rw[hh]at htp;have hne:¬((p.length:Int)=0):=by omega
 refine Qf Qi Tryz.func40 rfl Q66 (by simp[c40]) fun C hP=>?_;simp only[c40];refine Sz2 hne hh ?_;refine Qa hP (Qy3 htp.m) rfl rfl rfl ?_;rw[<-hm];refine Sz0 ?_;exact Qc rfl rfl
def Qa1(p:List Tm):List Tm:=if Qaz p<0 then p else Qam p (exi (Qaz p)) (Qat p (exi (Qaz p)))
theorem Qh6{p:List Tm}{K E:Nat}(hp:PB K E p)(hlp:p.length<=2^36):Qd Tryz.prog 37 [PV.poly p] (· =PV.poly (Qa1 p)):=by
 refine Qf Qi Tryz.func37 rfl Qalq (by simp[c37]) fun C hP=>?_;simp only[c37];refine Sz0 ?_;refine Qa hP (Qe2 hp hlp) rfl rfl rfl ?_;unfold Qa1;generalize Qaz p=v;refine Sz0 ?_;refine Qb (fun h0=>?_) (fun h0=>?_)
 ·rw[if_pos h0];refine Sz0 ?_;exact Qc rfl rfl
 ·rw[if_neg h0];refine Sz0 ?_;refine Qa hP (Qcw hp hlp) rfl rfl rfl ?_;refine Sz0 ?_;refine Qa hP (Qk1 hp hlp) rfl rfl rfl ?_;refine Sz0 ?_;exact Qc rfl rfl
theorem Qtn{p:List Tm}{K E:Nat}(hp:PB K E p)(np:Nrm p)(hlp:p.length<=2^36)(hE:E<=1048576)(hK:K<=2^32):Qd Tryz.prog 14 [PV.poly p] (· =PV.poly (Qa1 p)):=by
 refine Qf Qi Tryz.func14 rfl Qalv (by simp[c14]) fun C hP=>?_;simp only[c14];refine Sz0 ?_;refine Qa hP (Qpf hp np hlp) rfl rfl rfl ?_;unfold Qa1;generalize Qaz p=v;refine Sz0 ?_;refine Qb (fun h0=>?_) (fun h0=>?_)
 ·rw[if_pos h0];refine Sz0 ?_;exact Qc rfl rfl
 ·rw[if_neg h0];refine Sz0 ?_;refine Qa hP (Qrn hp hlp) rfl rfl rfl ?_;refine Sz0 ?_;refine Qa hP (Qy1 hp np hlp hE hK) rfl rfl rfl ?_;refine Sz0 ?_;exact Qc rfl rfl
theorem Qto{l:List (List Tm)}{K E:Nat}(hl:∀c∈l,PB K E c/\c.length<=2^36)(hK:K<=2^33)(hE:E<=2^38)(hll:l.length<=2^36):Qd Tryz.prog 21 [PV.polys l,PV.polys l] (· = .bool true):=by
 refine Qf Qi Tryz.func21 rfl Qalw (by simp[c21]) fun C hP=>?_;simp only[c21];refine Sz0 ?_;refine Qw (by repeat (first|exact Qv|exact Qp|exact Qq|exact Qr|exact Qs|apply Qo|apply Qu|apply Qx|apply Q2|apply Q3|apply Qk|apply Qz)) [(4,5),(11,26)] [] (fun n J hp=>∃i,n=l.length-i/\i<=l.length/\J 5= .int .i64 (i:Nat)) l.length ?_ ?_
 ·refine⟨0,rfl,by omega,?_⟩;refine Sz0 ?_;rfl
 rintro _ J h ⟨i,rfl,hi,h5⟩;refine Sz1 h5 ?_;refine Qb (fun hg=>?_) (fun hg=>?_)
 ·have hi':i<l.length:=by omega
  have hc:=hl _ (List.getElem_mem hi');generalize hx:l[i]=x at *
  refine Sz2 h5 hx ?_;refine Qa hP (Qjr hc.1 hc.1 hK hE hc.2 hc.2) rfl rfl rfl ?_;rw[decide_eq_true (p:=x=x) rfl];refine Sz1 h5 ?_;refine Qh (l.length-(i+1)) (by omega) ⟨i+1,rfl,by omega,?_⟩;exact Tz0
 ·refine Sz1 h5 ?_;exact Qc rfl rfl
end Go.Proofs.YtdaldpkjhcfblaaGreat
namespace Go.FW
open Go
end Go.FW
