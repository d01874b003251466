/- Part 13 of the proof of TriangularEquation: P5, U6, P6, V1, W12, W13, W14, FwUH. Own lemmas; no conditions. -/
import Derived.Test.YtdaldpkjhcfblaaGreatTriangularEquationPart12
set_option maxHeartbeats 1000000
set_option linter.unusedSimpArgs false
set_option linter.unusedVariables false
set_option linter.unnecessarySimpa false
set_option maxRecDepth 100000
namespace Go.Proofs.YtdaldpkjhcfblaaGreat
open Go Go.FW
theorem Qaam{p:List Tm}{i:Nat}(h:i<p.length):Qhr (p.take (i+1))=max (Qhr (p.take i)) (Qgt p[i].2):=by rw[List.take_succ_eq_append_getElem h,Qhr,List.foldl_append];rfl
theorem Qxc{p:List Tm}{K E:Nat}(hp:PB K E p)(hE:E<=2^38)(hlp:p.length<=2^36):Qd Tryz.prog 25 [PV.poly p] (· = .int .i64 (Qhr p)):=by
 refine Qf Qj Tryz.func25 rfl Qan7 (by simp[c25]) fun C hP=>?_;simp only[c25];refine Sz0 ?_;refine Qy (by repeat (first|exact Qu|exact Qn|exact Qo|exact Qk|exact Qp|apply Qm|apply Qt|apply Qw|apply Q5|apply Q6|apply Qi|apply Qz)) [(3,18)] [] (fun n J hp=>∃i,n=p.length-i/\i<=p.length/\J 3= .int .i64 (Qhr (p.take i))/\J 4= .int .i64 (i:Nat)) p.length ?_ ?_
 ·refine⟨0,rfl,by omega,?_⟩;refine Sz0 ?_;simp[Qhr]
 rintro _ J h ⟨i,rfl,hi,h3,h4⟩;refine Sz2 h3 h4 ?_;refine Qb (fun hg=>?_) (fun hg=>?_)
 ·have hi':i<p.length:=by omega
  have htp:=hp.get hi';have htk:=Qaam hi';generalize hx:p[i]=x at *
  have hl:=htp.m.len;have hd:=Qwz htp.m;refine Sz3 h3 h4 hx ?_;refine Qa hP (Qfy (a:=x.2) (by omega) (fun y hy=>⟨htp.m.lo y hy,by have:=htp.m.hi y hy;omega⟩)) rfl rfl rfl ?_;refine Sz3 h3 h4 hx ?_;refine Qh (p.length-(i+1)) (by omega) ⟨i+1,rfl,by omega,?_⟩;rw[htk];exact Tz0
 ·obtain rfl:i=p.length:=by omega
  rw[List.take_length]at h3;refine Sz1 h3 ?_;exact Qc rfl rfl
def Q3(p:List Tm):Int:=p.foldl (fun v t=>max v ((t.2.length:Int)-1)) (-1)
theorem Q6x{p:List Tm}{i:Nat}(h:i<p.length):Q3 (p.take (i+1))=max (Q3 (p.take i)) ((p[i].2.length:Int)-1):=by rw[List.take_succ_eq_append_getElem h,Q3,List.foldl_append];rfl
theorem Qko(p:List Tm):∀d:Int,d<=p.foldl (fun v t=>max v ((t.2.length:Int)-1)) d/\(∀t∈p,(t.2.length:Int)-1<=p.foldl (fun v t=>max v ((t.2.length:Int)-1)) d)/\
  (p.foldl (fun v t=>max v ((t.2.length:Int)-1)) d=d∨∃t∈p,p.foldl (fun v t=>max v ((t.2.length:Int)-1)) d=(t.2.length:Int)-1):=by
 induction p with
 |nil=>intro d;exact⟨Int.le_refl _,(fun t h=>by cases h),.inl rfl⟩
 | cons x p ih=>
  intro d;obtain⟨h1,h2,h3⟩:=ih (max d ((x.2.length:Int)-1));simp only[List.foldl_cons];refine⟨by omega,fun t ht=>?_,?_⟩
  ·rcases List.mem_cons.1 ht with rfl|ht
   ·omega
   ·exact h2 t ht
  ·rcases h3 with h3|⟨t,ht,h3⟩
   ·by_cases hc:(x.2.length:Int)-1<=d
    ·left;omega
    ·exact .inr ⟨x,List.mem_cons_self ..,by omega⟩
   ·exact .inr ⟨t,List.mem_cons_of_mem _ ht,h3⟩
theorem Q6y(p:List Tm): -1<=Q3 p/\(∀t∈p,(t.2.length:Int)-1<=Q3 p)/\(Q3 p= -1∨∃t∈p,Q3 p=(t.2.length:Int)-1):=Qko p (-1)
theorem Qakx{E:Nat}{a b:List Int}(ha:MB E a)(hl:a.getLast? ≠some 0)(h:Qak a b<0):a.length<=b.length:=by
 apply Classical.byContradiction;intro hc;obtain⟨k,hk⟩:∃k,a.length=k+1:=⟨a.length-1,by omega⟩
 have e:max a.length b.length=k+1:=by omega
 have h1:=ha.eN k;have h2:eN b k=0:=Qcs (by omega);have h3:eN a k≠0:=fun h0=>by have:=Qoy hk;rw[Qc2 (by omega)]at h0;rw[h0]at this;exact hl this
 rw[Qak,e,Qb9,h2]at h;have h4:Qbx (eN a k) 0=1:=by
  rcases Q83 (eN a k) 0 with h|h|h
  ·have:=Qjm.1 (show Qbx (eN a k) 0<0 by omega);omega
  ·exact absurd (Q3y.1 h) h3
  ·exact h
 simp only[h4]at h;revert h;simp[h3]
theorem Qafz{p:List Tm}{K E:Nat}(hp:PB K E p)(np:Nrm p)(h0:p≠[]):Q3 p=((hdT p).2.length:Int)-1:=by
 obtain⟨h1,h2,h3⟩:=Q6y p;have h4:=h2 _ (Q4h h0);rcases h3 with h3|⟨t,ht,h3⟩
 ·omega
 ·have htp:=hp t ht;rcases Q6u np.s t ht with e|e
  ·rw[<-e];exact h3
  ·have:=Qakx htp.m htp.l e;omega
theorem Qea{p:List Tm}{K E:Nat}(hp:PB K E p)(hlp:p.length<=2^36):Qd Tryz.prog 16 [PV.poly p] (· = .int .i64 (Q3 p)):=by
 refine Qf Qj Tryz.func16 rfl Qaoj (by simp[c16]) fun C hP=>?_;simp only[c16];refine Sz0 ?_;refine Qy (by repeat (first|exact Qu|exact Qn|exact Qo|exact Qk|exact Qp|apply Qm|apply Qt|apply Qw|apply Q5|apply Q6|apply Qi|apply Qz)) [(3,3),(5,5),(8,17)] [5] (fun n J hp=>∃i,n=p.length-i/\i<=p.length/\J 3= .int .i64 (Q3 (p.take i))/\J 8= .int .i64 (i:Nat)) p.length ?_ ?_
 ·refine⟨0,rfl,by omega,?_⟩;refine Sz0 ?_;exact⟨rfl,rfl⟩
 rintro _ J h ⟨i,rfl,hi,h5,h10⟩;refine Sz2 h5 h10 ?_;refine Qb (fun hg=>?_) (fun hg=>?_)
 ·have hi':i<p.length:=by omega
  have htp:=hp.get hi';have htk:=Q6x hi';generalize hx:p[i]=x at *
  have hml:=htp.m.len;have hmm:=Q2u (a:=x.2) (by omega);rw[Qtk htp.l]at hmm;refine Sz3 h5 h10 hx ?_;refine Qa hP hmm rfl rfl rfl ?_;refine Sz3 h5 h10 hx ?_;refine Qh (p.length-(i+1)) (by omega) ⟨i+1,rfl,by omega,?_⟩;rw[htk];exact Tz0
 ·obtain rfl:i=p.length:=by omega
  rw[List.take_length]at h5;refine Sz1 h5 ?_;exact Qc rfl rfl
theorem Q10{a:List Int}{E:Nat}(ha:MB E a):Qd Tryz.prog 81 [PV.mono a] (· = .int .i64 ((a.length:Int)-1)):=by have:=ha.len;refine Qf Qj Tryz.func81 rfl Qaov (by simp[c81]) fun C hP=>?_;simp only[c81];refine Sz0 ?_;exact Qc rfl rfl
theorem Qmi{p:List Tm}{K E:Nat}(hp:PB K E p)(np:Nrm p)(hlp:p.length<=2^36):Qd Tryz.prog 40 [PV.poly p] (· = .int .i64 (Q3 p)):=by
 by_cases h0:p=[]
 ·subst h0;refine Qf Qj Tryz.func40 rfl Q9x (by simp[c40]) fun C hP=>?_;simp only[c40];refine Sz0 ?_;exact Qc rfl rfl
 have hl:=List.length_pos_iff.2 h0;have hh:=Qakr hl;have hm:=Qafz hp np h0;have htp:=hp.get hl;rw[hh]at htp;have hne:¬((p.length:Int)=0):=by omega
 refine Qf Qj Tryz.func40 rfl Q9x (by simp[c40]) fun C hP=>?_;simp only[c40];refine Sz2 hne hh ?_;refine Qa hP (Q10 htp.m) rfl rfl rfl ?_;rw[<-hm];refine Sz0 ?_;exact Qc rfl rfl
def Qao(p:List Tm):List Tm:=if Q3 p<0 then p else Qae p (exi (Q3 p)) (Q8 p (exi (Q3 p)))
theorem Qjb{p:List Tm}{K E:Nat}(hp:PB K E p)(hlp:p.length<=2^36):Qd Tryz.prog 37 [PV.poly p] (· =PV.poly (Qao p)):=by
 refine Qf Qj Tryz.func37 rfl Qaon (by simp[c37]) fun C hP=>?_;simp only[c37];refine Sz0 ?_;refine Qa hP (Qea hp hlp) rfl rfl rfl ?_;unfold Qao;generalize Q3 p=v;refine Sz0 ?_;refine Qb (fun h0=>?_) (fun h0=>?_)
 ·rw[if_pos h0];refine Sz0 ?_;exact Qc rfl rfl
 ·rw[if_neg h0];refine Sz0 ?_;refine Qa hP (Qce hp hlp) rfl rfl rfl ?_;refine Sz0 ?_;refine Qa hP (Qme hp hlp) rfl rfl rfl ?_;refine Sz0 ?_;exact Qc rfl rfl
theorem Qm5{p:List Tm}{K E:Nat}(hp:PB K E p)(np:Nrm p)(hlp:p.length<=2^36)(hE:E<=1048576)(hK:K<=2^32):Qd Tryz.prog 14 [PV.poly p] (· =PV.poly (Qao p)):=by
 refine Qf Qj Tryz.func14 rfl Qaot (by simp[c14]) fun C hP=>?_;simp only[c14];refine Sz0 ?_;refine Qa hP (Qmi hp np hlp) rfl rfl rfl ?_;unfold Qao;generalize Q3 p=v;refine Sz0 ?_;refine Qb (fun h0=>?_) (fun h0=>?_)
 ·rw[if_pos h0];refine Sz0 ?_;exact Qc rfl rfl
 ·rw[if_neg h0];refine Sz0 ?_;refine Qa hP (Qgh hp hlp) rfl rfl rfl ?_;refine Sz0 ?_;refine Qa hP (Qmh hp np hlp hE hK) rfl rfl rfl ?_;refine Sz0 ?_;exact Qc rfl rfl
end Go.Proofs.YtdaldpkjhcfblaaGreat
namespace Go.FW
open Go
def dK:Nat->Nat
 |0=>5
 |k+1=>10*dK k+62
def dE:Nat->Nat
 |0=>4
 |k+1=>3*dE k
def dL:Nat->Nat
 |0=>5
 |k+1=>10*dL k
theorem d5{k:Nat}(h:k<=5):dK k<=1188882/\dE k<=972/\dL k<=500000/\(k<5->dK k<=118882):=by
 have:k=0∨k=1∨k=2∨k=3∨k=4∨k=5:=by omega
 rcases this with rfl|rfl|rfl|rfl|rfl|rfl<;>decide
end Go.FW
