/- Part 13 of the proof of TriangularReduces: P5, U6, P6, V1, W12, W13, W14, FwUH. Own lemmas; no conditions. -/
import Derived.Test.YtdaldpkjhcfblaaGreatTriangularReducesPart12
set_option maxHeartbeats 1000000
set_option linter.unusedSimpArgs false
set_option linter.unusedVariables false
set_option linter.unnecessarySimpa false
set_option maxRecDepth 100000
namespace Go.Proofs.YtdaldpkjhcfblaaGreat
open Go Go.FW
theorem Q9r{p:List Tm}{i:Nat}(h:i<p.length):Qhe (p.take (i+1))=max (Qhe (p.take i)) (Qge p[i].2):=by rw[List.take_succ_eq_append_getElem h,Qhe,List.foldl_append];rfl
theorem Qwo{p:List Tm}{K E:Nat}(hp:PB K E p)(hE:E<=2^38)(hlp:p.length<=2^36):Qd Tryz.prog 25 [PV.poly p] (· = .int .i64 (Qhe p)):=by
 refine Qf Qj Tryz.func25 rfl Qam8 (by simp[c25]) fun C hP=>?_;simp only[c25];refine Sz0 ?_;refine Qx (by repeat (first|exact Qu|exact Qm|exact Qn|exact Qk|exact Qo|apply Ql|apply Qt|apply Qw|apply Q2|apply Q3|apply Qi|apply Qy)) [(3,18)] [] (fun n J hp=>∃i,n=p.length-i/\i<=p.length/\J 3= .int .i64 (Qhe (p.take i))/\J 4= .int .i64 (i:Nat)) p.length ?_ ?_
 ·refine⟨0,rfl,by omega,?_⟩;refine Sz0 ?_;simp[Qhe]
 rintro _ J h ⟨i,rfl,hi,h3,h4⟩;refine Sz2 h3 h4 ?_;refine Qb (fun hg=>?_) (fun hg=>?_)
 ·have hi':i<p.length:=by omega
  have htp:=hp.get hi';have htk:=Q9r hi';generalize hx:p[i]=x at *
  have hl:=htp.m.len;have hd:=Qwb htp.m;refine Sz3 h3 h4 hx ?_;refine Qa hP (Qfk (a:=x.2) (by omega) (fun y hy=>⟨htp.m.lo y hy,by have:=htp.m.hi y hy;omega⟩)) rfl rfl rfl ?_;refine Sz3 h3 h4 hx ?_;refine Qh (p.length-(i+1)) (by omega) ⟨i+1,rfl,by omega,?_⟩;rw[htk];exact Tz0
 ·obtain rfl:i=p.length:=by omega
  rw[List.take_length]at h3;refine Sz1 h3 ?_;exact Qc rfl rfl
def Qab(p:List Tm):Int:=p.foldl (fun v t=>max v ((t.2.length:Int)-1)) (-1)
theorem Q54{p:List Tm}{i:Nat}(h:i<p.length):Qab (p.take (i+1))=max (Qab (p.take i)) ((p[i].2.length:Int)-1):=by rw[List.take_succ_eq_append_getElem h,Qab,List.foldl_append];rfl
theorem Qqs(p:List Tm):∀d:Int,d<=p.foldl (fun v t=>max v ((t.2.length:Int)-1)) d/\(∀t∈p,(t.2.length:Int)-1<=p.foldl (fun v t=>max v ((t.2.length:Int)-1)) d)/\
  (p.foldl (fun v t=>max v ((t.2.length:Int)-1)) d=d∨∃t∈p,p.foldl (fun v t=>max v ((t.2.length:Int)-1)) d=(t.2.length:Int)-1):=by
 induction p with
 |nil=>intro d;exact⟨Int.le_refl _,(fun t h=>by cases h),.inl rfl⟩
 | cons x p ih=>
  intro d;obtain⟨h1,h2,h3⟩:=ih (max d ((x.2.length:Int)-1));simp only[List.foldl_cons];refine⟨by omega,fun t ht=>?_,?_⟩
  ·rcases List.mem_cons.1 ht with rfl|ht
   ·omega
   ·exact h2 t ht
  ·rcases h3 with h3|⟨t,ht,h3⟩
   ·by_cases hc:(x.2.length:Int)-1<=d
    ·left;omega
    ·exact .inr ⟨x,List.mem_cons_self ..,by omega⟩
   ·exact .inr ⟨t,List.mem_cons_of_mem _ ht,h3⟩
theorem Q55(p:List Tm): -1<=Qab p/\(∀t∈p,(t.2.length:Int)-1<=Qab p)/\(Qab p= -1∨∃t∈p,Qab p=(t.2.length:Int)-1):=Qqs p (-1)
theorem Qaj3{E:Nat}{a b:List Int}(ha:MB E a)(hl:a.getLast? ≠some 0)(h:Qak a b<0):a.length<=b.length:=by
 apply Classical.byContradiction;intro hc;obtain⟨k,hk⟩:∃k,a.length=k+1:=⟨a.length-1,by omega⟩
 have e:max a.length b.length=k+1:=by omega
 have h1:=ha.eN k;have h2:eN b k=0:=Qcn (by omega);have h3:eN a k≠0:=fun h0=>by have:=Qof hk;rw[Qct (by omega)]at h0;rw[h0]at this;exact hl this
 rw[Qak,e,Qb5,h2]at h;have h4:Qbu (eN a k) 0=1:=by
  rcases Q78 (eN a k) 0 with h|h|h
  ·have:=Qi8.1 (show Qbu (eN a k) 0<0 by omega);omega
  ·exact absurd (Q27.1 h) h3
  ·exact h
 simp only[h4]at h;revert h;simp[h3]
theorem Qae5{p:List Tm}{K E:Nat}(hp:PB K E p)(np:Nrm p)(h0:p≠[]):Qab p=((hdT p).2.length:Int)-1:=by
 obtain⟨h1,h2,h3⟩:=Q55 p;have h4:=h2 _ (Q3q h0);rcases h3 with h3|⟨t,ht,h3⟩
 ·omega
 ·have htp:=hp t ht;rcases Q51 np.s t ht with e|e
  ·rw[<-e];exact h3
  ·have:=Qaj3 htp.m htp.l e;omega
theorem Qeq{p:List Tm}{K E:Nat}(hp:PB K E p)(hlp:p.length<=2^36):Qd Tryz.prog 16 [PV.poly p] (· = .int .i64 (Qab p)):=by
 refine Qf Qj Tryz.func16 rfl Qank (by simp[c16]) fun C hP=>?_;simp only[c16];refine Sz0 ?_;refine Qx (by repeat (first|exact Qu|exact Qm|exact Qn|exact Qk|exact Qo|apply Ql|apply Qt|apply Qw|apply Q2|apply Q3|apply Qi|apply Qy)) [(3,3),(5,5),(8,17)] [5] (fun n J hp=>∃i,n=p.length-i/\i<=p.length/\J 3= .int .i64 (Qab (p.take i))/\J 8= .int .i64 (i:Nat)) p.length ?_ ?_
 ·refine⟨0,rfl,by omega,?_⟩;refine Sz0 ?_;exact⟨rfl,rfl⟩
 rintro _ J h ⟨i,rfl,hi,h5,h10⟩;refine Sz2 h5 h10 ?_;refine Qb (fun hg=>?_) (fun hg=>?_)
 ·have hi':i<p.length:=by omega
  have htp:=hp.get hi';have htk:=Q54 hi';generalize hx:p[i]=x at *
  have hml:=htp.m.len;have hmm:=Q11 (a:=x.2) (by omega);rw[Qsw htp.l]at hmm;refine Sz3 h5 h10 hx ?_;refine Qa hP hmm rfl rfl rfl ?_;refine Sz3 h5 h10 hx ?_;refine Qh (p.length-(i+1)) (by omega) ⟨i+1,rfl,by omega,?_⟩;rw[htk];exact Tz0
 ·obtain rfl:i=p.length:=by omega
  rw[List.take_length]at h5;refine Sz1 h5 ?_;exact Qc rfl rfl
theorem Q08{a:List Int}{E:Nat}(ha:MB E a):Qd Tryz.prog 81 [PV.mono a] (· = .int .i64 ((a.length:Int)-1)):=by have:=ha.len;refine Qf Qj Tryz.func81 rfl Qanx (by simp[c81]) fun C hP=>?_;simp only[c81];refine Sz0 ?_;exact Qc rfl rfl
theorem Ql0{p:List Tm}{K E:Nat}(hp:PB K E p)(np:Nrm p)(hlp:p.length<=2^36):Qd Tryz.prog 40 [PV.poly p] (· = .int .i64 (Qab p)):=by
 by_cases h0:p=[]
 ·subst h0;refine Qf Qj Tryz.func40 rfl Q81 (by simp[c40]) fun C hP=>?_;simp only[c40];refine Sz0 ?_;exact Qc rfl rfl
 have hl:=List.length_pos_iff.2 h0;have hh:=Qajx hl;have hm:=Qae5 hp np h0;have htp:=hp.get hl;rw[hh]at htp;have hne:¬((p.length:Int)=0):=by omega
 refine Qf Qj Tryz.func40 rfl Q81 (by simp[c40]) fun C hP=>?_;simp only[c40];refine Sz2 hne hh ?_;refine Qa hP (Q08 htp.m) rfl rfl rfl ?_;rw[<-hm];refine Sz0 ?_;exact Qc rfl rfl
def Qa4(p:List Tm):List Tm:=if Qab p<0 then p else Qah p (exi (Qab p)) (Qai p (exi (Qab p)))
theorem Qix{p:List Tm}{K E:Nat}(hp:PB K E p)(hlp:p.length<=2^36):Qd Tryz.prog 37 [PV.poly p] (· =PV.poly (Qa4 p)):=by
 refine Qf Qj Tryz.func37 rfl Qano (by simp[c37]) fun C hP=>?_;simp only[c37];refine Sz0 ?_;refine Qa hP (Qeq hp hlp) rfl rfl rfl ?_;unfold Qa4;generalize Qab p=v;refine Sz0 ?_;refine Qb (fun h0=>?_) (fun h0=>?_)
 ·rw[if_pos h0];refine Sz0 ?_;exact Qc rfl rfl
 ·rw[if_neg h0];refine Sz0 ?_;refine Qa hP (Qc2 hp hlp) rfl rfl rfl ?_;refine Sz0 ?_;refine Qa hP (Qlw hp hlp) rfl rfl rfl ?_;refine Sz0 ?_;exact Qc rfl rfl
theorem Qve{p:List Tm}{K E:Nat}(hp:PB K E p)(np:Nrm p)(hlp:p.length<=2^36)(hE:E<=1048576)(hK:K<=2^32):Qd Tryz.prog 14 [PV.poly p] (· =PV.poly (Qa4 p)):=by
 refine Qf Qj Tryz.func14 rfl Qanu (by simp[c14]) fun C hP=>?_;simp only[c14];refine Sz0 ?_;refine Qa hP (Ql0 hp np hlp) rfl rfl rfl ?_;unfold Qa4;generalize Qab p=v;refine Sz0 ?_;refine Qb (fun h0=>?_) (fun h0=>?_)
 ·rw[if_pos h0];refine Sz0 ?_;exact Qc rfl rfl
 ·rw[if_neg h0];refine Sz0 ?_;refine Qa hP (Qf2 hp hlp) rfl rfl rfl ?_;refine Sz0 ?_;refine Qa hP (Qlz hp np hlp hE hK) rfl rfl rfl ?_;refine Sz0 ?_;exact Qc rfl rfl
theorem Qvf{l:List (List Tm)}{K E:Nat}(hl:∀c∈l,PB K E c/\c.length<=2^36)(hK:K<=2^33)(hE:E<=2^38)(hll:l.length<=2^36):Qd Tryz.prog 21 [PV.polys l,PV.polys l] (· = .bool true):=by
 refine Qf Qj Tryz.func21 rfl Qanw (by simp[c21]) fun C hP=>?_;simp only[c21];refine Sz0 ?_;refine Qx (by repeat (first|exact Qu|exact Qm|exact Qn|exact Qk|exact Qo|apply Ql|apply Qt|apply Qw|apply Q2|apply Q3|apply Qi|apply Qy)) [(4,5),(11,26)] [] (fun n J hp=>∃i,n=l.length-i/\i<=l.length/\J 5= .int .i64 (i:Nat)) l.length ?_ ?_
 ·refine⟨0,rfl,by omega,?_⟩;refine Sz0 ?_;rfl
 rintro _ J h ⟨i,rfl,hi,h5⟩;refine Sz1 h5 ?_;refine Qb (fun hg=>?_) (fun hg=>?_)
 ·have hi':i<l.length:=by omega
  have hc:=hl _ (List.getElem_mem hi');generalize hx:l[i]=x at *
  refine Sz2 h5 hx ?_;refine Qa hP (Qhq hc.1 hc.1 hK hE hc.2 hc.2) rfl rfl rfl ?_;rw[decide_eq_true (p:=x=x) rfl];refine Sz1 h5 ?_;refine Qh (l.length-(i+1)) (by omega) ⟨i+1,rfl,by omega,?_⟩;exact Tz0
 ·refine Sz1 h5 ?_;exact Qc rfl rfl
end Go.Proofs.YtdaldpkjhcfblaaGreat
namespace Go.FW
open Go
end Go.FW
