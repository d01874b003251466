/- Part 9 of the proof of CertcheckFactors: P5, G9, FwWI. Own lemmas; no conditions. -/
import Derived.Test.YtdacdnoebgcjhaaGreatCertcheckFactorsPart8
set_option linter.unusedSimpArgs false
set_option linter.unnecessarySimpa false
set_option linter.unusedVariables false
namespace Go.Proofs.YtdacdnoebgcjhaaGreat
open Go Go.FW
set_option linter.unusedSimpArgs false
set_option linter.unusedVariables false
set_option maxRecDepth 100000
theorem Q47{p:List Tm}{i:Nat}(h:i<p.length):Qf2 (p.take (i+1))=max (Qf2 (p.take i)) (Qch p[i].2):=by
 rw[List.take_succ_eq_append_getElem h,Qf2,List.foldl_append];rfl
theorem Quu{p:List Tm}{K E:Nat}(hp:PB K E p)(hE:E<=2^38)(hlp:p.length<=2^36):Qd Tryz.prog 29 [PV.poly p] (· = .int .i64 (Qf2 p)):=by
 refine Qf Qq Tryz.func29 rfl Qagt (by simp[c29]) fun C hP=> ?_;simp only[c29,Zo,Zg,Zm,Zc,Zf,Zl,Zh,Zs,Zi,Zb,Zk,Zn,Zu,Zq,Zr,Zz]
 simp+decide (disch:=first|exact D0|fail) only[go_sem,↓reduceIte]
 refine Qu (by repeat (first|exact Qt|exact Qm|exact Qn|exact Qo|exact Qp|apply Ql|apply Qr|apply Qx|apply Q3|apply Q4|apply Qi)) [(3,3),(5,5),(8,17)] [5] (fun n J hp=>∃i,n=p.length-i/\i<=p.length/\J 3= .int .i64 (Qf2 (p.take i))/\J 8= .int .i64 (i:Nat)) p.length ?_ ?_
 ·refine⟨0,rfl,by omega,?_⟩
  simp+decide (disch:=first|exact D0|fail) only[go_sem,↓reduceIte]
  simp[Qf2]
 rintro _ J h ⟨i,rfl,hi,h3,h8⟩
 simp+decide (disch:=first|exact D2 h3 h8|fail) only[go_sem,↓reduceIte,h3,h8]
 refine Qb (fun hg=> ?_) (fun hg=> ?_)
 ·have hi':i<p.length:=by omega
  have htp:=hp.get hi'
  have htk:=Q47 hi'
  generalize hx:p[i]=x at *
  have hl:=htp.m.len
  have hd:=Qoq htp.m
  simp+decide (disch:=first|exact D3 h3 h8 hx|fail) only[go_sem,↓reduceIte,h3,h8,hx]
  refine Qa hP (Qio (a:=x.2) (by omega) (fun y hy=>⟨htp.m.lo y hy,by have:=htp.m.hi y hy;omega⟩)) rfl rfl rfl ?_
  simp+decide (disch:=first|exact D3 h3 h8 hx|fail) only[go_sem,↓reduceIte,h3,h8,hx]
  refine Qg (p.length-(i+1)) (by omega) ⟨i+1,rfl,by omega,?_⟩
  rw[htk]
  simp+decide (disch:=first|exact D0|fail) only[go_sem,↓reduceIte]
 ·obtain rfl:i=p.length:=by omega
  rw[List.take_length]at h3
  simp+decide (disch:=first|exact D1 h3|fail) only[go_sem,↓reduceIte,h3]
  exact Qc rfl rfl
end Go.Proofs.YtdacdnoebgcjhaaGreat
namespace Go.Proofs.YtdacdnoebgcjhaaGreat
open Go Go.FW
set_option linter.unusedSimpArgs false
set_option linter.unusedVariables false
set_option maxRecDepth 100000
end Go.Proofs.YtdacdnoebgcjhaaGreat
namespace Go.FW
open Go
set_option maxRecDepth 100000
theorem Qxo:∀(a:List Int),(∀x∈a,0<=x)->a.sum<=0->∀x∈a,x=0
 | [],_,_,x,hx=>by cases hx
 | y::a,h,hs,x,hx=>by
  have h1:=h y (List.mem_cons_self ..)
  have hpos:∀l:List Int,(∀x∈l,0<=x)->0<=l.sum:=fun l=>by
   induction l with
   |nil=>intro _;simp
   |cons z l ih=>
    intro h
    have h1:=h z (by simp)
    have h2:=ih fun x hx=>h x (List.mem_cons_of_mem _ hx)
    rw[List.sum_cons];omega
  have h2:=hpos a fun x hx=>h x (List.mem_cons_of_mem _ hx)
  rw[List.sum_cons]at hs
  rcases List.mem_cons.1 hx with rfl|hx
  ·omega
  ·exact Qxo a (fun x hx=>h x (List.mem_cons_of_mem _ hx)) (by omega) x hx
theorem Cf.mb{j:Nat}{p:List Tm}(h:Cf j p):∀t∈p,MB 6560 t.2:=fun t ht=>by
 have h1:=h.w t ht
 refine⟨by have:=h.ml t ht;omega,fun x hx=> ?_,fun x hx=> ?_⟩
 all_goals
  obtain⟨i,hi,rfl⟩:=List.getElem_of_mem hx
  have hp:=h.pos t ht i
  rw[Qcq hi]at hp
 ·exact hp
 ·have hl:=h.ml t ht
  have c0:=h.pos t ht 0;have c1:=h.pos t ht 1;have c2:=h.pos t ht 2;have c3:=h.pos t ht 3
  simp only[psi]at h1
  rw[<-Qcq hi]
  rw[<-Qcq hi]at hp
  have:i=0∨i=1∨i=2∨i=3:=by omega
  rcases this with rfl|rfl|rfl|rfl<;>omega
theorem Cf.pb{j:Nat}{p:List Tm}(h:Cf j p)(hj:j<=20):FW.PB 1073741824 1048576 p/\p.length<=8589934592:=by
 obtain⟨D,N,h1,h2,h3,h4,h5,h6⟩:=h.d
 refine⟨fun t ht=>⟨?_,(h.mb t ht).mono (by omega),h.n.c t ht⟩,?_⟩
 ·have hr:=Qxh h1 h2 h5 h6 ht
  have e:=Qc2 N D
  omega
 ·by_cases h0:p=[]
  ·subst h0;simp
  ·have g1:=Qrw h.w h.pos h.ml h.n.s h0
   have g2:=Q9p (h.w _ (Qhk h0))
   omega
theorem Q9b{p:List Tm}{K E:Nat}(np:Nrm p)(bp:PB K E p)(h0:p≠[])(hd:Qf2 p=0):p=[((hdT p).1,[])]:=by
 have key:∀t∈p,t.2=[]:=fun t ht=>by
  have h1:=(Qw1 p).1 t ht
  have hm:=(bp t ht).m
  have hl:=(bp t ht).l
  have hs:=Qxo t.2 hm.lo (by unfold Qch at h1;omega)
  cases hl2:t.2.getLast? with
  |none=>exact List.getLast?_eq_none_iff.1 hl2
  |some x=>exact absurd (by rw[hl2,hs x (List.mem_of_getLast? hl2)]) hl
 cases p with
 |nil=>exact absurd rfl h0
 | cons t p=>
  cases p with
  |nil=>
   have:=key t (by simp)
   show [t]=[(t.1,[])]
   rw[<-this]
  |cons s p=>
   have h1:=np.s.1 s (by simp)
   rw[key t (by simp),key s (by simp)]at h1
   exact absurd h1 (by decide)
end Go.FW
