/- Part 9 of the proof of CertcheckPowers: P5, G9, FwWI. Own lemmas; no conditions. -/
import Derived.Test.YtdacdnoebgcjhaaGreatCertcheckPowersPart8
set_option linter.unusedSimpArgs false
set_option linter.unnecessarySimpa false
set_option linter.unusedVariables false
namespace Go.Proofs.YtdacdnoebgcjhaaGreat
open Go Go.FW
set_option linter.unusedSimpArgs false
set_option linter.unusedVariables false
set_option maxRecDepth 100000
theorem Q4z{p:List Tm}{i:Nat}(h:i<p.length):Qnk (p.take (i+1))=max (Qnk (p.take i)) (Qe4 p[i].2):=by
 rw[List.take_succ_eq_append_getElem h,Qnk,List.foldl_append];rfl
theorem Qur{p:List Tm}{K E:Nat}(hp:PB K E p)(hE:E<=2^38)(hlp:p.length<=2^36):Qd Tryz.prog 29 [PV.poly p] (· = .int .i64 (Qnk p)):=by
 refine Qf Ql Tryz.func29 rfl Qagh (by simp[c29]) fun C hP=> ?_;simp only[c29,Zo,Zg,Zm,Zc,Zf,Zl,Zh,Zs,Zi,Zb,Zk,Zn,Zu,Zq,Zr,Zz]
 simp+decide (disch:=first|exact D0|fail) only[go_sem,↓reduceIte]
 refine Qw (by repeat (first|exact Qu|exact Qn|exact Qo|exact Qp|exact Qq|apply Qm|apply Qt|apply Qy|apply Q5|apply Q6|apply Qk)) [(3,3),(5,5),(8,17)] [5] (fun n J hp=>∃i,n=p.length-i/\i<=p.length/\J 3= .int .i64 (Qnk (p.take i))/\J 8= .int .i64 (i:Nat)) p.length ?_ ?_
 ·refine⟨0,rfl,by omega,?_⟩
  simp+decide (disch:=first|exact D0|fail) only[go_sem,↓reduceIte]
  simp[Qnk]
 rintro _ J h ⟨i,rfl,hi,h3,h8⟩
 simp+decide (disch:=first|exact D2 h3 h8|fail) only[go_sem,↓reduceIte,h3,h8]
 refine Qb (fun hg=> ?_) (fun hg=> ?_)
 ·have hi':i<p.length:=by omega
  have htp:=hp.get hi'
  have htk:=Q4z hi'
  generalize hx:p[i]=x at *
  have hl:=htp.m.len
  have hd:=Qsm htp.m
  simp+decide (disch:=first|exact D3 h3 h8 hx|fail) only[go_sem,↓reduceIte,h3,h8,hx]
  refine Qa hP (Qil (a:=x.2) (by omega) (fun y hy=>⟨htp.m.lo y hy,by have:=htp.m.hi y hy;omega⟩)) rfl rfl rfl ?_
  simp+decide (disch:=first|exact D3 h3 h8 hx|fail) only[go_sem,↓reduceIte,h3,h8,hx]
  refine Qh (p.length-(i+1)) (by omega) ⟨i+1,rfl,by omega,?_⟩
  rw[htk]
  simp+decide (disch:=first|exact D0|fail) only[go_sem,↓reduceIte]
 ·obtain rfl:i=p.length:=by omega
  rw[List.take_length]at h3
  simp+decide (disch:=first|exact D1 h3|fail) only[go_sem,↓reduceIte,h3]
  exact Qc rfl rfl
end Go.Proofs.YtdacdnoebgcjhaaGreat
namespace Go.Proofs.YtdacdnoebgcjhaaGreat
open Go Go.FW
set_option linter.unusedSimpArgs false
set_option linter.unusedVariables false
set_option maxRecDepth 100000
end Go.Proofs.YtdacdnoebgcjhaaGreat
namespace Go.FW
open Go
set_option maxRecDepth 100000
theorem Cf.mb{j:Nat}{p:List Tm}(h:Cf j p):∀t∈p,MB 6560 t.2:=fun t ht=>by
 have h1:=h.w t ht
 refine⟨by have:=h.ml t ht;omega,fun x hx=> ?_,fun x hx=> ?_⟩
 all_goals
  obtain⟨i,hi,rfl⟩:=List.getElem_of_mem hx
  have hp:=h.pos t ht i
  rw[Qcu hi]at hp
 ·exact hp
 ·have hl:=h.ml t ht
  have c0:=h.pos t ht 0;have c1:=h.pos t ht 1;have c2:=h.pos t ht 2;have c3:=h.pos t ht 3
  simp only[psi]at h1
  rw[<-Qcu hi]
  rw[<-Qcu hi]at hp
  have:i=0∨i=1∨i=2∨i=3:=by omega
  rcases this with rfl|rfl|rfl|rfl<;>omega
theorem Cf.pb{j:Nat}{p:List Tm}(h:Cf j p)(hj:j<=20):FW.PB 1073741824 1048576 p/\p.length<=8589934592:=by
 obtain⟨D,N,h1,h2,h3,h4,h5,h6⟩:=h.d
 refine⟨fun t ht=>⟨?_,(h.mb t ht).mono (by omega),h.n.c t ht⟩,?_⟩
 ·have hr:=Qxd h1 h2 h5 h6 ht
  have e:=Qcz N D
  omega
 ·by_cases h0:p=[]
  ·subst h0;simp
  ·have g1:=Qro h.w h.pos h.ml h.n.s h0
   have g2:=Q9h (h.w _ (Qoi h0))
   omega
end Go.FW
