/- Part 16 of the proof of CertcheckNames: P5, G9, FwWI. Own lemmas; no conditions. -/
import Derived.Test.YtccppnepkfbpkaaGreatCertcheckNamesPart15
set_option maxHeartbeats 1000000
set_option linter.unusedSimpArgs false
set_option linter.unusedVariables false
set_option linter.unnecessarySimpa false
set_option maxRecDepth 100000
namespace Go.Proofs.YtccppnepkfbpkaaGreat
open Go Go.FW
theorem aaJ{p:List Tm}{i:Nat}(h:i<p.length):tY (p.take (i+1))=max (tY (p.take i)) (jN p[i].2):=by rw[Kam h,tY,Kb2];rfl
theorem UB{p:List Tm}{K E:Nat}(hp:PB K E p)(hE:E<=2^38)(fX:p.length<=2^36):Qd Tryz.prog 50 [PV.ao p] (· = .int .i64 (tY p)):=by
 refine aB Qg Tryz.func50 ahO fun C hP=>?_;refine Sz0 ?_;refine Qn eH [(3,3),(5,5),(8,17)] [5] (fun n J hp=>∃i,n=p.length-i/\i<=p.length/\J 3= .int .i64 (tY (p.take i))/\J 8= .int .i64 (i:Nat)) p.length ?_ ?_
 ·refine⟨0,rfl,by omega,?_⟩;refine Sz0 ?_;simp[tY]
 rintro _ J h ⟨i,rfl,hi,h3,h8⟩;refine Sz2 h3 h8 ?_;refine Qb (fun hg=>?_) (fun hg=>?_)
 ·have az:i<p.length:=by omega
  have cx:=hp.get az;have bN:=aaJ az;generalize hx:p[i]=x at *
  have hl:=cx.m.len;have hd:=IA cx.m;refine Sz3 h3 h8 hx ?_;refine Qa hP (GW (a:=x.2) (by omega) (fun y hy=>⟨cx.m.lo y hy,by have:=cx.m.hi y hy;omega⟩)) rfl rfl rfl ?_;refine Sz3 h3 h8 hx ?_;refine Qi (p.length-(i+1)) (by omega) ⟨i+1,rfl,by omega,?_⟩;rw[bN];exact Tz0
 ·obtain rfl:i=p.length:=by omega
  rw[KaE]at h3;refine Sz1 h3 ?_;exact Qc rfl rfl
end Go.Proofs.YtccppnepkfbpkaaGreat
namespace Go.FW
open Go
theorem Cf.mb{j:Nat}{p:List Tm}(h:Cf j p):∀t∈p,MB 6560 t.2:=fun t ht=>by
 have h1:=h.w t ht;refine⟨by have:=h.ml t ht;omega,fun x hx=>?_,fun x hx=>?_⟩
 all_goals
  obtain⟨i,hi,rfl⟩:=KaA hx;have hp:=h.pos t ht i;rw[gY hi]at hp
 ·exact hp
 ·have hl:=h.ml t ht;have c0:=h.pos t ht 0;have c1:=h.pos t ht 1;have c2:=h.pos t ht 2;have c3:=h.pos t ht 3;simp only[iN]at h1;rw[<-gY hi];rw[<-gY hi]at hp;have:i=0∨i=1∨i=2∨i=3:=by omega
  rcases this with rfl|rfl|rfl|rfl<;>omega
theorem Cf.pb{j:Nat}{p:List Tm}(h:Cf j p)(hj:j<=20):FW.PB 1073741824 1048576 p/\p.length<=8589934592:=by
 obtain⟨D,N,h1,h2,h3,h4,h5,h6⟩:=h.d;refine⟨fun t ht=>⟨?_,(h.mb t ht).mono (by omega),h.n.c t ht⟩,?_⟩
 ·have hr:=LQ h1 h2 h5 h6 ht;have e:=iP N D;omega
 ·by_cases h0:p=[]
  ·subst h0;simp
  ·have g1:=PF h.w h.pos h.ml h.n.s h0;have g2:=NC (h.w _ (sv h0));omega
end Go.FW
