/- Part 12 of the proof of GoalsTrivial: K24, K18, W1, W2, W3, W4, W5, FwUD. Own lemmas; no conditions. -/
import Derived.Test.YtonjiljafkiikaaGreatGoalsTrivialPart11
set_option maxHeartbeats 1000000
set_option linter.unusedSimpArgs false
set_option linter.unusedVariables false
set_option linter.unnecessarySimpa false
set_option maxRecDepth 100000
namespace Go.Proofs.YtonjiljafkiikaaGreat
open Go Go.FW
theorem PI{f:cI}{n:Int}(hf:oG f):Qd Tryz.prog 29 [PV.jg f,.int .i64 n] (· = .int .i64 (dF f n)):=by
 have hr:=Yq hf.r (by omega);have hz:=Tp hf.r;have mO:=hf.l;obtain⟨k,args,n0,a,d⟩:=f;simp only at hr hz mO;have hA:=PY (k:=k);refine Qf Qk Tryz.func29 rfl UW (by simp[CW]) fun C hP=>?_;simp only[CW,Zo,Zg,Zm,Zc,Zf,Zl,Zh,Zs,Zi,Zb,Zk,Zn,Zu,Zq,Zr,Zz];refine Sz0 ?_;refine Qa hP hA rfl rfl rfl ?_;refine Sz0 ?_;refine Qb (fun h0=>?_) (fun h0=>?_)
 ·refine Sz0 ?_;exact Qc (by simp[dF,h0]) rfl
 refine Sz0 ?_;refine Qb (fun hl=>?_) (fun hl=>?_)
 ·refine Sz0 ?_;exact Qc (by simp[dF,h0,hl]) rfl
 replace hl:(args.length:Int)=cD k:=by omega
 refine Sz0 ?_;refine Q5 (by repeat (first|exact Qx|exact Qq|exact Qr|exact Qt|exact Qu|apply Qp|apply Qw|apply Q3|apply Q8|apply Q9|apply Qn|apply Q7)) [(4,4),(7,7),(21,32)] [] (fun m J hp=>∃i,m=args.length-i/\i<=args.length/\(∀j (h:j<args.length),j<i->0<=args[j]/\args[j]<n)/\J 21= .int .i64 (i:Nat)/\hp 2=some ⟨5,34,[PV.jg ⟨k,args,n0,a,d⟩],false⟩) args.length ?_ ?_
 ·refine⟨0,rfl,by omega,by omega,?_⟩;refine Sz0 ?_;rfl
 rintro _ J h ⟨i,rfl,hi,h1,lk,cl⟩;refine Sz1 lk ?_;refine Qb (fun hg=>?_) (fun hg=>?_)
 ·have aA:i<args.length:=by omega
  have h2:(args[i]<0∨n<=args[i])->dF ⟨k,args,n0,a,d⟩ n=2:=fun h=>F3 (f:=⟨k,args,n0,a,d⟩) h0 hl aA h;have dB:0<=args[i]/\args[i]<n->∀j (h:j<args.length),j<i+1->0<=args[j]/\args[j]<n:=fun h j hj l9=>by
   by_cases e:j=i
   ·subst e;exact h
   ·exact h1 j hj (by omega)
  generalize hx:args[i]=x at *
  refine Sz2 lk hx ?_;refine Q6 (fun h3=>?_) (fun h3=>?_)
  ·refine Sz0 ?_;exact Qc (by rw[h2 (.inl h3)]) rfl
  refine Sz0 ?_;refine Qb (fun h4=>?_) (fun h4=>?_)
  ·refine Sz0 ?_;exact Qc (by rw[h2 (.inr h4)]) rfl
  refine Sz1 lk ?_;refine Qm (args.length-(i+1)) (by omega) ⟨i+1,rfl,by omega,dB ⟨by omega,by omega⟩,?_⟩;exact Tz1 cl
 obtain rfl:i=args.length:=by omega
 have cM:=za (f:=⟨k,args,n0,a,d⟩) (n:=n) h0 hl (fun j hj=>h1 j hj hj);refine Sz1 cl ?_;by_cases h9:k=9
 ·subst h9;refine Sz1 cl ?_;refine Qa hP hr rfl rfl rfl ?_;cases hq:kO n0 a d
  ·refine Sz1 cl ?_;exact Qc (by rw[cM];simp[hq]) rfl
  ·refine Sz1 cl ?_;exact Qc (by rw[cM];simp[hq]) rfl
 ·have d9:decide (k=9)=false:=decide_eq_false h9;have DC:decide (¬k=9)=true:=decide_eq_true h9;refine Sz3 cl d9 DC ?_;refine Qa hP hz rfl rfl rfl ?_;cases hq:fX n0 a d
  ·refine Sz1 cl ?_;exact Qc (by rw[cM];simp[hq,h9]) rfl
  ·refine Sz1 cl ?_;exact Qc (by rw[cM];simp[hq,h9]) rfl
end Go.Proofs.YtonjiljafkiikaaGreat
namespace Go.FW
open Go
end Go.FW
