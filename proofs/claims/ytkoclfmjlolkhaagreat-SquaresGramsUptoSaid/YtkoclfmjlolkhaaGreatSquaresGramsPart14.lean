/- Part 14 of the proof of SquaresGrams: B13, B14, B15, B12, B16, B17, B18, P7, Q5, Q6, Q7, FwXB. Own lemmas; no conditions. -/
import Derived.Test.YtkoclfmjlolkhaaGreatSquaresGramsPart13
set_option linter.unusedSimpArgs false
set_option linter.unusedVariables false
set_option linter.unnecessarySimpa false
set_option maxRecDepth 100000
namespace Go.Proofs.YtkoclfmjlolkhaaGreat
open Go Go.FW
def c161:SFn:=⟨50,[.t 2,.t 3,.t 4],Zr (Zc 2 0<|
 Zc 3 0<|
 Zo (.mv 4 (.c (.bool false))) .nil)<| .seq (Zr (Zc 5 0 .nil)<| .block 0<| .loop<| .seq (Zr (Zm 8 5<|
 Zm 9 0<|
 Zn 10 9<|
 Zb 11 .lss 8 10 .nil)<| .cond (.t 11) .skip (.exit 0))<| .seq (.block 1<|Zr (Zm 14 0<|
 Zm 15 5<|
 Zi 16 1 14 15<|
 Zl 17 1 16<|
 Zm 18 5<|
 Zi 19 3 17 18<|
 Zh 20 3 19<|
 Zq 21 false 27 [.t 20]<|
 Zk 22 .neq 21 0 .nil)<| .cond (.t 22) (Zr (Zm 23 5<|
 Zm 24 5<|
 Zm 2 23<|
 Zm 3 24<|
 Zo (.mv 4 (.c (.bool true))) .nil) .ret) .skip)<| .rg (Zm 12 5<|
 Zk 13 .add 12 1<|
 Zm 5 13 .nil))<| .seq (Zr (Zc 6 0 .nil)<| .block 2<| .loop<| .seq (Zr (Zm 25 6<|
 Zm 26 0<|
 Zn 27 26<|
 Zb 28 .lss 25 27 .nil)<| .cond (.t 28) .skip (.exit 2))<| .seq (.block 3<|Zr (Zm 31 6<|
 Zk 32 .add 31 1<|
 Zm 7 32 .nil)<| .block 4<| .loop<| .seq (Zr (Zm 33 7<|
 Zm 34 0<|
 Zn 35 34<|
 Zb 36 .lss 33 35 .nil)<| .cond (.t 36) .skip (.exit 4))<| .seq (.block 5<|Zr (Zm 39 0<|
 Zm 40 6<|
 Zi 41 1 39 40<|
 Zl 42 1 41<|
 Zm 43 7<|
 Zi 44 3 42 43<|
 Zh 45 3 44<|
 Zq 46 false 27 [.t 45]<|
 Zk 47 .neq 46 0 .nil)<| .cond (.t 47) (Zr (Zm 48 6<|
 Zm 49 7<|
 Zm 2 48<|
 Zm 3 49<|
 Zo (.mv 4 (.c (.bool true))) .nil) .ret) .skip)<| .rg (Zm 37 7<|
 Zk 38 .add 37 1<|
 Zm 7 38 .nil))<| .rg (Zm 29 6<|
 Zk 30 .add 29 1<|
 Zm 6 30 .nil))<|Zr (Zc 2 0<|
 Zc 3 0<|
 Zo (.mv 4 (.c (.bool false))) .nil) .ret⟩
theorem Qam6:Qe Tryz.prog Tryz.f161=some c161:=by kernel_rfl
def c163:SFn:=⟨31,[.t 6],Zr (Zo (.box 5 3 51 (.t 2))<|
 Zo (.mv 6 (.c .nilS)) .nil)<|Zr (Zo (.mv 7 (.c .nilS)) .nil)<| .seq (Zr (Zc 8 0 .nil)<| .block 0<| .loop<| .seq (Zr (Zm 9 8<|
 Zm 10 0<|
 Zn 11 10<|
 Zb 12 .lss 9 11 .nil)<| .cond (.t 12) .skip (.exit 0))<| .seq (.block 1<| .rg (Zm 15 7<|
 Zm 16 0<|
 Zm 17 8<|
 Zi 18 1 16 17<|
 Zl 19 1 18<|
 Zm 20 1<|
 Zh 21 3 5<|
 Zm 22 1<|
 Zm 23 8<|
 Zi 24 3 22 23<|
 Zh 25 3 24<|
 Zq 26 true 85 [.t 21,.t 25]<|
 Zq 27 true 126 [.t 19,.t 20,.t 26]<|
 Zo (.bs 28 1 22 [.t 27])<|
 Zo (.app 29 1 24 22 (.t 15) (.t 28))<|
 Zm 7 29 .nil))<| .rg (Zm 13 8<|
 Zk 14 .add 13 1<|
 Zm 8 14 .nil))<|Zr (Zm 30 7<|
 Zm 6 30 .nil) .ret⟩
theorem Qam7:Qe Tryz.prog Tryz.f163=some c163:=by kernel_rfl
theorem Q1v{l:List Rat}{R m:Nat}(hl:l.length=R*m)(hR2:R<=40)(hm:m<=40):Qd Tryz.prog 59 [PV.mat R m l] (· = .sl 1 (Qad (PV.rowD m) (Qai l m) R)):=by
 refine Qea Qq Tryz.func59 rfl Qaq1 (by simp[c59]) fun C hP=> ?_;simp only[c59,Zo,Zg,Zm,Zc,Zf,Zl,Zh,Zs,Zi,Zb,Zk,Zn,Zu,Zq,Zr,Zz]
 simp+decide (disch:=try exact D0) only[go_sem]
 refine Qce 3 900 1 22 (by omega) T0 ?_
 refine Qz (by repeat (first|exact Qn|exact Qi|exact Qj|exact Qk|exact Ql|apply Qh|apply Qm|apply Qt|apply Qx|apply Qy|apply Qg|apply Qr)) [(3,18)] [12,16,17,18,900] (fun n J hp=>∃i,n=R-i/\i<=R/\J 3= .ms 900 i/\J 4= .int .i64 (i:Nat)/\hp 1=some ⟨3,24,[PV.mat R m l],false⟩/\hp 900=some ⟨1,22,(List.range i).map (fun r=> .sl 3 (Qad PV.rat (Qai l m r) m)),false⟩) R ?_ ?_
 ·refine⟨0,rfl,by omega,?_⟩
  simp+decide (disch:=try exact D0) only[go_sem]
  exact⟨rfl,rfl⟩
 rintro _ J h ⟨i,rfl,hi,h3,h4,h1,hh⟩
 simp+decide (disch:=try exact D3 h3 h4 h1) only[go_sem,h3,h4,h1]
 refine Qb (fun hg=> ?_) (fun hg=> ?_)
 ·have hi':i<R:=by omega
  have c1:=Qaq2 hl hi' hR2 hm
  have hml:((List.range m).map (Qai l m i)).length=m:=by simp
  rw[Qg2]at c1
  simp+decide (disch:=try exact D3 h3 h4 h1) only[go_sem,h3,h4,h1]
  rw[bs0 (by omega)]
  simp+decide (disch:=try exact D3 h3 h4 h1) only[go_sem,h3,h4,h1]
  refine Qa hP c1 rfl rfl rfl ?_
  simp+decide (disch:=try exact D3 h3 h4 h1) only[go_sem,h3,h4,h1]
  rw[Qd0 (n:=0) (f:=PV.rat) (xs:=[]) (ys:=(List.range m).map (Qai l m i)) T0 rfl (by omega) (by omega) (by omega)]
  simp+decide (disch:=try exact D3 h3 h4 h1) only[go_sem,h3,h4,h1]
  rw[Qar6 (e':=3) (ty':=51) (xs:=((List.range m).map (Qai l m i)).map PV.rat) (fz:=false) T0,List.take_of_length_le (by simp)]
  simp+decide (disch:=try exact D3 h3 h4 h1) only[go_sem,h3,h4,h1]
  rw[Qaf (f:=fun r=>PV.sl 3 (Qad PV.rat (Qai l m r) m)) (y:=i) (xs:=List.range i) (ty':=22) (fz:=false) (U1 hh) (by simp+decide (disch:=first|omega|rfl|(simp+decide only[go_sem,Qg2,Qac,List.contains_cons,List.contains_nil,List.flatMap_cons,List.flatMap_nil,List.append_nil]<;>rfl)|fail) only[go_sem,Qg2,Qac,List.contains_cons,List.contains_nil,List.flatMap_cons,List.flatMap_nil,List.append_nil]) (by omega) (by simp) (by omega) (by omega)]
  simp+decide (disch:=try exact D3 h3 h4 h1) only[go_sem,h3,h4,h1]
  refine Qo (R-(i+1)) (by omega) ⟨i+1,rfl,by omega,?_⟩
  simp+decide (disch:=try exact E1 h1) only[go_sem,h1,Qac,List.contains_cons,List.contains_nil,List.flatMap_cons,List.flatMap_nil,List.append_nil]
 ·obtain rfl:i=R:=by omega
  simp+decide (disch:=try exact E2 h3 hh) only[go_sem,h3,hh,Qac,List.contains_cons,List.contains_nil,List.flatMap_cons,List.flatMap_nil,List.append_nil]
  refine Qet (Qba ?_)
  simp+decide (disch:=try exact E2 h3 hh) only[go_sem,h3,hh,Qac,List.contains_cons,List.contains_nil,List.flatMap_cons,List.flatMap_nil,List.append_nil]
  refine Qc ?_ rfl
  rw[List.take_of_length_le (by simp)];rfl
theorem Qaa4{x y:Nat->Rat}{c:Rat}{w k:Nat}(hw:w<=2^30)(hx:∀i,i<w->rs (x i)<=k)(hy:∀i,i<w->rs (y i)<=k)(hc:rs c<=k)(hk:k<=2^32):
  Qd Tryz.prog 162 [.sl 3 (Qad PV.rat x w),.sl 3 (Qad PV.rat y w),PV.rat c] (· = .sl 3 (Qad PV.rat (Qd6 x y c) w)):=by
 have h:=Q4v (w:=w) (x:=x) (y:=y) (c:= -c) hw hx hy (by rw[Qke];exact hc) hk
 have e:(fun i=>x i- -c*y i)=Qd6 x y c:=by
  funext i
  unfold Qd6
  rw[Rat.neg_mul,Rat.sub_eq_add_neg,Rat.neg_neg]
 rw[e]at h
 refine Qf Qq Tryz.func162 rfl Qalo (by simp[c162]) fun C hP=> ?_;simp only[c162,Zo,Zg,Zm,Zc,Zf,Zl,Zh,Zs,Zi,Zb,Zk,Zn,Zu,Zq,Zr,Zz]
 simp+decide (disch:=try exact D0) only[go_sem]
 refine Qa hP (Qtj hc (by omega)) rfl rfl rfl ?_
 simp+decide (disch:=try exact D0) only[go_sem]
 refine Qa hP h rfl rfl rfl ?_
 simp+decide (disch:=try exact D0) only[go_sem]
 exact Qc rfl rfl
theorem Qvl{M:MF}{f:LF}{R k:Nat}(hR:R<=40)(hM:MBd k R R M)(hw:rs f.1<=k)(hf:∀c,c<R->rs (f.2 c)<=k)(hk:k<=2^30):
  Qd Tryz.prog 163 [.sl 1 (Qad (PV.rowD R) M R),.sl 3 (Qad PV.rat f.2 R),PV.rat f.1] (· = .sl 1 (Qad (PV.rowD R) (Qc1 M f) R)):=by
 have hrl:(Qad (PV.rowD R) M R).length=R:=Qa0 _ _ _
 refine Qf Qq Tryz.func163 rfl Qam7 (by simp[c163]) fun C hP=> ?_;simp only[c163,Zo,Zg,Zm,Zc,Zf,Zl,Zh,Zs,Zi,Zb,Zk,Zn,Zu,Zq,Zr,Zz]
 simp+decide (disch:=try exact D1 hrl) only[go_sem,hrl]
 refine Qce 7 900 1 22 (by omega) T0 ?_
 refine Qz (by repeat (first|exact Qn|exact Qi|exact Qj|exact Qk|exact Ql|apply Qh|apply Qm|apply Qt|apply Qx|apply Qy|apply Qg|apply Qr)) [(7,29)] [28,29,900] (fun n J hp=>∃i,n=R-i/\i<=R/\J 7= .ms 900 i/\J 8= .int .i64 (i:Nat)/\hp 5=some ⟨3,51,[PV.rat f.1],false⟩/\hp 900=some ⟨1,22,(List.range i).map (fun r=>PV.rowD R (Qc1 M f r)),false⟩) R ?_ ?_
 ·refine⟨0,rfl,by omega,?_⟩
  simp+decide (disch:=try exact D0) only[go_sem]
  exact⟨rfl,rfl⟩
 rintro _ J h ⟨i,rfl,hi,h7,h8,h5,hh⟩
 simp+decide (disch:=try exact D3 h7 h8 hrl) only[go_sem,h7,h8,hrl]
 refine Qb (fun hg=> ?_) (fun hg=> ?_)
 ·have hi':i<R:=by omega
  have hfi:=hf i hi'
  have hm:=Qdc f.1 (f.2 i)
  have c1:=Qpc (a:=f.1) (b:=f.2 i) (k:=k) hw hfi (by omega)
  have c2:=Q4v (w:=R) (x:=M i) (y:=f.2) (c:=f.1*f.2 i) (k:=2*k) (by omega) (fun c hc=>by have:=hM i hi' c hc;omega) (fun c hc=>by have:=hf c hc;omega) (by omega) (by omega)
  repeat' first
   |refine Qda ?_ ?_
   |refine Qa hP c1 rfl rfl rfl ?_
   |refine Qa hP c2 rfl rfl rfl ?_
   |simp+decide (disch:=try exact D3 h7 h8 h5) only[go_sem,h7,h8,h5]
  all_goals
   rw[Qaf (f:=fun r=>PV.rowD R (Qc1 M f r)) (y:=i) (xs:=List.range i) (ty':=22) (fz:=false) (U1 hh) Tr0 (by omega) (by simp) (by omega) (by omega)]
   simp+decide (disch:=try exact D3 h7 h8 h5) only[go_sem,h7,h8,h5]
   refine Qo (R-(i+1)) (by omega) ⟨i+1,rfl,by omega,?_⟩
   simp+decide (disch:=try exact E1 h5) only[go_sem,h5,Qac,List.contains_cons,List.contains_nil,List.flatMap_cons,List.flatMap_nil,List.append_nil]
 ·obtain rfl:i=R:=by omega
  simp+decide (disch:=try exact E2 h7 hh) only[go_sem,h7,hh,Qac,List.contains_cons,List.contains_nil,List.flatMap_cons,List.flatMap_nil,List.append_nil]
  refine Qc ?_ rfl
  rw[List.take_of_length_le (by simp)];rfl
theorem Q1w{R:Nat}{l:List Rat}(hl:l.length=R*R)(hR2:R<=40)(hs:∀q∈l,rs q<=1048576):Qd Tryz.prog 160 [PV.mat R R l] (· = .bool (decide (Qhl (Qai l R) R))):=by
 refine Qf Qq Tryz.func160 rfl Qaln (by simp[c160]) fun C hP=> ?_;simp only[c160,Zo,Zg,Zm,Zc,Zf,Zl,Zh,Zs,Zi,Zb,Zk,Zn,Zu,Zq,Zr,Zz]
 simp+decide (disch:=try exact D0) only[go_sem]
 refine Qz (by repeat (first|exact Qn|exact Qi|exact Qj|exact Qk|exact Ql|apply Qh|apply Qm|apply Qt|apply Qx|apply Qy|apply Qg|apply Qr)) [(2,25)] [] (fun q J hp=>∃i,q=R-i/\i<=R/\J 3= .int .i64 (i:Nat)/\hp 1=some ⟨3,24,[PV.mat R R l],false⟩/\∀j,j<i->∀k,k<j->Qai l R j k=Qai l R k j) R ?_ ?_
 ·refine⟨0,rfl,by omega,?_⟩
  simp+decide (disch:=try exact D0) only[go_sem]
  exact⟨rfl,fun j hj=>by omega⟩
 rintro _ J h ⟨i,rfl,hi,h3,h1,hs1⟩
 simp+decide (disch:=try exact D2 h3 h1) only[go_sem,h3,h1]
 refine Qb (fun hc=> ?_) (fun hc=> ?_)
 ·have hi':i<R:=by omega
  simp+decide (disch:=try exact D2 h3 h1) only[go_sem,h3,h1]
  refine Qz (by repeat (first|exact Qn|exact Qi|exact Qj|exact Qk|exact Ql|apply Qh|apply Qm|apply Qt|apply Qx|apply Qy|apply Qg|apply Qr)) [(2,2),(4,4),(11,25)] [] (fun q J hp=>∃k,q=i-k/\k<=i/\J 4= .int .i64 (k:Nat)/\h=hp/\∀j,j<k->Qai l R i j=Qai l R j i) i ?_ ?_
  ·refine⟨0,rfl,by omega,?_⟩
   simp+decide (disch:=try exact D0) only[go_sem]
   exact⟨rfl,fun j hj=>by omega⟩
  rintro _ J2 _ ⟨k,rfl,hk,i4,rfl,is⟩
  simp+decide (disch:=try exact D2 i4 h3) only[go_sem,i4,h3]
  refine Qb (fun hc2=> ?_) (fun hc2=> ?_)
  ·have hk':k<i:=by omega
   have c1:=Qpi hl hR2 hR2 hi' (show k<R by omega) hs
   have c2:=Qpi hl hR2 hR2 (show k<R by omega) hi' hs
   have b1:=Qjm (m:=R) (r:=i) (c:=k) (by omega) hs
   have b2:=Qjm (m:=R) (r:=k) (c:=i) (by omega) hs
   have c3:=Qu6 (a:=Qai l R i k) (b:=Qai l R k i) b1 b2 (by omega)
   obtain⟨x,hx⟩:∃x,Qai l R i k=x:=⟨_,rfl⟩
   obtain⟨y,hy⟩:∃y,Qai l R k i=y:=⟨_,rfl⟩
   rw[hx]at c1 c3
   rw[hy]at c2 c3
   by_cases e:x=y
   ·rw[decide_eq_true e]at c3
    repeat' first
     |refine Qda ?_ ?_
     |refine Qa hP c1 rfl rfl rfl ?_
     |refine Qa hP c2 rfl rfl rfl ?_
     |refine Qa hP c3 rfl rfl rfl ?_
     |simp+decide (disch:=try exact D3 i4 h3 h1) only[go_sem,i4,h3,h1]
    all_goals
     refine Qo (i-(k+1)) (by omega) ⟨k+1,rfl,by omega,?_⟩
     simp+decide (disch:=try exact D0) only[go_sem]
     intro j hj
     by_cases e2:j=k
     ·subst e2;rw[hx,hy,e]
     ·exact is j (by omega)
   ·rw[decide_eq_false e]at c3
    repeat' first
     |refine Qda ?_ ?_
     |refine Qa hP c1 rfl rfl rfl ?_
     |refine Qa hP c2 rfl rfl rfl ?_
     |refine Qa hP c3 rfl rfl rfl ?_
     |simp+decide (disch:=try exact D3 i4 h3 h1) only[go_sem,i4,h3,h1]
    all_goals
     refine Qc ?_ rfl
     rw[decide_eq_false]
     exact fun hsy=>e (by rw[<-hx,<-hy];exact hsy i hi' k hk')
  ·have hki:k=i:=by omega
   subst hki
   simp+decide (disch:=try exact D1 h3) only[go_sem,h3]
   simp (disch:=decide) only[Qa3,Qbg]
   refine Qo (R-(k+1)) (by omega) ⟨k+1,rfl,by omega,?_⟩
   simp+decide (disch:=try exact D1 h1) only[go_sem,h1]
   intro j hj k' hk'
   by_cases e:j=k
   ·subst e;exact is k' (by omega)
   ·exact hs1 j (by omega) k' hk'
 ·simp+decide (disch:=try exact D0) only[go_sem]
  refine Qc ?_ rfl
  rw[decide_eq_true]
  exact fun j hj k hk=>hs1 j (by omega) k hk
def pvR(R:Nat)(M:MF):PV:=
 if Qb9 M R<R then .tup [.int .i64 (Qb9 M R:Nat),.int .i64 (Qb9 M R:Nat),.bool true]
 else if Qbp M R<R then .tup [.int .i64 (Qbp M R:Nat),.int .i64 (Qc3 M R (Qbp M R):Nat),.bool true]
 else .tup [.int .i64 0,.int .i64 0,.bool false]
theorem Qag4{R k:Nat}{M:MF}(hR:R<=40)(hs:Sym R M)(hM:MBd k R R M)(hk:k<=2^30):Qd Tryz.prog 161 [.sl 1 (Qad (PV.rowD R) M R)] (· =pvR R M):=by
 have hrl:(Qad (PV.rowD R) M R).length=R:=Qa0 _ _ _
 refine Qf Qq Tryz.func161 rfl Qam6 (by simp[c161]) fun C hP=> ?_;simp only[c161,Zo,Zg,Zm,Zc,Zf,Zl,Zh,Zs,Zi,Zb,Zk,Zn,Zu,Zq,Zr,Zz]
 simp+decide (disch:=try exact D1 hrl) only[go_sem,hrl]
 refine Qz (by repeat (first|exact Qn|exact Qi|exact Qj|exact Qk|exact Ql|apply Qh|apply Qm|apply Qt|apply Qx|apply Qy|apply Qg|apply Qr)) [(2,5),(8,24)] [] (fun q J hp=>∃i,q=R-i/\i<=R/\J 5= .int .i64 (i:Nat)/\∀j,j<i->M j j=0) R ?_ ?_
 ·refine⟨0,rfl,by omega,?_⟩
  simp+decide (disch:=try exact D0) only[go_sem]
  exact⟨rfl,fun j hj=>by omega⟩
 rintro _ J h ⟨i,rfl,hi,h5,hz⟩
 simp+decide (disch:=try exact D2 h5 hrl) only[go_sem,h5,hrl]
 refine Qb (fun hc=> ?_) (fun hc=> ?_)
 ·have hi':i<R:=by omega
  have b1:=hM i hi' i hi'
  simp+decide (disch:=try exact D1 h5) only[go_sem,h5]
  refine Qa hP (Qkj (a:=M i i) (by omega)) rfl rfl rfl ?_
  simp+decide (disch:=try exact D1 h5) only[go_sem,h5]
  refine Qb (fun he=> ?_) (fun he=> ?_)
  ·have hne:M i i≠0:=fun e=>he (Qav.2 e)
   have hdi:Qb9 M R=i:=Qjl (Nat.zero_le _) (by omega) (decide_eq_true hne) fun j _ hj=>decide_eq_false (fun h=>h (hz j hj))
   simp+decide (disch:=try exact D1 h5) only[go_sem,h5]
   refine Qhi ?_ rfl rfl rfl (Qab _) (Qab _) (Qab _)
   unfold pvR
   rw[hdi,if_pos hi']
  ·simp+decide (disch:=try exact D1 h5) only[go_sem,h5]
   refine Qo (R-(i+1)) (by omega) ⟨i+1,rfl,by omega,?_⟩
   simp+decide (disch:=try exact D0) only[go_sem]
   intro j hj
   by_cases e:j=i
   ·subst e;exact Qav.1 (Classical.not_not.1 he)
   ·exact hz j (by omega)
 ·obtain rfl:i=R:=by omega
  have hnd:¬Qb9 M i<i:=by
   have:Qb9 M i=0+i:=Qhe fun j _ hj=>decide_eq_false (fun h=>h (hz j (by omega)))
   omega
  simp+decide (disch:=try exact D0) only[go_sem]
  refine Qz (by repeat (first|exact Qn|exact Qi|exact Qj|exact Qk|exact Ql|apply Qh|apply Qm|apply Qt|apply Qx|apply Qy|apply Qg|apply Qr)) [(2,4),(6,7),(25,49)] [] (fun q J hp=>∃a,q=i-a/\a<=i/\J 6= .int .i64 (a:Nat)/\∀j,j<a->∀k,k<i->M j k=0) i ?_ ?_
  ·refine⟨0,rfl,by omega,?_⟩
   simp+decide (disch:=try exact D0) only[go_sem]
   exact⟨rfl,fun j hj=>by omega⟩
  rintro _ J1 h1 ⟨a,rfl,ha,a6,az⟩
  simp+decide (disch:=try exact D2 a6 hrl) only[go_sem,a6,hrl]
  refine Qb (fun hca=> ?_) (fun hca=> ?_)
  ·have ha':a<i:=by omega
   simp+decide (disch:=try exact D1 a6) only[go_sem,a6]
   refine Qz (by repeat (first|exact Qn|exact Qi|exact Qj|exact Qk|exact Ql|apply Qh|apply Qm|apply Qt|apply Qx|apply Qy|apply Qg|apply Qr)) [(2,4),(7,7),(33,49)] [] (fun q J hp=>∃b,q=i-b/\a<b/\b<=i/\J 7= .int .i64 (b:Nat)/\∀k,k<b->M a k=0) (i-(a+1)) ?_ ?_
   ·refine⟨a+1,rfl,by omega,by omega,?_⟩
    simp+decide (disch:=try exact D0) only[go_sem]
    intro k hk
    by_cases e:k=a
    ·subst e;exact hz k (by omega)
    ·rw[hs a ha' k (by omega)];exact az k (by omega) a ha'
   rintro _ J2 h2 ⟨b,rfl,hab,hb,b7,bz⟩
   simp+decide (disch:=try exact D2 b7 hrl) only[go_sem,b7,hrl]
   refine Qb (fun hcb=> ?_) (fun hcb=> ?_)
   ·have hb':b<i:=by omega
    have b1:=hM a ha' b hb'
    simp+decide (disch:=try exact D2 b7 a6) only[go_sem,b7,a6]
    refine Qa hP (Qkj (a:=M a b) (by omega)) rfl rfl rfl ?_
    simp+decide (disch:=try exact D2 b7 a6) only[go_sem,b7,a6]
    refine Qb (fun he=> ?_) (fun he=> ?_)
    ·have hne:M a b≠0:=fun e=>he (Qav.2 e)
     have hci:Qc3 M i a=b:=Qjl (Nat.zero_le _) (by omega) (decide_eq_true hne) fun j _ hj=>decide_eq_false (fun h=>h (bz j hj))
     have hri:Qbp M i=a:=Qjl (Nat.zero_le _) (by omega) (decide_eq_true (by rw[hci];exact hb')) fun j _ hj=>decide_eq_false (fun h=>by
      have:Qc3 M i j=0+i:=Qhe fun k _ hk=>decide_eq_false (fun h2=>h2 (az j (by omega) k (by omega)))
      omega)
     simp+decide (disch:=try exact D2 b7 a6) only[go_sem,b7,a6]
     refine Qhi ?_ rfl rfl rfl (Qab _) (Qab _) (Qab _)
     unfold pvR
     rw[if_neg hnd,hri,if_pos ha',hci]
    ·simp+decide (disch:=try exact D1 b7) only[go_sem,b7]
     refine Qo (i-(b+1)) (by omega) ⟨b+1,rfl,by omega,by omega,?_⟩
     simp+decide (disch:=try exact D0) only[go_sem]
     intro k hk
     by_cases e:k=b
     ·subst e;exact Qav.1 (Classical.not_not.1 he)
     ·exact bz k (by omega)
   ·simp+decide (disch:=try exact D1 a6) only[go_sem,a6]
    simp (disch:=decide) only[Qa3,Qbg]
    refine Qo (i-(a+1)) (by omega) ⟨a+1,rfl,by omega,?_⟩
    simp+decide (disch:=try exact D0) only[go_sem]
    intro j hj k hk
    by_cases e:j=a
    ·subst e;exact bz k (by omega)
    ·exact az j (by omega) k hk
  ·simp+decide (disch:=try exact D0) only[go_sem]
   refine Qhi ?_ rfl rfl rfl (Qab _) (Qab _) (Qab _)
   have e1:¬Qbp M i<i:=by
    have:Qbp M i=0+i:=Qhe fun j _ hj=>decide_eq_false (fun h=>by
     have:Qc3 M i j=0+i:=Qhe fun k _ hk=>decide_eq_false (fun h2=>h2 (az j (by omega) k (by omega)))
     omega)
    omega
   unfold pvR
   rw[if_neg hnd,if_neg e1]
def c93:SFn:=⟨132,[.t 2,.cell 3 3 true,.t 4],Zr (Zo (.box 1 3 24 (.t 0))<|
 Zo (.mv 2 (.c .nilS))<|
 Zo (.alloc 3 3 24 (.agg [Zz 0,Zz 0,.nilS]))<|
 Zc 4 0 .nil)<| .seq (Zr (Zh 17 3 1<|
 Zq 18 false 57 [.t 17]<|
 Zu 19 18 .nil)<| .cond (.t 19) (Zr (Zo (.bld 20 [Zz 0,Zz 0,.nilS] [])<|
 Zo (.mv 2 (.c .nilS))<|
 Zs 3 3 20<|
 Zc 4 1 .nil) .ret) .skip)<| .seq (Zr (Zf 21 0 1<|
 Zl 22 1 21<|
 Zf 23 1 1<|
 Zl 24 1 23<|
 Zb 25 .neq 22 24<|
 Zm 26 25<|
 Zg 26 false (.ld 27 3 true (.t 1))<|
 Zg 26 false (.call (some 28) false (.c (.fn 160 [] [])) [.t 27])<|
 Zg 26 false (.un 29 .not (.t 28))<|
 Zo (.pick 30 (.t 26) (.c (.bool true)) (.t 29)) .nil)<| .cond (.t 30) (Zr (Zo (.bld 31 [Zz 0,Zz 0,.nilS] [])<|
 Zo (.mv 2 (.c .nilS))<|
 Zs 3 3 31<|
 Zc 4 16 .nil) .ret) .skip)<|Zr (Zh 32 3 1<|
 Zq 33 false 59 [.t 32]<|
 Zm 5 33 .nil)<|Zr (Zo (.mv 6 (.c .nilS)) .nil)<|Zr (Zf 34 1 1<|
 Zl 35 1 34<|
 Zo (.bld 36 [Zz 0,Zz 0,.nilS] [(1,1,.t 35)])<|
 Zo (.alloc 7 3 24 (.agg [Zz 0,Zz 0,.nilS]))<|
 .wk<| .wk<|Zs 3 7 36<|
 .wk .nil)<| .seq (.block 0<| .loop<| .block 1<|Zr (Zm 38 5<|
 Zq 39 false 161 [.t 38]<|
 Zm 37 39<|
 Zo (.ext 40 (.t 37) 0)<|
 Zo (.ext 41 (.t 37) 1)<|
 Zo (.ext 42 (.t 37) 2)<|
 Zm 8 40<|
 Zm 9 41<|
 Zm 10 42 .nil)<| .seq (Zr (Zm 43 10<|
 Zu 44 43 .nil)<| .cond (.t 44) (.exit 0) .skip)<|Zr (Zm 45 5<|
 Zm 46 8<|
 Zi 47 1 45 46<|
 Zl 48 1 47<|
 Zm 49 9<|
 Zi 50 3 48 49<|
 Zh 51 3 50<|
 Zo (.alloc 11 3 51 (.agg [.bool false,.nilS,.nilS]))<|
 Zs 3 11 51 .nil)<|Zr (Zm 52 5<|
 Zm 53 8<|
 Zi 54 1 52 53<|
 Zl 55 1 54<|
 Zh 56 3 11<|
 Zq 57 false 125 [.t 55,.t 56]<|
 Zo (.bs 58 1 22 [.t 57])<|
 Zm 12 58 .nil)<|Zr (Zh 59 3 11<|
 Zo (.bs 60 3 51 [.t 59])<|
 Zm 13 60 .nil)<| .seq (Zr (Zm 61 8<|
 Zm 62 9<|
 Zb 63 .neq 61 62 .nil)<| .cond (.t 63) (Zr (Zh 66 3 11<|
 .br (Zq 65 true 51 [.c (Zz 1),.c (Zz 2)]<|
 .br (Zq 67 true 143 [.t 65,.t 66]<|
 Zm 64 67<|
 Zo (.ext 68 (.t 64) 0)<|
 Zo (.ext 69 (.t 64) 1)<|
 Zo (.alloc 14 3 51 (.agg [.bool false,.nilS,.nilS]))<|
 Zs 3 14 68<|
 Zm 15 69 .nil) (Zo (.alloc 14 3 51 (.agg [.bool false,.nilS,.nilS]))<|
 Zq 67 true 143 [.t 65,.t 66]<|
 Zm 64 67<|
 Zo (.ext 68 (.t 64) 0)<|
 Zo (.ext 69 (.t 64) 1)<|
 Zs 3 14 68<|
 Zm 15 69 .nil)) (Zo (.alloc 14 3 51 (.agg [.bool false,.nilS,.nilS]))<|
 Zq 65 true 51 [.c (Zz 1),.c (Zz 2)]<|
 Zq 67 true 143 [.t 65,.t 66]<|
 Zm 64 67<|
 Zo (.ext 68 (.t 64) 0)<|
 Zo (.ext 69 (.t 64) 1)<|
 Zs 3 14 68<|
 Zm 15 69 .nil))<|Zr (Zm 70 5<|
 Zm 71 8<|
 Zi 72 1 70 71<|
 Zl 73 1 72<|
 Zm 74 5<|
 Zm 75 9<|
 Zi 76 1 74 75<|
 Zl 77 1 76<|
 Zm 80 5<|
 Zm 81 8<|
 Zi 82 1 80 81<|
 Zl 83 1 82<|
 Zm 84 5<|
 Zm 85 9<|
 Zi 86 1 84 85<|
 Zl 87 1 86<|
 Zq 78 true 50 [.c (Zz 1)]<|
 Zq 79 true 162 [.t 73,.t 77,.t 78]<|
 Zq 88 true 50 [.c (Zz (-1))]<|
 Zq 89 true 162 [.t 83,.t 87,.t 88]<|
 Zo (.bs 90 1 22 [.t 79,.t 89])<|
 Zm 12 90 .nil)<| .rg (Zh 91 3 14<|
 Zh 92 3 14<|
 Zq 93 true 63 [.t 92]<|
 Zo (.bs 94 3 51 [.t 91,.t 93])<|
 Zm 13 94 .nil)) .skip)<|Zr (Zc 16 0 .nil)<| .block 2<| .loop<| .seq (Zr (Zm 95 16<|
 Zm 96 12<|
 Zn 97 96<|
 Zb 98 .lss 95 97 .nil)<| .cond (.t 98) .skip (.exit 2))<| .seq (.block 3<|Zr (Zm 101 5<|
 Zm 102 12<|
 Zm 103 16<|
 Zi 104 1 102 103<|
 Zl 105 1 104<|
 Zm 106 13<|
 Zm 107 16<|
 Zi 108 3 106 107<|
 Zh 109 3 108<|
 Zq 110 false 163 [.t 101,.t 105,.t 109]<|
 Zm 5 110 .nil)<|Zr (Zm 111 6<|
 Zm 112 13<|
 Zm 113 16<|
 Zi 114 3 112 113<|
 Zh 115 3 114<|
 Zo (.bs 116 3 51 [.t 115])<|
 Zo (.app 117 3 56 51 (.t 111) (.t 116))<|
 Zm 6 117 .nil)<|Zr (Zf 118 0 7<|
 Zl 119 1 118<|
 Zk 120 .add 119 1<|
 Zf 121 0 7<|
 Zs 1 121 120 .nil)<| .rg (Zf 122 2 7<|
 Zl 123 1 122<|
 Zm 124 12<|
 Zm 125 16<|
 Zi 126 1 124 125<|
 Zl 127 1 126<|
 Zo (.app 128 3 56 51 (.t 123) (.t 127))<|
 Zf 129 2 7<|
 Zs 1 129 128 .nil))<| .rg (Zm 99 16<|
 Zk 100 .add 99 1<|
 Zm 16 100 .nil))<|Zr (Zm 130 6<|
 Zh 131 3 7<|
 .wk<|Zm 2 130<|
 Zs 3 3 131<|
 Zc 4 0 .nil) .ret⟩
theorem Qaq5:Qe Tryz.prog Tryz.f93=some c93.strip:=by kernel_rfl
theorem Qam8{α:Rat}(h:α≠0):((1:Int):Rat)/((2:Int):Rat)/α=1/(α+α):=by
 have h2:α+α≠0:=fun e=>h (by grind)
 have e1:((1:Int):Rat)/((2:Int):Rat)*(((2:Int):Rat))=1:=by decide+kernel
 have e2:((2:Int):Rat)=2:=rfl
 rw[e2]at e1⊢
 grind
theorem Q1x{R:Nat}{M:MF}(h:Qhl M R):Sym R M:=fun i hi k hk=>by
 rcases Nat.lt_trichotomy i k with e|e|e
 ·exact(h k hk i e).symm
 ·rw[e]
 ·exact h i hi k e
theorem Qaa5{R:Nat}{l:List Rat}(hl:l.length=R*R)(hR2:R<=5)(hs3:∀q∈l,rs q<=3)(hsym:Qhl (Qai l R) R):
  Qd Tryz.prog 93 [PV.mat R R l] (· =Qtk R (Qan R (Qai l R) (2*R)).2):=by
 have hs:∀q∈l,rs q<=1048576:=fun q hq=>by have:=hs3 q hq;omega
 have c1:=Q1w hl (by omega) hs
 rw[decide_eq_true hsym]at c1
 have c2:=Q1v hl (show R<=40 by omega) (by omega)
 have hz:([.agg [.int .i64 0,.int .i64 0,.nilS]]:List PV)≠[]:=by simp
 have hzd:∀x∈([.agg [.int .i64 0,.int .i64 0,.nilS]]:List PV),x.ncells=x.cells:=fun x hx=>by rw[List.mem_singleton.1 hx];rfl
 have hM3:MBd 3 R R (Qai l R):=fun r _ c _=>Qjm (by omega) hs3
 have hSym:=Q1x hsym
 obtain⟨M,hM⟩:∃M,Qai l R=M:=⟨_,rfl⟩
 rw[hM]at c2 hM3 hSym⊢
 have hRB:Q1q 50421 R R M:=fun k hk=>by
  have h:=Q41 (n:=R) hSym (by omega) hM3 k hk
  have e:3*7^R<=3*7^5:=Nat.mul_le_mul_left _ (Nat.pow_le_pow_right (by omega) hR2)
  exact⟨fun r hr c hc=>Nat.le_trans (h.1 r hr c hc) e,fun f hf=>⟨Nat.le_trans (h.2.1 f hf).1 e,fun c hc=>Nat.le_trans ((h.2.1 f hf).2 c hc) e⟩,fun j hj r hr c hc=>Nat.le_trans (h.2.2 j hj r hr c hc) e⟩
 refine Qea Qq Tryz.func93 rfl Qaq5 (by simp[c93]) fun C hP=> ?_;simp only[c93,Zo,Zg,Zm,Zc,Zf,Zl,Zh,Zs,Zi,Zb,Zk,Zn,Zu,Zq,Zr,Zz]
 simp+decide (disch:=try exact D0) only[go_sem]
 refine Qa hP (Qsw hl (by omega) (by omega) hs) rfl rfl rfl ?_
 simp+decide (disch:=try exact D0) only[go_sem]
 repeat' first
  |refine Qda ?_ ?_
  |refine Qa hP c1 rfl rfl rfl ?_
  |refine Qa hP c2 rfl rfl rfl ?_
  |simp+decide (disch:=try exact D0) only[go_sem]
 refine Qb4 (Qht 7 2000001 Tr0 (by omega) rfl (by omega)) ?_
 refine Qb4 (Qki (γ:=2000001) (e:=3) (ty:=24) (fz:=false) T0 hz (by omega) hzd) ?_
 simp+decide (disch:=try exact D0) only[go_sem]
 refine Qb4 (Qpg (γ:=2000001) (e:=3) (ty:=24) (cs:=[.int .i64 0,.int .i64 (R:Nat),.nilS]) (cs':=[.int .i64 0,.int .i64 (R:Nat),.mso 2000002 0 0]) 2000002 3 51 T0 Tr0 (by omega) (by omega) rfl (by simp)) ?_
 simp+decide (disch:=try exact D0) only[go_sem]
 refine Qce 6 900 3 51 (by omega) T0 ?_
 refine Qbn (by repeat (first|exact Qn|exact Qi|exact Qj|exact Qk|exact Ql|apply Qh|apply Qm|apply Qt|apply Qx|apply Qy|apply Qg|apply Qr)) [(5,16),(37,129),(2000001,2000001)] [11,14,58,60,90,94,116,117,128,900] (fun q J hp=>∃k,q=R-k/\(∀j,j<k->Qbf (Qan R M j).1 R≠[])/\J 5= .sl 1 (Qad (PV.rowD R) (Qan R M k).1 R)/\J 6= .ms 900 (Qan R M k).2.length/\J 7= .np 2000001 0 0/\J 2000001= .nst 2000001 3 24 [Qph R (Qan R M k).2.length]/\
   hp 3=some ⟨3,24,[.agg [.int .i64 0,.int .i64 0,.nilS]],false⟩/\hp 2000001=some ⟨3,24,[],false⟩/\hp 2000002=some ⟨3,51,(Qcj R (Qan R M k).2).map PV.rat,false⟩/\hp 900=some ⟨3,51,((Qan R M k).2.map (·.1)).map PV.rat,false⟩) R ?_ ?_
 ·refine⟨0,rfl,(fun j hj=>by omega),?_⟩
  simp+decide (disch:=try exact D0) only[go_sem]
  exact⟨rfl,rfl,by simp[Qan],rfl,rfl⟩
 rintro _ J h ⟨k,rfl,hbef,j5,j6,j7,jb,h3,hb,hx,h9⟩
 have hnz:=Q42 hSym (by omega) hM3 k hbef
 have hkR:k<=R:=by omega
 obtain⟨hSk,_⟩:=Qpk hSym (b:=3) (by omega) hM3 k
 have hBk:=hRB k hkR
 have hlk:=Qjz R M k
 have hpv:=Qag4 (k:=50421) (by omega) hSk hBk.1 (by omega)
 simp+decide (disch:=try exact D4 j5 j6 j7 jb) only[go_sem,j5,j6,j7,jb]
 refine Qa hP hpv rfl rfl rfl ?_
 have hn1:(Qan R M (k+1)).1=Qdf (Qan R M k).1 (Qbf (Qan R M k).1 R):=rfl
 have hn2:(Qan R M (k+1)).2=(Qan R M k).2++Qbf (Qan R M k).1 R:=rfl
 by_cases hnx:Qbf (Qan R M k).1 R=[]
 ·have hd:¬Qb9 (Qan R M k).1 R<R:=fun h=>by unfold Qbf at hnx;rw[if_pos h]at hnx;cases hnx
  have hr:¬Qbp (Qan R M k).1 R<R:=fun h=>by unfold Qbf at hnx;rw[if_neg hd,if_pos h]at hnx;cases hnx
  have hfin:=Qtm hnx (2*R-k)
  rw[show k+(2*R-k)=2*R by omega]at hfin
  rw[hfin]
  unfold pvR
  rw[if_neg hd,if_neg hr]
  have hfl:=Qeb R (Qan R M k).2
  simp+decide (disch:=try exact D8 j5 j6 j7 jb h3 hb hx h9) only[go_sem,j5,j6,j7,jb,h3,hb,hx,h9]
  refine Qnx 131 2 [2000002] (p:=Qph R (Qan R M k).2.length) T0 (D:=PV.mat (Qan R M k).2.length R (Qcj R (Qan R M k).2)) ?_ ?_ rfl ?_
  ·intro c hc
   simp only[List.mem_cons,List.not_mem_nil,or_false]at hc
   rcases hc with rfl|rfl|rfl
   ·trivial
   ·trivial
   ·simp only[okD,isY];simp
  ·show PV.agg [_,_,dsn _ h 2 (.mso 2000002 0 _)]=_
   simp only[dsn,hx,List.drop_zero]
   rw[List.take_of_length_le (by rw[List.length_map,hfl];omega)]
  simp+decide (disch:=try exact E6 j6 j7 jb h3 hb h9) only[go_sem,j6,j7,jb,h3,hb,h9,Qac,List.contains_cons,List.contains_nil,List.flatMap_cons,List.flatMap_nil,List.append_nil]
  refine Qet (Q5x ?_)
  simp+decide (disch:=try exact E2 h3 h9) only[go_sem,h3,h9,Qac,List.contains_cons,List.contains_nil,List.flatMap_cons,List.flatMap_nil,List.append_nil]
  rw[List.take_of_length_le (by simp)]
  exact Qhi rfl rfl rfl rfl (Qab _) (Qab _) (Qab _)
 have hkR2:k<R:=by
  have:=Qam4 hSk hnx
  omega
 have hbef1:∀j,j<k+1->Qbf (Qan R M j).1 R≠[]:=fun j hj=>by
  by_cases e:j=k
  ·subst e;exact hnx
  ·exact hbef j (by omega)
 have hnl:=Ql5 (Qan R M k).1 R
 obtain⟨E,hE⟩:∃E,Qan R M k=E:=⟨_,rfl⟩
 rw[hE]at hBk hlk hn1 hn2 j5 j6 jb hx h9 hnx hnl hSk⊢
 obtain⟨N,fs⟩:=E
 simp only at hBk hlk hn1 hn2 j5 j6 jb hx h9 hnx hnl hSk⊢
 have hR0:0<R:=by omega
 by_cases hd:Qb9 N R<R
 ·have e0:pvR R N= .tup [.int .i64 (Qb9 N R:Nat),.int .i64 (Qb9 N R:Nat),.bool true]:=by unfold pvR;rw[if_pos hd]
  have e1:Qbf N R=[(N (Qb9 N R) (Qb9 N R),Qd6 (fun _=>0) (N (Qb9 N R)) (1/N (Qb9 N R) (Qb9 N R)))]:=by unfold Qbf;rw[if_pos hd]
  have h0:=Qtl hd
  obtain⟨L,hL⟩:∃L,Qbf N R=L:=⟨_,rfl⟩
  rw[hL]at hBk hnl hn1 hn2 e1 hnx
  rw[e0]
  generalize Qb9 N R=d at *
  have hdd:=hBk.1 d hd d hd
  have ho:=Q4w (x:=N d) (c:=N d d) (w:=R) (k:=50421) (by omega) (fun c hc=>hBk.1 d hd c hc) hdd h0 (by omega)
  have hrow:Qad PV.rat (fun c=>N d c/N d d) R=Qad PV.rat (Qd6 (fun _=>0) (N d) (1/N d d)) R:=Qcr fun c hc=>by
   show N d c/N d d=0+1/N d d*N d c
   rw[Rat.zero_add,Rat.div_def,Rat.div_def,Rat.one_mul,Rat.mul_comm]
  rw[hrow]at ho
  have hLl:L.length=1:=by rw[e1];rfl
  simp+decide (disch:=try exact D8 j5 j6 j7 jb h3 hb hx h9) only[go_sem,j5,j6,j7,jb,h3,hb,hx,h9]
  refine Qa hP ho rfl rfl rfl ?_
  simp+decide (disch:=try exact D8 j5 j6 j7 jb h3 hb hx h9) only[go_sem,j5,j6,j7,jb,h3,hb,hx,h9]
  refine Qbn (by repeat (first|exact Qn|exact Qi|exact Qj|exact Qk|exact Ql|apply Qh|apply Qm|apply Qt|apply Qx|apply Qy|apply Qg|apply Qr)) [(5,7),(16,16),(95,129),(2000001,2000001)] [116,117,128,900] (fun q J hp=>∃i,q=L.length-i/\i<=L.length/\J 5= .sl 1 (Qad (PV.rowD R) (Qdf N (L.take i)) R)/\J 6= .ms 900 (fs++L.take i).length/\J 7= .np 2000001 0 0/\J 16= .int .i64 (i:Nat)/\J 2000001= .nst 2000001 3 24 [Qph R (fs++L.take i).length]/\
    hp 3=some ⟨3,24,[.agg [.int .i64 0,.int .i64 0,.nilS]],false⟩/\hp 2000001=some ⟨3,24,[],false⟩/\hp 2000002=some ⟨3,51,(Qcj R (fs++L.take i)).map PV.rat,false⟩/\hp 900=some ⟨3,51,((fs++L.take i).map (·.1)).map PV.rat,false⟩/\
    hp 58=some ⟨1,22,L.map (fun f=>PV.rowD R f.2),false⟩/\hp 60=some ⟨3,51,L.map (fun f=>PV.rat f.1),false⟩) L.length ?_ ?_
  ·refine⟨0,rfl,by omega,?_⟩
   simp+decide (disch:=try exact D8 j5 j6 j7 jb h3 hb hx h9) only[go_sem,j5,j6,j7,jb,h3,hb,hx,h9]
   simp only[List.append_nil]
   refine⟨rfl,trivial,rfl,trivial,trivial,trivial,?_,?_⟩
   ·rw[e1];rfl
   ·rw[e1];rfl
  rintro _ J1 g ⟨i,rfl,hi,i5,i6,i7,i16,ib,g3,gb,gx,g9,gp,gq⟩
  simp+decide (disch:=try exact D1 i16) only[go_sem,i16]
  refine Qb (fun hci=> ?_) (fun hci=> ?_)
  ·have hi':i<L.length:=by omega
   have htk:L.take (i+1)=L.take i++[L[i]]:=List.take_succ_eq_append_getElem hi'
   have hfb:=hBk.2.1 _ (List.getElem_mem hi')
   have hMb:=hBk.2.2 i hi
   have hll:(fs++L.take i).length<=200:=by
    rw[List.length_append,List.length_take];omega
   have hfl2:=Qeb R (fs++L.take i)
   generalize hf:L[i]=f at *
   have hsn:=Qpe N (L.take i) f
   have hfsn:=Qpf R (fs++L.take i) f
   have hTk:fs++L.take (i+1)=(fs++L.take i)++[f]:=by rw[htk,<-List.append_assoc]
   rw[<-htk]at hsn
   generalize hT:fs++L.take i=T at *
   generalize hZ:Qdf N (L.take i)=Z at *
   have hTR:T.length*R<=200*5:=Nat.mul_le_mul hll hR2
   have hrl:(Qad PV.rat f.2 R).length=R:=Qa0 _ _ _
   have hw:=Qvl (M:=Z) (f:=f) (k:=50421) (by omega) hMb hfb.1 hfb.2 (by omega)
   simp+decide (disch:=try exact D12 i5 i6 i7 i16 ib g3 gb gx g9 gp gq hf) only[go_sem,i5,i6,i7,i16,ib,g3,gb,gx,g9,gp,gq,hf]
   refine Qa hP hw rfl rfl rfl ?_
   simp+decide (disch:=try exact D12 i5 i6 i7 i16 ib g3 gb gx g9 gp gq hf) only[go_sem,i5,i6,i7,i16,ib,g3,gb,gx,g9,gp,gq,hf]
   rw[Qaf (f:=PV.rat) (y:=f.1) (xs:=T.map (·.1)) (ty':=51) (fz:=false) (T1 g9) T0 (by omega) (by simp) (by omega) (by omega)]
   simp+decide (disch:=try exact D12 i5 i6 i7 i16 ib g3 gb gx g9 gp gq hf) only[go_sem,i5,i6,i7,i16,ib,g3,gb,gx,g9,gp,gq,hf]
   rw[Q1r (xs:=(Qcj R T).map PV.rat) (T1 gx) (by omega) (by rw[List.length_map,hfl2]) (Qnt hR0) (by rw[hrl];omega) (by rw[hrl];omega) (by omega),hrl]
   simp+decide (disch:=try exact D11 i5 i6 i7 i16 ib g3 gb gx g9 gp gq) only[go_sem,i5,i6,i7,i16,ib,g3,gb,gx,g9,gp,gq]
   refine Qa4 (L.length-(i+1)) (by omega) ⟨i+1,rfl,by omega,?_⟩
   rw[hTk,hsn]
   simp+decide (disch:=try exact D10 i5 i6 i7 ib g3 gb gx g9 gp gq) only[go_sem,i5,i6,i7,ib,g3,gb,gx,g9,gp,gq]
   refine⟨by rw[List.length_append];rfl,?_,?_,by simp⟩
   ·rw[List.length_append,List.length_singleton,show T.length*R+R=(T.length+1)*R from(Nat.succ_mul _ _).symm]
   ·rw[hfsn,List.map_append,Qg2]
  ·have hiL:i=L.length:=by omega
   subst hiL
   rw[List.take_length]at i5 i6 ib gx g9
   simp (disch:=decide) only[Qcb,Qci,Qbg,Qct]
   simp+decide (disch:=try exact D0) only[go_sem]
   refine Qa4 (R-(k+1)) (by omega) ⟨k+1,rfl,hbef1,?_⟩
   rw[hn1,hn2]
   simp+decide (disch:=try exact D8 i5 i6 i7 ib g3 gb gx g9) only[go_sem,i5,i6,i7,ib,g3,gb,gx,g9]
 ·have hr:Qbp N R<R:=by
   refine Classical.byContradiction fun h=>hnx ?_
   unfold Qbf;rw[if_neg hd,if_neg h]
  have hlt:=Qam5 hSk hd hr
  have hb0:=Qny hr
  have h0:=Qrq hb0
  have e0:pvR R N= .tup [.int .i64 (Qbp N R:Nat),.int .i64 (Qc3 N R (Qbp N R):Nat),.bool true]:=by unfold pvR;rw[if_neg hd,if_pos hr]
  have e1:Qbf N R=[(1/(N (Qbp N R) (Qc3 N R (Qbp N R))+N (Qbp N R) (Qc3 N R (Qbp N R))),Qd6 (N (Qbp N R)) (N (Qc3 N R (Qbp N R))) 1),(-(1/(N (Qbp N R) (Qc3 N R (Qbp N R))+N (Qbp N R) (Qc3 N R (Qbp N R)))),Qd6 (N (Qbp N R)) (N (Qc3 N R (Qbp N R))) (-1))]:=by unfold Qbf;rw[if_neg hd,if_pos hr]
  obtain⟨L,hL⟩:∃L,Qbf N R=L:=⟨_,rfl⟩
  rw[hL]at hBk hnl hn1 hn2 e1 hnx
  rw[e0]
  generalize Qbp N R=a at *
  generalize Qc3 N R a=d at *
  have hdd:=hBk.1 a hr d hb0
  have he:=Qam8 h0
  have ba:∀c,c<R->rs (N a c)<=50421:=fun c hc=>hBk.1 a hr c hc
  have bd:∀c,c<R->rs (N d c)<=50421:=fun c hc=>hBk.1 d hb0 c hc
  have q1:rs ((1:Int):Rat)<=1:=Qql
  have q2:rs ((-1:Int):Rat)<=1:=Q53
  have hh:rs (((1:Int):Rat)/((2:Int):Rat))<=10:=by decide+kernel
  have ho:=Q4w (x:=N a) (c:=N a d) (w:=R) (k:=50421) (by omega) ba hdd h0 (by omega)
  have hfr:=Q1k (x:=1) (y:=2) (by omega) (by omega) (by omega)
  have hdv:=Q1j (a:=((1:Int):Rat)/((2:Int):Rat)) (b:=N a d) (k:=50421) (by omega) hdd (by omega) h0
  have bw:=Qvf (a:=((1:Int):Rat)/((2:Int):Rat)) h0
  rw[he]at hdv bw
  have hng:=Qtj (a:=1/(N a d+N a d)) (k:=60000) (by omega) (by omega)
  have ho1:=Qi1 (x:=1) (by omega) (by omega)
  have ho2:=Qi1 (x:= -1) (by omega) (by omega)
  have hs1:=Qaa4 (x:=N a) (y:=N d) (c:=((1:Int):Rat)) (w:=R) (k:=50421) (by omega) ba bd (by omega) (by omega)
  have hs2:=Qaa4 (x:=N a) (y:=N d) (c:=((-1:Int):Rat)) (w:=R) (k:=50421) (by omega) ba bd (by omega) (by omega)
  have hLl:L.length=2:=by rw[e1];rfl
  rw[show(-1:Rat)=((-1:Int):Rat)from rfl,show(1:Rat)=((1:Int):Rat)from rfl]at e1
  rw[show(1:Rat)=((1:Int):Rat)from rfl]at hdv hng
  generalize((1:Int):Rat)/(N a d+N a d)=wt at *
  generalize((1:Int):Rat)/((2:Int):Rat)=hf2 at *
  generalize((1:Int):Rat)=u1 at *
  generalize((-1:Int):Rat)=u2 at *
  simp+decide (disch:=try exact D8 j5 j6 j7 jb h3 hb hx h9) only[go_sem,j5,j6,j7,jb,h3,hb,hx,h9]
  refine Qa hP ho rfl rfl rfl ?_
  simp+decide (disch:=try exact D8 j5 j6 j7 jb h3 hb hx h9) only[go_sem,j5,j6,j7,jb,h3,hb,hx,h9]
  refine Qve (by repeat (first|exact Qn|exact Qi|exact Qj|exact Qk|exact Ql|apply Qh|apply Qm|apply Qt|apply Qx|apply Qy|apply Qg|apply Qr)) [(7,7),(12,15),(64,94),(2000001,2000001)] [14,90,94] (fun J hp=>J 7= .np 2000001 0 0/\J 12= .ms 90 2/\J 13= .ms 94 2/\J 2000001= .nst 2000001 3 24 [Qph R fs.length]/\hp 3=some ⟨3,24,[.agg [.int .i64 0,.int .i64 0,.nilS]],false⟩/\hp 2000001=some ⟨3,24,[],false⟩/\hp 2000002=some ⟨3,51,(Qcj R fs).map PV.rat,false⟩/\hp 900=some ⟨3,51,(fs.map (·.1)).map PV.rat,false⟩/\
    hp 90=some ⟨1,22,L.map (fun f=>PV.rowD R f.2),false⟩/\hp 94=some ⟨3,51,L.map (fun f=>PV.rat f.1),false⟩) ?_ ?_
  ·refine Qb (fun _=> ?_) (fun h=>absurd h (by omega))
   repeat' first
    |refine Qda ?_ ?_
    |refine Qa hP hfr rfl rfl rfl ?_
    |refine Qa hP hdv rfl rfl rfl ?_
    |refine Qa hP hng rfl rfl rfl ?_
    |refine Qa hP ho1 rfl rfl rfl ?_
    |refine Qa hP ho2 rfl rfl rfl ?_
    |refine Qa hP hs1 rfl rfl rfl ?_
    |refine Qa hP hs2 rfl rfl rfl ?_
    |simp+decide (disch:=try exact D8 j5 j6 j7 jb h3 hb hx h9) only[go_sem,j5,j6,j7,jb,h3,hb,hx,h9]
   all_goals
    refine Qla ?_
    simp+decide (disch:=try exact D8 j5 j6 j7 jb h3 hb hx h9) only[go_sem,j5,j6,j7,jb,h3,hb,hx,h9]
    rw[e1]
    exact⟨rfl,rfl⟩
  clear h3 hb hx h9 j7 jb
  rintro J3 g ⟨j7,k12,k13,jb,h3,hb,hx,h9,kp,kq⟩
  simp (disch:=decide) only[Qcb,Qci,Qbg,Qct]
  simp+decide (disch:=try exact D10 j5 j6 j7 jb h3 hb hx h9 k12 k13) only[go_sem,j5,j6,j7,jb,h3,hb,hx,h9,k12,k13]
  refine Qbn (by repeat (first|exact Qn|exact Qi|exact Qj|exact Qk|exact Ql|apply Qh|apply Qm|apply Qt|apply Qx|apply Qy|apply Qg|apply Qr)) [(5,7),(16,16),(95,129),(2000001,2000001)] [116,117,128,900] (fun q J hp=>∃i,q=L.length-i/\i<=L.length/\J 5= .sl 1 (Qad (PV.rowD R) (Qdf N (L.take i)) R)/\J 6= .ms 900 (fs++L.take i).length/\J 7= .np 2000001 0 0/\J 16= .int .i64 (i:Nat)/\J 2000001= .nst 2000001 3 24 [Qph R (fs++L.take i).length]/\
    hp 3=some ⟨3,24,[.agg [.int .i64 0,.int .i64 0,.nilS]],false⟩/\hp 2000001=some ⟨3,24,[],false⟩/\hp 2000002=some ⟨3,51,(Qcj R (fs++L.take i)).map PV.rat,false⟩/\hp 900=some ⟨3,51,((fs++L.take i).map (·.1)).map PV.rat,false⟩/\
    hp 90=some ⟨1,22,L.map (fun f=>PV.rowD R f.2),false⟩/\hp 94=some ⟨3,51,L.map (fun f=>PV.rat f.1),false⟩) L.length ?_ ?_
  ·refine⟨0,rfl,by omega,?_⟩
   simp+decide (disch:=try exact D8 j5 j6 j7 jb h3 hb hx h9) only[go_sem,j5,j6,j7,jb,h3,hb,hx,h9]
   simp only[List.append_nil]
   refine⟨rfl,trivial,rfl,trivial,trivial,trivial,?_,?_⟩
   ·exact kp
   ·exact kq
  rintro _ J1 g ⟨i,rfl,hi,i5,i6,i7,i16,ib,g3,gb,gx,g9,gp,gq⟩
  simp+decide (disch:=try exact D3 i16 k12 k13) only[go_sem,i16,k12,k13]
  refine Qb (fun hci=> ?_) (fun hci=> ?_)
  ·have hi':i<L.length:=by omega
   have htk:L.take (i+1)=L.take i++[L[i]]:=List.take_succ_eq_append_getElem hi'
   have hfb:=hBk.2.1 _ (List.getElem_mem hi')
   have hMb:=hBk.2.2 i hi
   have hll:(fs++L.take i).length<=200:=by
    rw[List.length_append,List.length_take];omega
   have hfl2:=Qeb R (fs++L.take i)
   generalize hf:L[i]=f at *
   have hsn:=Qpe N (L.take i) f
   have hfsn:=Qpf R (fs++L.take i) f
   have hTk:fs++L.take (i+1)=(fs++L.take i)++[f]:=by rw[htk,<-List.append_assoc]
   rw[<-htk]at hsn
   generalize hT:fs++L.take i=T at *
   generalize hZ:Qdf N (L.take i)=Z at *
   have hTR:T.length*R<=200*5:=Nat.mul_le_mul hll hR2
   have hrl:(Qad PV.rat f.2 R).length=R:=Qa0 _ _ _
   have hw:=Qvl (M:=Z) (f:=f) (k:=50421) (by omega) hMb hfb.1 hfb.2 (by omega)
   simp+decide (disch:=try exact D14 i5 i6 i7 i16 ib g3 gb gx g9 gp gq hf k12 k13) only[go_sem,i5,i6,i7,i16,ib,g3,gb,gx,g9,gp,gq,hf,k12,k13]
   refine Qa hP hw rfl rfl rfl ?_
   simp+decide (disch:=try exact D14 i5 i6 i7 i16 ib g3 gb gx g9 gp gq hf k12 k13) only[go_sem,i5,i6,i7,i16,ib,g3,gb,gx,g9,gp,gq,hf,k12,k13]
   rw[Qaf (f:=PV.rat) (y:=f.1) (xs:=T.map (·.1)) (ty':=51) (fz:=false) (T1 g9) T0 (by omega) (by simp) (by omega) (by omega)]
   simp+decide (disch:=try exact D14 i5 i6 i7 i16 ib g3 gb gx g9 gp gq hf k12 k13) only[go_sem,i5,i6,i7,i16,ib,g3,gb,gx,g9,gp,gq,hf,k12,k13]
   rw[Q1r (xs:=(Qcj R T).map PV.rat) (T1 gx) (by omega) (by rw[List.length_map,hfl2]) (Qnt hR0) (by rw[hrl];omega) (by rw[hrl];omega) (by omega),hrl]
   simp+decide (disch:=try exact D13 i5 i6 i7 i16 ib g3 gb gx g9 gp gq k12 k13) only[go_sem,i5,i6,i7,i16,ib,g3,gb,gx,g9,gp,gq,k12,k13]
   refine Qa4 (L.length-(i+1)) (by omega) ⟨i+1,rfl,by omega,?_⟩
   rw[hTk,hsn]
   simp+decide (disch:=try exact D12 i5 i6 i7 ib g3 gb gx g9 gp gq k12 k13) only[go_sem,i5,i6,i7,ib,g3,gb,gx,g9,gp,gq,k12,k13]
   refine⟨by rw[List.length_append];rfl,?_,?_,by simp⟩
   ·rw[List.length_append,List.length_singleton,show T.length*R+R=(T.length+1)*R from(Nat.succ_mul _ _).symm]
   ·rw[hfsn,List.map_append,Qg2]
  ·have hiL:i=L.length:=by omega
   subst hiL
   rw[List.take_length]at i5 i6 ib gx g9
   simp (disch:=decide) only[Qcb,Qci,Qbg,Qct]
   simp+decide (disch:=try exact D0) only[go_sem]
   refine Qa4 (R-(k+1)) (by omega) ⟨k+1,rfl,hbef1,?_⟩
   rw[hn1,hn2]
   simp+decide (disch:=try exact D8 i5 i6 i7 ib g3 gb gx g9) only[go_sem,i5,i6,i7,ib,g3,gb,gx,g9]
theorem Qag5{l:List Rat}{k:Nat}(hl:l.length<=1048576)(hk:k<=1048576)(hs:∀q∈l,rs q<=k):Qdy (l.map qR):=⟨by rw[List.length_map];exact hl,RRk.of fun q hq=>Nat.le_trans (hs q hq) hk⟩
def Qfq(l:List Rat):Nat->Rat:=fun i=>l.getD i 0
theorem Qaa6(l:List Rat):Qad PV.rat (Qfq l) l.length=l.map PV.rat:=by
 refine List.ext_getElem (by simp[Qad]) fun j h1 h2=> ?_
 rw[Qeh,List.getElem_map]
 unfold Qfq
 rw[List.getD_eq_getElem?_getD,List.getElem?_eq_getElem (by simpa using h2)];rfl
theorem Qag6{l:List Rat}{k:Nat}(hk:1<=k)(h:∀q∈l,rs q<=k)(i:Nat):rs (Qfq l i)<=k:=by
 unfold Qfq
 rw[List.getD_eq_getElem?_getD]
 cases hq:l[i]? with
 |none=>have:=Qz8;show rs 0<=k;omega
 |some q=>exact h q (List.mem_of_getElem? hq)
abbrev redE(e:Int):PV:= .tup [PV.rqs [],PV.rmat 0 0 [],.int .i64 e]
theorem Qam9:PV.le .nilS (PV.rqs []):=trivial
theorem Q1y:Qd Tryz.prog 115 [.sl 1 []] (· = .bool true):=by
 refine Qea Qq Tryz.func115 rfl Q4q (by simp[Q04]) fun C hP=> ?_;simp only[Q04,Zo,Zg,Zm,Zc,Zf,Zl,Zh,Zs,Zi,Zb,Zk,Zn,Zu,Zq,Zr,Zz]
 simp+decide (disch:=try exact D0) only[go_sem]
 refine Qz (by repeat (first|exact Qn|exact Qi|exact Qj|exact Qk|exact Ql|apply Qh|apply Qm|apply Qt|apply Qx|apply Qy|apply Qg|apply Qr)) [(2,4),(7,31)] [] (fun q J hp=>J 7= .int .i64 (0:Nat)) 0 ?_ ?_
 ·simp+decide (disch:=try exact D0) only[go_sem]
  rfl
 rintro _ J h h7
 simp+decide (disch:=try exact D1 h7) only[go_sem,h7]
 refine Qet (Qba ?_)
 simp+decide (disch:=try exact D0) only[go_sem]
 exact Qc rfl rfl
theorem Qaa7:Qd Tryz.prog 48 [PV.mat 0 0 []] (· =redE 0):=by
 have c2:=Q3f (l:=[]) (R:=0) (m:=0) rfl (by omega) (by omega)
 have e:Qpd (Qai [] 0) 0 0=[]:=rfl
 rw[e]at c2
 refine Qea Qq Tryz.func48 rfl Qaaz (by simp[c48]) fun C hP=> ?_;simp only[c48,Zo,Zg,Zm,Zc,Zf,Zl,Zh,Zs,Zi,Zb,Zk,Zn,Zu,Zq,Zr,Zz]
 simp+decide (disch:=try exact D0) only[go_sem]
 refine Qa hP (Qk5 (R:=0) (m:=0) (l:=[]) rfl (by omega) (by omega) (fun q hq=>by cases hq)) rfl rfl rfl ?_
 simp+decide (disch:=try exact D0) only[go_sem]
 refine Qa hP c2 rfl rfl rfl ?_
 simp+decide (disch:=try exact D0) only[go_sem]
 refine Qa hP Q1y rfl rfl rfl ?_
 simp+decide (disch:=try exact D0) only[go_sem]
 refine Qb4 (Wk.refl _ _) ?_
 refine Qb4 (Wk.refl _ _) ?_
 refine Qb4 (Wk.refl _ _) ?_
 simp+decide (disch:=try exact D0) only[go_sem]
 refine Qz (by repeat (first|exact Qn|exact Qi|exact Qj|exact Qk|exact Ql|apply Qh|apply Qm|apply Qt|apply Qx|apply Qy|apply Qg|apply Qr)) [(2,2),(6,6),(8,9),(33,80)] [8,46,47,52] (fun q J hp=>J 33= .int .i64 (0:Nat)/\J 2= .nilS/\hp 3=some ⟨3,24,[.agg [.int .i64 0,.int .i64 0,.nilS]],false⟩) 0 ?_ ?_
 ·simp+decide (disch:=try exact D0) only[go_sem]
  exact⟨rfl,rfl⟩
 rintro _ J h ⟨h33,h2,h3⟩
 simp+decide (disch:=try exact D3 h33 h2 h3) only[go_sem,h33,h2,h3]
 refine Qb4 (Wk.refl _ _) ?_
 simp+decide (disch:=try exact D3 h33 h2 h3) only[go_sem,h33,h2,h3]
 refine Qet (Q5x ?_)
 simp+decide (disch:=try exact D3 h33 h2 h3) only[go_sem,h33,h2,h3]
 exact Qhi rfl rfl rfl rfl Qam9 Qako (Qab _)
theorem Q43{R K n:Nat}{M:MF}(hB:Q1q K R n M):∀k,k<=n->∀f∈(Qan R M k).2,rs f.1<=K/\∀c,c<R->rs (f.2 c)<=K
 |0,_,f,hf=>by simp[Qan]at hf
 |k+1,hk,f,hf=>by
  rw[Qq3]at hf
  rcases List.mem_append.1 hf with hf|hf
  ·exact Q43 hB k (by omega) f hf
  ·exact(hB k (by omega)).2.1 f hf
theorem Q3o{l:List RTm}{k:Nat}(hb:∀t∈l,RB k t)(hk1:1<=k)(hk:k<=2^24)(hll:l.length<=100):Qd Tryz.prog 91 [PV.rpoly l] (· =PV.poly (Qo3 l)):=by
 have hrs:∀t∈l,rs t.q<=k:=fun t ht=>(RB.raw (hb t ht) hk1).rs
 refine Qf Qq Tryz.func91 rfl Qapg (by simp[c91]) fun C hP=> ?_;simp only[c91,Zo,Zg,Zm,Zc,Zf,Zl,Zh,Zs,Zi,Zb,Zk,Zn,Zu,Zq,Zr,Zz]
 simp+decide (disch:=try exact D0) only[go_sem]
 refine Qce 3 900 1 37 (by omega) T0 ?_
 refine Qz (by repeat (first|exact Qn|exact Qi|exact Qj|exact Qk|exact Ql|apply Qh|apply Qm|apply Qt|apply Qx|apply Qy|apply Qg)) [(3,3),(5,7),(10,51)] [5,49,50,900] (fun n J hp=>∃i,n=l.length-i/\i<=l.length/\J 3= .ms 900 (Qdo (l.take i)).length/\J 10= .int .i64 (i:Nat)/\hp 900=some ⟨1,37,(Qdo (l.take i)).map PV.poly,false⟩) l.length ?_ ?_
 ·refine⟨0,rfl,by omega,?_⟩
  simp+decide (disch:=try exact D0) only[go_sem]
  exact⟨rfl,rfl,rfl⟩
 rintro _ J h ⟨i,rfl,hi,h3,h10,hh⟩
 simp+decide (disch:=try exact D2 h3 h10) only[go_sem,h3,h10]
 refine Qb (fun hg=> ?_) (fun hg=> ?_)
 ·have hi':i<l.length:=by omega
  have hbt:=hb _ (List.getElem_mem hi')
  have htk:=Q22 hi'
  have hpl:=Qhw (l.take i)
  rw[List.length_take]at hpl
  generalize hx:l[i]=x at *
  have hml:=hbt.l
  have htl:=Qe1 x.m
  have hrx:=(RB.raw hbt hk1).rs
  simp+decide (disch:=try exact D3 h3 h10 hx) only[go_sem,h3,h10,hx]
  refine Qz (by repeat (first|exact Qn|exact Qi|exact Qj|exact Qk|exact Ql|apply Qh|apply Qm|apply Qt|apply Qx|apply Qy|apply Qg)) [(6,6),(17,29)] [] (fun n J hp=>n<=x.m.length/\Qgx x.m n=Qbb x.m/\J 6= .int .i64 (n:Nat)/\hp 5=some ⟨4,95,[PV.rterm x],false⟩/\hp 900=some ⟨1,37,(Qdo (l.take i)).map PV.poly,false⟩) x.m.length ?_ ?_
  ·refine⟨by omega,rfl,?_⟩
   simp+decide (disch:=try exact D1 hh) only[go_sem,hh]
  rintro n J2 h2 ⟨hn,hc,h6,hh5,hh2⟩
  simp+decide (disch:=try exact D2 h6 hh5) only[go_sem,h6,hh5]
  refine Qaw (fun hg2=> ?_) (fun hg2=> ?_)
  ·obtain _|n:=n
   ·omega
   have e:((n+1:Nat):Int)-1=n:=by omega
   have hn':n<x.m.length:=by omega
   simp only[Qgx]at hc
   simp+decide (disch:=try exact D3 h6 hh5 e) only[go_sem,h6,hh5,e]
   refine Qb (fun hz=> ?_) (fun hz=> ?_)
   ·rw[if_pos (by simp[hz,hn'])]at hc
    simp+decide (disch:=try exact D3 h6 hh5 e) only[go_sem,h6,hh5,e]
    refine Qo n (by omega) ⟨by omega,hc,?_⟩
    simp+decide (disch:=try exact D2 hh5 hh2) only[go_sem,hh5,hh2]
   ·rw[if_neg (by simpa[hn']using hz)]at hc
    simp+decide (disch:=try exact D3 h6 hh5 e) only[go_sem,h6,hh5,e]
    rw[hc]
    refine Qa hP (Qgz (a:=Qbb x.m) (by omega)) rfl rfl rfl ?_
    simp+decide (disch:=try exact D4 h3 h10 h6 hh5) only[go_sem,h3,h10,h6,hh5]
    cases hmo:Qaj (Qbb x.m)
    ·rw[Qo5 hmo,Option.toList_none,List.filterMap_nil,List.append_nil]at htk
     simp+decide (disch:=try exact D4 h3 h10 h6 hh5) only[go_sem,h3,h10,h6,hh5]
     simp (disch:=decide) only[Qa3,Qbg]
     refine Qo (l.length-(i+1)) (by omega) ⟨i+1,rfl,by omega,?_⟩
     rw[htk]
     simp+decide (disch:=try exact D2 hh2 h3) only[go_sem,hh2,h3]
    rw[Qo4 hmo,Option.toList_some,List.filterMap_cons,List.filterMap_nil]at htk
    simp+decide (disch:=try exact D4 h3 h10 h6 hh5) only[go_sem,h3,h10,h6,hh5]
    refine Qa hP (Qqt (x:=0) (by omega) (by omega)) rfl rfl rfl ?_
    simp+decide (disch:=try exact D4 h3 h10 h6 hh5) only[go_sem,h3,h10,h6,hh5]
    refine Qa hP (Qu3 (RB.raw hbt hk1) (by omega)) rfl rfl rfl ?_
    simp+decide (disch:=try exact D4 h3 h10 h6 hh5) only[go_sem,h3,h10,h6,hh5]
    refine Qa hP (Qsh (a:=x.m) (by omega)) rfl rfl rfl ?_
    rw[if_pos hmo]
    simp+decide (disch:=try exact D4 h3 h10 h6 hh5) only[go_sem,h3,h10,h6,hh5]
    refine Qa hP (Qps (c:=rv x.n x.a x.d) (m:=Qbb x.m) (by omega)) rfl rfl rfl ?_
    by_cases hz:rv x.n x.a x.d=0
    ·rw[show Qhv (x.q,Qbb x.m)=none from if_pos hz,List.append_nil]at htk
     rw[if_pos hz]
     simp+decide (disch:=try exact D4 h3 h10 h6 hh5) only[go_sem,h3,h10,h6,hh5]
     simp (disch:=decide) only[Qa3,Qbg]
     refine Qo (l.length-(i+1)) (by omega) ⟨i+1,rfl,by omega,?_⟩
     rw[htk]
     simp+decide (disch:=try exact D2 hh2 h3) only[go_sem,hh2,h3]
    ·rw[show Qhv (x.q,Qbb x.m)=some [(x.q,Qbb x.m)]from if_neg hz]at htk
     rw[if_neg hz]
     simp+decide (disch:=try exact D4 h3 h10 h6 hh5) only[go_sem,h3,h10,h6,hh5]
     rw[Qaf (f:=PV.poly) (y:=[(rv x.n x.a x.d,Qbb x.m)]) (xs:=Qdo (l.take i)) (ty':=37) (fz:=false) (T1 hh2) Tr0 (by omega) rfl (by omega) (by omega)]
     simp+decide (disch:=try exact D4 h3 h10 h6 hh5) only[go_sem,h3,h10,h6,hh5]
     simp (disch:=decide) only[Qa3,Qbg]
     refine Qo (l.length-(i+1)) (by omega) ⟨i+1,rfl,by omega,?_⟩
     rw[htk]
     simp+decide (disch:=first|omega|rfl|(simp+decide only[go_sem,List.length_append]<;>rfl)|fail) only[go_sem,List.length_append]
     rfl
  ·obtain rfl:n=0:=by omega
   simp+decide (disch:=try exact D2 h6 hh5) only[go_sem,h6,hh5]
   refine Qa hP (Qgz (a:=[]) (by simp)) rfl rfl rfl ?_
   rw[show Qaj []=Qaj (Qbb x.m)by rw[<-hc];rfl]
   simp+decide (disch:=try exact D4 h3 h10 h6 hh5) only[go_sem,h3,h10,h6,hh5]
   cases hmo:Qaj (Qbb x.m)
   ·rw[Qo5 hmo,Option.toList_none,List.filterMap_nil,List.append_nil]at htk
    simp+decide (disch:=try exact D4 h3 h10 h6 hh5) only[go_sem,h3,h10,h6,hh5]
    simp (disch:=decide) only[Qa3,Qbg]
    refine Qo (l.length-(i+1)) (by omega) ⟨i+1,rfl,by omega,?_⟩
    rw[htk]
    simp+decide (disch:=try exact D2 hh2 h3) only[go_sem,hh2,h3]
   rw[Qo4 hmo,Option.toList_some,List.filterMap_cons,List.filterMap_nil]at htk
   simp+decide (disch:=try exact D4 h3 h10 h6 hh5) only[go_sem,h3,h10,h6,hh5]
   refine Qa hP (Qqt (x:=0) (by omega) (by omega)) rfl rfl rfl ?_
   simp+decide (disch:=try exact D4 h3 h10 h6 hh5) only[go_sem,h3,h10,h6,hh5]
   refine Qa hP (Qu3 (RB.raw hbt hk1) (by omega)) rfl rfl rfl ?_
   simp+decide (disch:=try exact D4 h3 h10 h6 hh5) only[go_sem,h3,h10,h6,hh5]
   refine Qa hP (Qsh (a:=x.m) (by omega)) rfl rfl rfl ?_
   rw[if_pos hmo]
   simp+decide (disch:=try exact D4 h3 h10 h6 hh5) only[go_sem,h3,h10,h6,hh5]
   refine Qa hP (Qps (c:=rv x.n x.a x.d) (m:=Qbb x.m) (by omega)) rfl rfl rfl ?_
   by_cases hz:rv x.n x.a x.d=0
   ·rw[show Qhv (x.q,Qbb x.m)=none from if_pos hz,List.append_nil]at htk
    rw[if_pos hz]
    simp+decide (disch:=try exact D4 h3 h10 h6 hh5) only[go_sem,h3,h10,h6,hh5]
    simp (disch:=decide) only[Qa3,Qbg]
    refine Qo (l.length-(i+1)) (by omega) ⟨i+1,rfl,by omega,?_⟩
    rw[htk]
    simp+decide (disch:=try exact D2 hh2 h3) only[go_sem,hh2,h3]
   ·rw[show Qhv (x.q,Qbb x.m)=some [(x.q,Qbb x.m)]from if_neg hz]at htk
    rw[if_neg hz]
    simp+decide (disch:=try exact D4 h3 h10 h6 hh5) only[go_sem,h3,h10,h6,hh5]
    rw[Qaf (f:=PV.poly) (y:=[(rv x.n x.a x.d,Qbb x.m)]) (xs:=Qdo (l.take i)) (ty':=37) (fz:=false) (T1 hh2) Tr0 (by omega) rfl (by omega) (by omega)]
    simp+decide (disch:=try exact D4 h3 h10 h6 hh5) only[go_sem,h3,h10,h6,hh5]
    simp (disch:=decide) only[Qa3,Qbg]
    refine Qo (l.length-(i+1)) (by omega) ⟨i+1,rfl,by omega,?_⟩
    rw[htk]
    simp+decide (disch:=first|omega|rfl|(simp+decide only[go_sem,List.length_append]<;>rfl)|fail) only[go_sem,List.length_append]
    rfl
 ·obtain rfl:i=l.length:=by omega
  rw[List.take_length]at hh h3
  have hpl:=Qhw l
  have hpn:=Qsc l
  have hK:(Qdo l).length*(k+1)<=100*(2^24+1):=Nat.mul_le_mul (by omega) (by omega)
  simp+decide (disch:=try exact D2 h3 hh) only[go_sem,h3,hh]
  refine Qdr hP (Q6u (K:=k+1) (E:=1048576) (by omega) _ (Qdo l) (Nat.le_refl _) (Qxq hrs) (by omega) (by omega) (by omega)) (by simp+decide (disch:=try exact E1 hh) only[go_sem,hh,Qac,List.contains_cons,List.contains_nil,List.flatMap_cons,List.flatMap_nil,List.append_nil];simp[List.take_of_length_le]) rfl ?_
  simp+decide (disch:=try exact D0) only[go_sem]
  exact Qc rfl rfl
abbrev PV.sqs(l:List Sq):PV:= .sl 4 (l.map PV.sq)
theorem Q44:PV.le .nilS (PV.sqs []):=trivial
def Qia(L:List Tm):List Tm:=Qo3 (L.map toR)
def Qf6(bs:List (List Int))(f:LF):List Tm:=(List.range bs.length).map fun k=>(f.2 k,bs.getD k [])
def fgS(bs:List (List Int))(f:LF):Sq:=(f.1,Qia (Qf6 bs f))
def fgR(bs:List (List Int))(fs:List LF):PV:=if(fs.all fun f=>decide (0<=f.1))=true then .tup [PV.sqs (fs.map (fgS bs)),.int .i64 0]else .tup [PV.sqs [],.int .i64 17]
theorem Qaso(t:Tm):(toR t).q=t.1:=Qca t.1
theorem Q1z{L:List Tm}{k:Nat}(hb:∀t∈L,rs t.1<=k/\t.2.length<2^40)(hk1:1<=k)(hk:k<=2^24)(hl:L.length<=100):Qd Tryz.prog 91 [PV.poly L] (· =PV.poly (Qia L)):=by
 have h:=Q3o (l:=L.map toR) (k:=k) (fun t ht=>by
  obtain⟨s,hs,rfl⟩:=List.mem_map.1 ht
  exact Q0x (hb s hs).1 (hb s hs).2) hk1 hk (by rw[List.length_map];exact hl)
 rwa[Qtg]at h
theorem Qaa8{L:List Tm}{k:Nat}(hb:∀t∈L,rs t.1<=k/\t.2.length<2^40)(hk1:1<=k)(hk:k<=2^24)(hl:L.length<=100):Qd Tryz.prog 94 [PV.poly L] (· =PV.poly (Qia L)):=by
 have h:=Q1e (l:=L.map toR) (k:=k) (fun t ht=>by
  obtain⟨s,hs,rfl⟩:=List.mem_map.1 ht
  exact Q0x (hb s hs).1 (hb s hs).2) hk1 hk (by rw[List.length_map];exact hl)
 rwa[Qtg,Qxp]at h
theorem Qvm{L:List Tm}{k:Nat}(hb:∀t∈L,rs t.1<=k):PB (L.length*(k+1)) 1048576 (Qia L)/\(Qia L).length<=L.length/\Nrm (Qia L):=by
 have h:=Qsd (l:=L.map toR) (k:=k) (fun t ht=>by
  obtain⟨s,hs,rfl⟩:=List.mem_map.1 ht
  rw[Qaso];exact hb s hs)
 rw[List.length_map]at h
 exact⟨h.1,h.2,Qxo _⟩
theorem Qi4(bs:List (List Int))(f:LF):(Qf6 bs f).length=bs.length:=by simp[Qf6]
theorem Qx5{bs:List (List Int)}{f:LF}{k:Nat}(h:k<bs.length):(Qf6 bs f)[k]'(by rw[Qi4];exact h)=(f.2 k,bs[k]):=by
 simp[Qf6,h]
theorem Q69{bs:List (List Int)}{f:LF}{k:Nat}(h:k<bs.length):(Qf6 bs f).take (k+1)=(Qf6 bs f).take k++[(f.2 k,bs[k])]:=by
 rw[List.take_succ_eq_append_getElem (by rw[Qi4];exact h),Qx5 h]
theorem Qlp{R:Nat}:∀(fs:List LF)(i c:Nat)(hi:i<fs.length),c<R->(Qcj R fs).getD (i*R+c) 0=(fs[i]).2 c
 | [],i,c,hi,hc=>by simp at hi
 | f::fs,i,c,hi,hc=>by
  have e:Qcj R (f::fs)=(List.range R).map f.2++Qcj R fs:=by simp[Qcj]
  rw[e]
  cases i with
  |zero=>
   rw[Nat.zero_mul,Nat.zero_add,List.getD_eq_getElem?_getD,List.getElem?_append_left (by simpa using hc)]
   simp[hc]
  |succ i=>
   have ih:=Qlp (R:=R) fs i c (by simpa using hi) hc
   rw[List.getD_eq_getElem?_getD,List.getElem?_append_right (by simp[Nat.succ_mul];omega)]
   rw[List.getD_eq_getElem?_getD]at ih
   have e2:(i+1)*R+c-((List.range R).map f.2).length=i*R+c:=by simp[Nat.succ_mul];omega
   rw[e2,ih]
   simp
theorem Qana{R:Nat}{fs:List LF}{i c:Nat}(hi:i<fs.length)(hc:c<R):∃h:i*R+c<(Qcj R fs).length,(Qcj R fs)[i*R+c]=(fs[i]).2 c:=by
 have hl:i*R+c<(Qcj R fs).length:=by
  rw[Qeb]
  have:(i+1)*R<=fs.length*R:=Nat.mul_le_mul_right _ hi
  rw[Nat.succ_mul]at this
  omega
 refine⟨hl,?_⟩
 have:=Qlp (R:=R) fs i c hi hc
 rw[List.getD_eq_getElem?_getD,List.getElem?_eq_getElem hl]at this
 exact this
structure FgOk(K R:Nat)(bs:List (List Int))(fs:List LF):Prop where
 b:bs.length=R
 m:∀b∈bs,b.length<2^40
 r:R<=40
 l:fs.length<=200
 f:∀f∈fs,rs f.1<=K/\∀c,c<R->rs (f.2 c)<=K
 k:K<=2^24
 k1:1<=K
theorem FgOk.t{K R:Nat}{bs:List (List Int)}{fs:List LF}(h:FgOk K R bs fs){f:LF}(hf:f∈fs):∀t∈Qf6 bs f,rs t.1<=K/\t.2.length<2^40:=fun t ht=>by
 obtain⟨k,hk,rfl⟩:=List.getElem_of_mem ht
 rw[Qi4]at hk
 rw[Qx5 hk]
 exact⟨(h.f f hf).2 k (by have:=h.b;omega),h.m _ (List.getElem_mem _)⟩
theorem Qnz{K R:Nat}{bs:List (List Int)}{la:List Rat}{fs:List LF}(h:FgOk K R bs fs)(hcf:Qd Tryz.prog 90 [PV.monos bs,PV.mat R R la] (· = .int .i64 0))(hred:Qd Tryz.prog 48 [PV.mat R R la] (· =Qtk R fs)):
  Qd Tryz.prog 29 [PV.monos bs,PV.mat R R la] (· =fgR bs fs):=by
 have hbl:=h.b
 have hR:=h.r
 have hfl:=h.l
 have hflen:=Qeb R fs
 have hfR:fs.length*R<=200*40:=Nat.mul_le_mul hfl hR
 have hbad:∀i (hi:i<fs.length),fs[i].1<0->fgR bs fs= .tup [PV.sqs [],.int .i64 17]:=fun i hi h=>by
  have:(fs.all fun f=>decide (0<=f.1))=false:=by
   rw[List.all_eq_false];exact⟨_,List.getElem_mem hi,by simp;grind⟩
  rw[fgR,this,if_neg (by decide)]
 have hall:(∀j (h:j<fs.length),0<=fs[j].1)->fgR bs fs= .tup [PV.sqs (fs.map (fgS bs)),.int .i64 0]:=fun h=>by
  have:(fs.all fun f=>decide (0<=f.1))=true:=by
   rw[List.all_eq_true]
   intro t ht
   obtain⟨j,hj,rfl⟩:=List.getElem_of_mem ht
   exact decide_eq_true (h j hj)
  rw[fgR,if_pos this]
 have hWl:(fs.map (·.1)).length=fs.length:=List.length_map _
 have hWg:∀i (hi:i<fs.length) (hi2:i<(fs.map (·.1)).length),(fs.map (·.1))[i]=fs[i].1:=fun i hi hi2=>List.getElem_map ..
 unfold Qtk at hred
 generalize fs.map (·.1)=W at *
 refine Qf Qq Tryz.func29 rfl Qap8 (by simp[c29]) fun C hP=> ?_;simp only[c29,Zo,Zg,Zm,Zc,Zf,Zl,Zh,Zs,Zi,Zb,Zk,Zn,Zu,Zq,Zr,Zz]
 simp+decide (disch:=try exact D0) only[go_sem]
 refine Qa hP hcf rfl rfl rfl ?_
 simp+decide (disch:=try exact D0) only[go_sem]
 refine Qa hP hred rfl rfl rfl ?_
 simp+decide (disch:=try exact D0) only[go_sem]
 refine Qce 10 901 4 65 (by omega) T0 ?_
 refine Qz (by repeat (first|exact Qn|exact Qi|exact Qj|exact Qk|exact Ql|apply Qh|apply Qm|apply Qt|apply Qx|apply Qy|apply Qg|apply Qr)) [(4,5),(10,15),(33,71)] [12,61,62,69,70,900,901] (fun q J hp=>∃i,q=fs.length-i/\i<=fs.length/\(∀j (h:j<fs.length),j<i->0<=fs[j].1)/\J 10= .ms 901 i/\J 33= .int .i64 (i:Nat)/\hp 8=some ⟨3,24,[PV.mat fs.length R (Qcj R fs)],false⟩/\hp 901=some ⟨4,65,((fs.take i).map (fgS bs)).map PV.sq,false⟩) fs.length ?_ ?_
 ·refine⟨0,rfl,by omega,by omega,?_⟩
  simp+decide (disch:=try exact D0) only[go_sem]
  rfl
 rintro _ J h' ⟨i,rfl,hi,hpos,j10,j33,b8,b9⟩
 simp+decide (disch:=try exact D1 j33) only[go_sem,j33]
 refine Qb (fun hg=> ?_) (fun hg=> ?_)
 ·have hi':i<fs.length:=by omega
  have hmem:=List.getElem_mem hi'
  have hfm:=h.f _ hmem
  have hft:=h.t hmem
  have hat:=fun c (hc:c<R)=>Qana hi' hc
  have hbi:=hbad i hi'
  have hadd:0<=fs[i].1->∀j (h:j<fs.length),j<i+1->0<=fs[j].1:=fun h j hj hji=>by
   by_cases e:j=i
   ·subst e;exact h
   ·exact hpos j hj (by omega)
  have htk:(fs.take (i+1)).map (fgS bs)=(fs.take i).map (fgS bs)++[fgS bs fs[i]]:=by
   rw[List.take_succ_eq_append_getElem hi',List.map_append];rfl
  have hfi:fs[i]∈fs:=hmem
  generalize hx:fs[i]=f at *
  have hsg:=Qg0 (a:=f.1) (by have:=h.k;omega)
  have hsn:= @Qol f.1
  have hWi:=hWg i hi' (by omega)
  rw[hx]at hWi
  simp+decide (disch:=try exact D2 j33 hWi) only[go_sem,j33,hWi]
  refine Qa hP hsg rfl rfl rfl ?_
  simp+decide (disch:=try exact D0) only[go_sem]
  refine Qb (fun h0=> ?_) (fun h0=> ?_)
  ·simp+decide (disch:=try exact D0) only[go_sem]
   exact Qd8 (r:=fgR bs fs) (hbi (hsn.1 h0)) rfl rfl Q44 (Qab _)
  have hge:0<=f.1:=by
   have:¬f.1<0:=fun g=>h0 (hsn.2 g)
   grind
  have hfT:=Qi4 bs f
  simp+decide (disch:=try exact D0) only[go_sem]
  refine Qce 13 900 4 95 (by omega) T0 ?_
  refine Qz (by repeat (first|exact Qn|exact Qi|exact Qj|exact Qk|exact Ql|apply Qh|apply Qm|apply Qt|apply Qx|apply Qy|apply Qg|apply Qr)) [(13,15),(43,63)] [61,62,900] (fun q J hp=>∃k,q=bs.length-k/\k<=bs.length/\J 13= .ms 900 k/\J 43= .int .i64 (k:Nat)/\hp 8=some ⟨3,24,[PV.mat fs.length R (Qcj R fs)],false⟩/\hp 12=some ⟨3,51,[PV.rat f.1],false⟩/\hp 900=some ⟨4,95,((Qf6 bs f).take k).map PV.term,false⟩/\
    hp 901=some ⟨4,65,((fs.take i).map (fgS bs)).map PV.sq,false⟩) bs.length ?_ ?_
  ·refine⟨0,rfl,by omega,?_⟩
   simp+decide (disch:=try exact D2 b8 b9) only[go_sem,b8,b9]
   rfl
  rintro _ J2 h2 ⟨k,rfl,hk,g13,g43,c8,c12,c9,c1⟩
  simp+decide (disch:=try exact D1 g43) only[go_sem,g43]
  refine Qb (fun hg2=> ?_) (fun hg2=> ?_)
  ·have hk':k<bs.length:=by omega
   have hst:=Q69 (f:=f) hk'
   obtain⟨a1,a2⟩:=hat k (by omega)
   have hTl:((Qf6 bs f).take k).length=k:=by rw[List.length_take];omega
   generalize(Qf6 bs f).take k=T at *
   generalize hy:bs[k]=y at *
   simp+decide (disch:=first|omega|rfl|(simp+decide only[go_sem,g13,g43,j33,c8,c9,hy,a2]<;>rfl)|fail) only[go_sem,g13,g43,j33,c8,c9,hy,a2]
   rw[Qaf (f:=PV.term) (y:=(f.2 k,y)) (xs:=T) (ty':=95) (fz:=false) (T1 c9) Tr0 (by omega) hTl.symm (by omega) (by omega)]
   simp+decide (disch:=try exact D1 g43) only[go_sem,g43]
   refine Qo (bs.length-(k+1)) (by omega) ⟨k+1,rfl,by omega,?_⟩
   rw[hst]
   simp+decide (disch:=first|omega|rfl|(simp+decide only[go_sem,c8,c12,c1]<;>rfl)|fail) only[go_sem,c8,c12,c1]
  ·obtain rfl:k=bs.length:=by omega
   have hno:=Q1z (k:=K) hft h.k1 h.k (by omega)
   have hfull:(Qf6 bs f).take bs.length=Qf6 bs f:=List.take_of_length_le (by omega)
   rw[hfull]at c9
   have hsq:fgS bs f=(f.1,Qia (Qf6 bs f)):=rfl
   have hTl:((fs.take i).map (fgS bs)).length=i:=by rw[List.length_map,List.length_take];omega
   generalize(fs.take i).map (fgS bs)=T at *
   generalize Qf6 bs f=U at *
   have hsn2:List.take bs.length (U.map PV.term)=U.map PV.term:=List.take_of_length_le (by rw[List.length_map];omega)
   simp (disch:=decide) only[Qa3,Qbg,Qhq]
   simp+decide (disch:=first|omega|rfl|(simp+decide only[go_sem,j10,j33,g13,c8,c12,c9,c1]<;>rfl)|fail) only[go_sem,j10,j33,g13,c8,c12,c9,c1]
   refine Qdr hP hno (Ur2 hsn2 c9) rfl ?_
   generalize Qia U=V at *
   simp+decide (disch:=first|omega|rfl|(simp+decide only[go_sem,Qac,List.contains_cons,List.contains_nil,List.flatMap_cons,List.flatMap_nil,List.append_nil,j10,j33,g13,c8,c12,c9,c1]<;>rfl)|fail) only[go_sem,Qac,List.contains_cons,List.contains_nil,List.flatMap_cons,List.flatMap_nil,List.append_nil,j10,j33,g13,c8,c12,c9,c1]
   rw[Qaf (f:=PV.sq) (y:=(f.1,V)) (xs:=T) (ty':=65) (fz:=false) (U1 c1) Ur0 (by omega) hTl.symm (by omega) (by omega)]
   simp+decide (disch:=try exact E1 j33) only[go_sem,Qac,List.contains_cons,List.contains_nil,List.flatMap_cons,List.flatMap_nil,List.append_nil,j33]
   refine Qo (fs.length-(i+1)) (by omega) ⟨i+1,rfl,by omega,hadd hge,?_⟩
   rw[htk,hsq]
   simp+decide (disch:=first|omega|rfl|(simp+decide only[go_sem,Qac,List.contains_cons,List.contains_nil,List.flatMap_cons,List.flatMap_nil,List.append_nil,c8]<;>rfl)|fail) only[go_sem,Qac,List.contains_cons,List.contains_nil,List.flatMap_cons,List.flatMap_nil,List.append_nil,c8]
 ·obtain rfl:i=fs.length:=by omega
  have hr:=hall fun j hj=>hpos j hj hj
  have htf:((fs.take fs.length).map (fgS bs))=fs.map (fgS bs):=by rw[List.take_length]
  rw[htf]at b9
  have hsn2:List.take fs.length ((fs.map (fgS bs)).map PV.sq)=(fs.map (fgS bs)).map PV.sq:=List.take_of_length_le (by simp)
  simp+decide (disch:=try exact E3 j10 b9 hsn2) only[go_sem,j10,b9,Qac,List.contains_cons,List.contains_nil,List.flatMap_cons,List.flatMap_nil,List.append_nil,hsn2]
  exact Qd8 (r:=fgR bs fs) hr rfl rfl (Qab _) (Qab _)
theorem Q14{R:Nat}{la:List Rat}(hlen:la.length=R*R)(hr5:R<=5)(sl:∀q∈la,rs q<=3)(hsy:Qhl (Qai la R) R):
  ∃fs:List LF,fs=(Qan R (Qai la R) (2*R)).2/\Qd Tryz.prog 48 [PV.mat R R la] (· =Qtk R fs)/\Qd Tryz.prog 93 [PV.mat R R la] (· =Qtk R fs)/\fs.length<=20/\∀f∈fs,rs f.1<=50421/\∀c,c<R->rs (f.2 c)<=50421:=by
 have sl':∀q∈la,rs q<=1048576:=fun q hq=>by have:=sl q hq;omega
 have c2:=Qaa5 hlen hr5 sl hsy
 by_cases hR0:R=0
 ·subst hR0
  obtain rfl:la=[]:=List.eq_nil_of_length_eq_zero (by omega)
  refine⟨_,rfl,?_,c2,by simp[Qan],by simp[Qan]⟩
  have c1:=Qaa7
  exact c1
 ·have hSym:=Q1x hsy
  have hM3:MBd 3 R R (Qai la R):=fun r _ c _=>Qjm (by omega) sl
  have hRB:Q1q 50421 R (2*R) (Qai la R):=fun k hk=>by
   have h:=Q41 (n:=2*R) hSym (by omega) hM3 k hk
   have e:3*7^R<=3*7^5:=Nat.mul_le_mul_left _ (Nat.pow_le_pow_right (by omega) hr5)
   exact⟨fun r hr c hc=>Nat.le_trans (h.1 r hr c hc) e,fun f hf=>⟨Nat.le_trans (h.2.1 f hf).1 e,fun c hc=>Nat.le_trans ((h.2.1 f hf).2 c hc) e⟩,fun j hj r hr c hc=>Nat.le_trans (h.2.2 j hj r hr c hc) e⟩
  have c1:=Qagy hlen (by omega) (by omega) sl' (by omega) hRB hsy
  have hfs:=Q43 hRB (2*R) (Nat.le_refl _)
  have hln:=Qjz R (Qai la R) (2*R)
  exact⟨_,rfl,c1,c2,by omega,hfs⟩
end Go.Proofs.YtkoclfmjlolkhaaGreat
namespace Go.FW
open Go
variable {fr : Fr} {hp : HP}
theorem Qaq6{β e ty:Nat}{xs xs':List PV}{fz:Bool}(hβ:hp β=some ⟨e,ty,xs,fz⟩)(hl:xs'.length=xs.length)
  (hc:∀(i:Nat)(x x':PV),xs[i]? =some x->xs'[i]? =some x'->x'.isData=true/\x'.cells.length=x.cells.length/\∀(j:Nat)(y y':PV),x.cells[j]? =some y->x'.cells[j]? =some y'->PV.le1 y y'):
  Wk fr hp fr (Qw hp β ⟨e,ty,xs',fz⟩):=by
 rintro C tmps w ⟨ρ,hs⟩
 obtain⟨hp',hpE⟩:∃f,f=Qw hp β ⟨e,ty,xs',fz⟩:=⟨_,rfl⟩
 rw[<-hpE]
 have pβ:hp' β=some ⟨e,ty,xs',fz⟩:=by rw[hpE];simp[Qw]
 have po:∀γ,γ≠β->hp' γ=hp γ:=fun γ hγ=>by rw[hpE];simp[Qw,hγ]
 have back:∀(i:Nat)(x':PV),xs'[i]? =some x'->∃x,xs[i]? =some x:=fun i x' h=>by
  have hi:i<xs'.length:=(List.getElem?_eq_some_iff.1 h).1
  exact⟨xs[i]'(by omega),by simp⟩
 have hX:∀c,Xof C ρ hp' c->Xof C ρ hp c:=by
  rintro c (hx|⟨γ,hb,g1,g2,g3⟩)
  ·exact .inl hx
  ·by_cases hγ:γ=β
   ·subst hγ;rw[pβ]at g1;cases g1;exact .inr ⟨γ,_,hβ,g2,g3⟩
   ·rw[po γ hγ]at g1;exact .inr ⟨γ,hb,g1,g2,g3⟩
 have hst:Qh2 w w (Xof C ρ hp) (Xof C ρ hp'):=⟨fun _ _ _=>rfl,fun c _ hn h=>hn (hX c h),Nat.le_refl _⟩
 have c1:∀γ,Cnd ρ ρ hp hp' w w γ:=fun γ=>by
  by_cases hγ:γ=β
  ·subst hγ
   refine⟨rfl,fun hb hq=> ?_⟩
   rw[hβ]at hq;cases hq
   exact⟨_,pβ,rfl,by show xs.length<=xs'.length;omega,fun _ _ _ h=>h,fun h=>⟨List.eq_nil_of_length_eq_zero (by rw[show xs=[]from h]at hl;exact hl),rfl,fun _ _=>rfl⟩⟩
  ·exact⟨rfl,fun hb hq=>⟨hb,by rw[po γ hγ];exact hq,rfl,Nat.le_refl _,fun _ _ _ h=>h,fun h=>⟨h,rfl,fun _ _=>rfl⟩⟩⟩
 refine⟨ρ,hs.sz,hs.ext,hs.keep,fun γ hb1 hγ=> ?_,fun γ δ c g1 g2 g3 g4=> ?_,fun i=> ?_⟩
 ·by_cases hq:γ=β
  ·subst hq
   rw[pβ]at hγ;cases hγ
   have h:=hs.own γ _ hβ
   refine⟨h.epos,fun i x' hx'=> ?_,?_,h.fix,h.ro⟩
   ·obtain⟨x,hx⟩:=back i x' hx'
    obtain⟨d1,d2,_⟩:=hc i x x' hx hx'
    exact⟨d2.trans (h.len i x hx).1,d1⟩
   ·have hblk:=h.blk
    cases hr:ρ γ with
    |none=>
     rw[hr]at hblk
     exact List.eq_nil_of_length_eq_zero (by rw[show xs=[]from hblk]at hl;exact hl)
    |some b=>
     rw[hr]at hblk
     obtain⟨b1,b2,cur,cap,k1,k2,k3,k4,k5⟩:=hblk
     refine⟨b1,b2,cur,cap,k1,k2,by show xs'.length<=cap;have:xs.length<=cap:=k3;omega,k4,fun i x' hx' j y' hy'=> ?_⟩
     obtain⟨x,hx⟩:=back i x' hx'
     obtain⟨_,d2,d3⟩:=hc i x x' hx hx'
     have hj:j<x'.cells.length:=(List.getElem?_eq_some_iff.1 hy').1
     have hy:x.cells[j]? =some (x.cells[j]'(by omega)):=by simp
     exact((k5 i x hx j _ hy).le (d3 j _ y' hy hy')).sub hX
  ·rw[po γ hq]at hγ
   obtain⟨q1,q2,q3,q4,q5⟩:=hs.own γ hb1 hγ
   refine⟨q1,q2,?_,q4,q5⟩
   cases hr:ρ γ with
   |none=>rw[hr]at q3;exact q3
   |some c=>rw[hr]at q3;exact⟨q3.1,q3.2.1,q3.2.2.move rfl rfl rfl rfl hst.rc⟩
 ·have f:∀γ,hp' γ≠none->hp γ≠none:=fun γ hγ=>by
   by_cases hq:γ=β
   ·subst hq;simp[hβ]
   ·rwa[po γ hq]at hγ
  exact hs.inj γ δ c (f γ g1) (f δ g2) g3 g4
 ·exact(hs.slots i).move hst (fun γ _=>(c1 γ).o) (fun γ _=>(c1 γ).weak) (fun γ e' ty' ys _=>c1 γ)
end Go.FW
