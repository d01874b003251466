/- Part 14 of the proof of SquaresForms: B13, B14, B15, B12, B16, B17, B18, P7, Q5, Q6, Q7, FwXB. Own lemmas; no conditions. -/
import Derived.Test.YtkoclfmjlolkhaaGreatSquaresFormsPart13
set_option linter.unusedSimpArgs false
set_option linter.unusedVariables false
set_option linter.unnecessarySimpa false
set_option maxRecDepth 100000
namespace Go.Proofs.YtkoclfmjlolkhaaGreat
open Go Go.FW
def c161:SFn:=⟨50,[.t 2,.t 3,.t 4],Zr (Zc 2 0<|
 Zc 3 0<|
 Zo (.mv 4 (.c (.bool false))) .nil)<| .seq (Zr (Zc 5 0 .nil)<| .block 0<| .loop<| .seq (Zr (Zm 8 5<|
 Zm 9 0<|
 Zn 10 9<|
 Zb 11 .lss 8 10 .nil)<| .cond (.t 11) .skip (.exit 0))<| .seq (.block 1<|Zr (Zm 14 0<|
 Zm 15 5<|
 Zi 16 1 14 15<|
 Zl 17 1 16<|
 Zm 18 5<|
 Zi 19 3 17 18<|
 Zh 20 3 19<|
 Zq 21 false 27 [.t 20]<|
 Zk 22 .neq 21 0 .nil)<| .cond (.t 22) (Zr (Zm 23 5<|
 Zm 24 5<|
 Zm 2 23<|
 Zm 3 24<|
 Zo (.mv 4 (.c (.bool true))) .nil) .ret) .skip)<| .rg (Zm 12 5<|
 Zk 13 .add 12 1<|
 Zm 5 13 .nil))<| .seq (Zr (Zc 6 0 .nil)<| .block 2<| .loop<| .seq (Zr (Zm 25 6<|
 Zm 26 0<|
 Zn 27 26<|
 Zb 28 .lss 25 27 .nil)<| .cond (.t 28) .skip (.exit 2))<| .seq (.block 3<|Zr (Zm 31 6<|
 Zk 32 .add 31 1<|
 Zm 7 32 .nil)<| .block 4<| .loop<| .seq (Zr (Zm 33 7<|
 Zm 34 0<|
 Zn 35 34<|
 Zb 36 .lss 33 35 .nil)<| .cond (.t 36) .skip (.exit 4))<| .seq (.block 5<|Zr (Zm 39 0<|
 Zm 40 6<|
 Zi 41 1 39 40<|
 Zl 42 1 41<|
 Zm 43 7<|
 Zi 44 3 42 43<|
 Zh 45 3 44<|
 Zq 46 false 27 [.t 45]<|
 Zk 47 .neq 46 0 .nil)<| .cond (.t 47) (Zr (Zm 48 6<|
 Zm 49 7<|
 Zm 2 48<|
 Zm 3 49<|
 Zo (.mv 4 (.c (.bool true))) .nil) .ret) .skip)<| .rg (Zm 37 7<|
 Zk 38 .add 37 1<|
 Zm 7 38 .nil))<| .rg (Zm 29 6<|
 Zk 30 .add 29 1<|
 Zm 6 30 .nil))<|Zr (Zc 2 0<|
 Zc 3 0<|
 Zo (.mv 4 (.c (.bool false))) .nil) .ret⟩
theorem Qama:Qe Tryz.prog Tryz.f161=some c161:=by kernel_rfl
def c163:SFn:=⟨31,[.t 6],Zr (Zo (.box 5 3 51 (.t 2))<|
 Zo (.mv 6 (.c .nilS)) .nil)<|Zr (Zo (.mv 7 (.c .nilS)) .nil)<| .seq (Zr (Zc 8 0 .nil)<| .block 0<| .loop<| .seq (Zr (Zm 9 8<|
 Zm 10 0<|
 Zn 11 10<|
 Zb 12 .lss 9 11 .nil)<| .cond (.t 12) .skip (.exit 0))<| .seq (.block 1<| .rg (Zm 15 7<|
 Zm 16 0<|
 Zm 17 8<|
 Zi 18 1 16 17<|
 Zl 19 1 18<|
 Zm 20 1<|
 Zh 21 3 5<|
 Zm 22 1<|
 Zm 23 8<|
 Zi 24 3 22 23<|
 Zh 25 3 24<|
 Zq 26 true 85 [.t 21,.t 25]<|
 Zq 27 true 126 [.t 19,.t 20,.t 26]<|
 Zo (.bs 28 1 22 [.t 27])<|
 Zo (.app 29 1 24 22 (.t 15) (.t 28))<|
 Zm 7 29 .nil))<| .rg (Zm 13 8<|
 Zk 14 .add 13 1<|
 Zm 8 14 .nil))<|Zr (Zm 30 7<|
 Zm 6 30 .nil) .ret⟩
theorem Qamb:Qe Tryz.prog Tryz.f163=some c163:=by kernel_rfl
theorem Q1d{l:List Rat}{R m:Nat}(hl:l.length=R*m)(hR2:R<=40)(hm:m<=40):Qd Tryz.prog 59 [PV.mat R m l] (· = .sl 1 (Qad (PV.rowD m) (Qai l m) R)):=by
 refine Qd8 Qq Tryz.func59 rfl Qap0 (by simp[c59]) fun C hP=> ?_;simp only[c59,Zo,Zg,Zm,Zc,Zf,Zl,Zh,Zs,Zi,Zb,Zk,Zn,Zu,Zq,Zr,Zz]
 simp+decide (disch:=try exact D0) only[go_sem]
 refine Qcd 3 900 1 22 (by omega) T0 ?_
 refine Qaa (by repeat (first|exact Qn|exact Qi|exact Qj|exact Qk|exact Ql|apply Qh|apply Qm|apply Qt|apply Qx|apply Qy|apply Qg|apply Qr)) [(3,18)] [12,16,17,18,900] (fun n J hp=>∃i,n=R-i/\i<=R/\J 3= .ms 900 i/\J 4= .int .i64 (i:Nat)/\hp 1=some ⟨3,24,[PV.mat R m l],false⟩/\hp 900=some ⟨1,22,(List.range i).map (fun r=> .sl 3 (Qad PV.rat (Qai l m r) m)),false⟩) R ?_ ?_
 ·refine⟨0,rfl,by omega,?_⟩
  simp+decide (disch:=try exact D0) only[go_sem]
  exact⟨rfl,rfl⟩
 rintro _ J h ⟨i,rfl,hi,h3,h4,h1,hh⟩
 simp+decide (disch:=try exact D3 h3 h4 h1) only[go_sem,h3,h4,h1]
 refine Qb (fun hg=> ?_) (fun hg=> ?_)
 ·have hi':i<R:=by omega
  have c1:=Qap1 hl hi' hR2 hm
  have hml:((List.range m).map (Qai l m i)).length=m:=by simp
  rw[Qgz]at c1
  simp+decide (disch:=try exact D3 h3 h4 h1) only[go_sem,h3,h4,h1]
  rw[bs0 (by omega)]
  simp+decide (disch:=try exact D3 h3 h4 h1) only[go_sem,h3,h4,h1]
  refine Qa hP c1 rfl rfl rfl ?_
  simp+decide (disch:=try exact D3 h3 h4 h1) only[go_sem,h3,h4,h1]
  rw[Qdz (n:=0) (f:=PV.rat) (xs:=[]) (ys:=(List.range m).map (Qai l m i)) T0 rfl (by omega) (by omega) (by omega)]
  simp+decide (disch:=try exact D3 h3 h4 h1) only[go_sem,h3,h4,h1]
  rw[Qaq5 (e':=3) (ty':=51) (xs:=((List.range m).map (Qai l m i)).map PV.rat) (fz:=false) T0,List.take_of_length_le (by simp)]
  simp+decide (disch:=try exact D3 h3 h4 h1) only[go_sem,h3,h4,h1]
  rw[Qaf (f:=fun r=>PV.sl 3 (Qad PV.rat (Qai l m r) m)) (y:=i) (xs:=List.range i) (ty':=22) (fz:=false) (U1 hh) (by simp+decide (disch:=first|omega|rfl|(simp+decide only[go_sem,Qgz,Qab,List.contains_cons,List.contains_nil,List.flatMap_cons,List.flatMap_nil,List.append_nil]<;>rfl)|fail) only[go_sem,Qgz,Qab,List.contains_cons,List.contains_nil,List.flatMap_cons,List.flatMap_nil,List.append_nil]) (by omega) (by simp) (by omega) (by omega)]
  simp+decide (disch:=try exact D3 h3 h4 h1) only[go_sem,h3,h4,h1]
  refine Qp (R-(i+1)) (by omega) ⟨i+1,rfl,by omega,?_⟩
  simp+decide (disch:=try exact E1 h1) only[go_sem,h1,Qab,List.contains_cons,List.contains_nil,List.flatMap_cons,List.flatMap_nil,List.append_nil]
 ·obtain rfl:i=R:=by omega
  simp+decide (disch:=try exact E2 h3 hh) only[go_sem,h3,hh,Qab,List.contains_cons,List.contains_nil,List.flatMap_cons,List.flatMap_nil,List.append_nil]
  refine Qeq (Qa9 ?_)
  simp+decide (disch:=try exact E2 h3 hh) only[go_sem,h3,hh,Qab,List.contains_cons,List.contains_nil,List.flatMap_cons,List.flatMap_nil,List.append_nil]
  refine Qc ?_ rfl
  rw[List.take_of_length_le (by simp)];rfl
theorem Qaag{x y:Nat->Rat}{c:Rat}{w k:Nat}(hw:w<=2^30)(hx:∀i,i<w->rs (x i)<=k)(hy:∀i,i<w->rs (y i)<=k)(hc:rs c<=k)(hk:k<=2^32):
  Qd Tryz.prog 162 [.sl 3 (Qad PV.rat x w),.sl 3 (Qad PV.rat y w),PV.rat c] (· = .sl 3 (Qad PV.rat (Qd5 x y c) w)):=by
 have h:=Q36 (w:=w) (x:=x) (y:=y) (c:= -c) hw hx hy (by rw[Qj8];exact hc) hk
 have e:(fun i=>x i- -c*y i)=Qd5 x y c:=by
  funext i
  unfold Qd5
  rw[Rat.neg_mul,Rat.sub_eq_add_neg,Rat.neg_neg]
 rw[e]at h
 refine Qf Qq Tryz.func162 rfl Qaks (by simp[c162]) fun C hP=> ?_;simp only[c162,Zo,Zg,Zm,Zc,Zf,Zl,Zh,Zs,Zi,Zb,Zk,Zn,Zu,Zq,Zr,Zz]
 simp+decide (disch:=try exact D0) only[go_sem]
 refine Qa hP (Qta hc (by omega)) rfl rfl rfl ?_
 simp+decide (disch:=try exact D0) only[go_sem]
 refine Qa hP h rfl rfl rfl ?_
 simp+decide (disch:=try exact D0) only[go_sem]
 exact Qc rfl rfl
theorem Qva{M:MF}{f:LF}{R k:Nat}(hR:R<=40)(hM:MBd k R R M)(hw:rs f.1<=k)(hf:∀c,c<R->rs (f.2 c)<=k)(hk:k<=2^30):
  Qd Tryz.prog 163 [.sl 1 (Qad (PV.rowD R) M R),.sl 3 (Qad PV.rat f.2 R),PV.rat f.1] (· = .sl 1 (Qad (PV.rowD R) (Qcy M f) R)):=by
 have hrl:(Qad (PV.rowD R) M R).length=R:=Qa0 _ _ _
 refine Qf Qq Tryz.func163 rfl Qamb (by simp[c163]) fun C hP=> ?_;simp only[c163,Zo,Zg,Zm,Zc,Zf,Zl,Zh,Zs,Zi,Zb,Zk,Zn,Zu,Zq,Zr,Zz]
 simp+decide (disch:=try exact D1 hrl) only[go_sem,hrl]
 refine Qcd 7 900 1 22 (by omega) T0 ?_
 refine Qaa (by repeat (first|exact Qn|exact Qi|exact Qj|exact Qk|exact Ql|apply Qh|apply Qm|apply Qt|apply Qx|apply Qy|apply Qg|apply Qr)) [(7,29)] [28,29,900] (fun n J hp=>∃i,n=R-i/\i<=R/\J 7= .ms 900 i/\J 8= .int .i64 (i:Nat)/\hp 5=some ⟨3,51,[PV.rat f.1],false⟩/\hp 900=some ⟨1,22,(List.range i).map (fun r=>PV.rowD R (Qcy M f r)),false⟩) R ?_ ?_
 ·refine⟨0,rfl,by omega,?_⟩
  simp+decide (disch:=try exact D0) only[go_sem]
  exact⟨rfl,rfl⟩
 rintro _ J h ⟨i,rfl,hi,h7,h8,h5,hh⟩
 simp+decide (disch:=try exact D3 h7 h8 hrl) only[go_sem,h7,h8,hrl]
 refine Qb (fun hg=> ?_) (fun hg=> ?_)
 ·have hi':i<R:=by omega
  have hfi:=hf i hi'
  have hm:=Qdc f.1 (f.2 i)
  have c1:=Qpa (a:=f.1) (b:=f.2 i) (k:=k) hw hfi (by omega)
  have c2:=Q36 (w:=R) (x:=M i) (y:=f.2) (c:=f.1*f.2 i) (k:=2*k) (by omega) (fun c hc=>by have:=hM i hi' c hc;omega) (fun c hc=>by have:=hf c hc;omega) (by omega) (by omega)
  repeat' first
   |refine Qda ?_ ?_
   |refine Qa hP c1 rfl rfl rfl ?_
   |refine Qa hP c2 rfl rfl rfl ?_
   |simp+decide (disch:=try exact D3 h7 h8 h5) only[go_sem,h7,h8,h5]
  all_goals
   rw[Qaf (f:=fun r=>PV.rowD R (Qcy M f r)) (y:=i) (xs:=List.range i) (ty':=22) (fz:=false) (U1 hh) Tr0 (by omega) (by simp) (by omega) (by omega)]
   simp+decide (disch:=try exact D3 h7 h8 h5) only[go_sem,h7,h8,h5]
   refine Qp (R-(i+1)) (by omega) ⟨i+1,rfl,by omega,?_⟩
   simp+decide (disch:=try exact E1 h5) only[go_sem,h5,Qab,List.contains_cons,List.contains_nil,List.flatMap_cons,List.flatMap_nil,List.append_nil]
 ·obtain rfl:i=R:=by omega
  simp+decide (disch:=try exact E2 h7 hh) only[go_sem,h7,hh,Qab,List.contains_cons,List.contains_nil,List.flatMap_cons,List.flatMap_nil,List.append_nil]
  refine Qc ?_ rfl
  rw[List.take_of_length_le (by simp)];rfl
theorem Q1e{R:Nat}{l:List Rat}(hl:l.length=R*R)(hR2:R<=40)(hs:∀q∈l,rs q<=1048576):Qd Tryz.prog 160 [PV.mat R R l] (· = .bool (decide (Qhk (Qai l R) R))):=by
 refine Qf Qq Tryz.func160 rfl Qakr (by simp[c160]) fun C hP=> ?_;simp only[c160,Zo,Zg,Zm,Zc,Zf,Zl,Zh,Zs,Zi,Zb,Zk,Zn,Zu,Zq,Zr,Zz]
 simp+decide (disch:=try exact D0) only[go_sem]
 refine Qaa (by repeat (first|exact Qn|exact Qi|exact Qj|exact Qk|exact Ql|apply Qh|apply Qm|apply Qt|apply Qx|apply Qy|apply Qg|apply Qr)) [(2,25)] [] (fun q J hp=>∃i,q=R-i/\i<=R/\J 3= .int .i64 (i:Nat)/\hp 1=some ⟨3,24,[PV.mat R R l],false⟩/\∀j,j<i->∀k,k<j->Qai l R j k=Qai l R k j) R ?_ ?_
 ·refine⟨0,rfl,by omega,?_⟩
  simp+decide (disch:=try exact D0) only[go_sem]
  exact⟨rfl,fun j hj=>by omega⟩
 rintro _ J h ⟨i,rfl,hi,h3,h1,hs1⟩
 simp+decide (disch:=try exact D2 h3 h1) only[go_sem,h3,h1]
 refine Qb (fun hc=> ?_) (fun hc=> ?_)
 ·have hi':i<R:=by omega
  simp+decide (disch:=try exact D2 h3 h1) only[go_sem,h3,h1]
  refine Qaa (by repeat (first|exact Qn|exact Qi|exact Qj|exact Qk|exact Ql|apply Qh|apply Qm|apply Qt|apply Qx|apply Qy|apply Qg|apply Qr)) [(2,2),(4,4),(11,25)] [] (fun q J hp=>∃k,q=i-k/\k<=i/\J 4= .int .i64 (k:Nat)/\h=hp/\∀j,j<k->Qai l R i j=Qai l R j i) i ?_ ?_
  ·refine⟨0,rfl,by omega,?_⟩
   simp+decide (disch:=try exact D0) only[go_sem]
   exact⟨rfl,fun j hj=>by omega⟩
  rintro _ J2 _ ⟨k,rfl,hk,i4,rfl,is⟩
  simp+decide (disch:=try exact D2 i4 h3) only[go_sem,i4,h3]
  refine Qb (fun hc2=> ?_) (fun hc2=> ?_)
  ·have hk':k<i:=by omega
   have c1:=Qpi hl hR2 hR2 hi' (show k<R by omega) hs
   have c2:=Qpi hl hR2 hR2 (show k<R by omega) hi' hs
   have b1:=Qjd (m:=R) (r:=i) (c:=k) (by omega) hs
   have b2:=Qjd (m:=R) (r:=k) (c:=i) (by omega) hs
   have c3:=Qpb (a:=Qai l R i k) (b:=Qai l R k i) b1 b2 (by omega)
   obtain⟨x,hx⟩:∃x,Qai l R i k=x:=⟨_,rfl⟩
   obtain⟨y,hy⟩:∃y,Qai l R k i=y:=⟨_,rfl⟩
   rw[hx]at c1 c3
   rw[hy]at c2 c3
   by_cases e:x=y
   ·rw[decide_eq_true e]at c3
    repeat' first
     |refine Qda ?_ ?_
     |refine Qa hP c1 rfl rfl rfl ?_
     |refine Qa hP c2 rfl rfl rfl ?_
     |refine Qa hP c3 rfl rfl rfl ?_
     |simp+decide (disch:=try exact D3 i4 h3 h1) only[go_sem,i4,h3,h1]
    all_goals
     refine Qp (i-(k+1)) (by omega) ⟨k+1,rfl,by omega,?_⟩
     simp+decide (disch:=try exact D0) only[go_sem]
     intro j hj
     by_cases e2:j=k
     ·subst e2;rw[hx,hy,e]
     ·exact is j (by omega)
   ·rw[decide_eq_false e]at c3
    repeat' first
     |refine Qda ?_ ?_
     |refine Qa hP c1 rfl rfl rfl ?_
     |refine Qa hP c2 rfl rfl rfl ?_
     |refine Qa hP c3 rfl rfl rfl ?_
     |simp+decide (disch:=try exact D3 i4 h3 h1) only[go_sem,i4,h3,h1]
    all_goals
     refine Qc ?_ rfl
     rw[decide_eq_false]
     exact fun hsy=>e (by rw[<-hx,<-hy];exact hsy i hi' k hk')
  ·have hki:k=i:=by omega
   subst hki
   simp+decide (disch:=try exact D1 h3) only[go_sem,h3]
   simp (disch:=decide) only[Qa5,Qbj]
   refine Qp (R-(k+1)) (by omega) ⟨k+1,rfl,by omega,?_⟩
   simp+decide (disch:=try exact D1 h1) only[go_sem,h1]
   intro j hj k' hk'
   by_cases e:j=k
   ·subst e;exact is k' (by omega)
   ·exact hs1 j (by omega) k' hk'
 ·simp+decide (disch:=try exact D0) only[go_sem]
  refine Qc ?_ rfl
  rw[decide_eq_true]
  exact fun j hj k hk=>hs1 j (by omega) k hk
def pvR(R:Nat)(M:MF):PV:=
 if Qb7 M R<R then .tup [.int .i64 (Qb7 M R:Nat),.int .i64 (Qb7 M R:Nat),.bool true]
 else if Qbo M R<R then .tup [.int .i64 (Qbo M R:Nat),.int .i64 (Qc1 M R (Qbo M R):Nat),.bool true]
 else .tup [.int .i64 0,.int .i64 0,.bool false]
theorem Qagc{R k:Nat}{M:MF}(hR:R<=40)(hs:Sym R M)(hM:MBd k R R M)(hk:k<=2^30):Qd Tryz.prog 161 [.sl 1 (Qad (PV.rowD R) M R)] (· =pvR R M):=by
 have hrl:(Qad (PV.rowD R) M R).length=R:=Qa0 _ _ _
 refine Qf Qq Tryz.func161 rfl Qama (by simp[c161]) fun C hP=> ?_;simp only[c161,Zo,Zg,Zm,Zc,Zf,Zl,Zh,Zs,Zi,Zb,Zk,Zn,Zu,Zq,Zr,Zz]
 simp+decide (disch:=try exact D1 hrl) only[go_sem,hrl]
 refine Qaa (by repeat (first|exact Qn|exact Qi|exact Qj|exact Qk|exact Ql|apply Qh|apply Qm|apply Qt|apply Qx|apply Qy|apply Qg|apply Qr)) [(2,5),(8,24)] [] (fun q J hp=>∃i,q=R-i/\i<=R/\J 5= .int .i64 (i:Nat)/\∀j,j<i->M j j=0) R ?_ ?_
 ·refine⟨0,rfl,by omega,?_⟩
  simp+decide (disch:=try exact D0) only[go_sem]
  exact⟨rfl,fun j hj=>by omega⟩
 rintro _ J h ⟨i,rfl,hi,h5,hz⟩
 simp+decide (disch:=try exact D2 h5 hrl) only[go_sem,h5,hrl]
 refine Qb (fun hc=> ?_) (fun hc=> ?_)
 ·have hi':i<R:=by omega
  have b1:=hM i hi' i hi'
  simp+decide (disch:=try exact D1 h5) only[go_sem,h5]
  refine Qa hP (Qic (a:=M i i) (by omega)) rfl rfl rfl ?_
  simp+decide (disch:=try exact D1 h5) only[go_sem,h5]
  refine Qb (fun he=> ?_) (fun he=> ?_)
  ·have hne:M i i≠0:=fun e=>he (Qaz.2 e)
   have hdi:Qb7 M R=i:=Qjc (Nat.zero_le _) (by omega) (decide_eq_true hne) fun j _ hj=>decide_eq_false (fun h=>h (hz j hj))
   simp+decide (disch:=try exact D1 h5) only[go_sem,h5]
   refine Qhf ?_ rfl rfl rfl (Qac _) (Qac _) (Qac _)
   unfold pvR
   rw[hdi,if_pos hi']
  ·simp+decide (disch:=try exact D1 h5) only[go_sem,h5]
   refine Qp (R-(i+1)) (by omega) ⟨i+1,rfl,by omega,?_⟩
   simp+decide (disch:=try exact D0) only[go_sem]
   intro j hj
   by_cases e:j=i
   ·subst e;exact Qaz.1 (Classical.not_not.1 he)
   ·exact hz j (by omega)
 ·obtain rfl:i=R:=by omega
  have hnd:¬Qb7 M i<i:=by
   have:Qb7 M i=0+i:=Qhb fun j _ hj=>decide_eq_false (fun h=>h (hz j (by omega)))
   omega
  simp+decide (disch:=try exact D0) only[go_sem]
  refine Qaa (by repeat (first|exact Qn|exact Qi|exact Qj|exact Qk|exact Ql|apply Qh|apply Qm|apply Qt|apply Qx|apply Qy|apply Qg|apply Qr)) [(2,4),(6,7),(25,49)] [] (fun q J hp=>∃a,q=i-a/\a<=i/\J 6= .int .i64 (a:Nat)/\∀j,j<a->∀k,k<i->M j k=0) i ?_ ?_
  ·refine⟨0,rfl,by omega,?_⟩
   simp+decide (disch:=try exact D0) only[go_sem]
   exact⟨rfl,fun j hj=>by omega⟩
  rintro _ J1 h1 ⟨a,rfl,ha,a6,az⟩
  simp+decide (disch:=try exact D2 a6 hrl) only[go_sem,a6,hrl]
  refine Qb (fun hca=> ?_) (fun hca=> ?_)
  ·have ha':a<i:=by omega
   simp+decide (disch:=try exact D1 a6) only[go_sem,a6]
   refine Qaa (by repeat (first|exact Qn|exact Qi|exact Qj|exact Qk|exact Ql|apply Qh|apply Qm|apply Qt|apply Qx|apply Qy|apply Qg|apply Qr)) [(2,4),(7,7),(33,49)] [] (fun q J hp=>∃b,q=i-b/\a<b/\b<=i/\J 7= .int .i64 (b:Nat)/\∀k,k<b->M a k=0) (i-(a+1)) ?_ ?_
   ·refine⟨a+1,rfl,by omega,by omega,?_⟩
    simp+decide (disch:=try exact D0) only[go_sem]
    intro k hk
    by_cases e:k=a
    ·subst e;exact hz k (by omega)
    ·rw[hs a ha' k (by omega)];exact az k (by omega) a ha'
   rintro _ J2 h2 ⟨b,rfl,hab,hb,b7,bz⟩
   simp+decide (disch:=try exact D2 b7 hrl) only[go_sem,b7,hrl]
   refine Qb (fun hcb=> ?_) (fun hcb=> ?_)
   ·have hb':b<i:=by omega
    have b1:=hM a ha' b hb'
    simp+decide (disch:=try exact D2 b7 a6) only[go_sem,b7,a6]
    refine Qa hP (Qic (a:=M a b) (by omega)) rfl rfl rfl ?_
    simp+decide (disch:=try exact D2 b7 a6) only[go_sem,b7,a6]
    refine Qb (fun he=> ?_) (fun he=> ?_)
    ·have hne:M a b≠0:=fun e=>he (Qaz.2 e)
     have hci:Qc1 M i a=b:=Qjc (Nat.zero_le _) (by omega) (decide_eq_true hne) fun j _ hj=>decide_eq_false (fun h=>h (bz j hj))
     have hri:Qbo M i=a:=Qjc (Nat.zero_le _) (by omega) (decide_eq_true (by rw[hci];exact hb')) fun j _ hj=>decide_eq_false (fun h=>by
      have:Qc1 M i j=0+i:=Qhb fun k _ hk=>decide_eq_false (fun h2=>h2 (az j (by omega) k (by omega)))
      omega)
     simp+decide (disch:=try exact D2 b7 a6) only[go_sem,b7,a6]
     refine Qhf ?_ rfl rfl rfl (Qac _) (Qac _) (Qac _)
     unfold pvR
     rw[if_neg hnd,hri,if_pos ha',hci]
    ·simp+decide (disch:=try exact D1 b7) only[go_sem,b7]
     refine Qp (i-(b+1)) (by omega) ⟨b+1,rfl,by omega,by omega,?_⟩
     simp+decide (disch:=try exact D0) only[go_sem]
     intro k hk
     by_cases e:k=b
     ·subst e;exact Qaz.1 (Classical.not_not.1 he)
     ·exact bz k (by omega)
   ·simp+decide (disch:=try exact D1 a6) only[go_sem,a6]
    simp (disch:=decide) only[Qa5,Qbj]
    refine Qp (i-(a+1)) (by omega) ⟨a+1,rfl,by omega,?_⟩
    simp+decide (disch:=try exact D0) only[go_sem]
    intro j hj k hk
    by_cases e:j=a
    ·subst e;exact bz k (by omega)
    ·exact az j (by omega) k hk
  ·simp+decide (disch:=try exact D0) only[go_sem]
   refine Qhf ?_ rfl rfl rfl (Qac _) (Qac _) (Qac _)
   have e1:¬Qbo M i<i:=by
    have:Qbo M i=0+i:=Qhb fun j _ hj=>decide_eq_false (fun h=>by
     have:Qc1 M i j=0+i:=Qhb fun k _ hk=>decide_eq_false (fun h2=>h2 (az j (by omega) k (by omega)))
     omega)
    omega
   unfold pvR
   rw[if_neg hnd,if_neg e1]
def c93:SFn:=⟨132,[.t 2,.cell 3 3 true,.t 4],Zr (Zo (.box 1 3 24 (.t 0))<|
 Zo (.mv 2 (.c .nilS))<|
 Zo (.alloc 3 3 24 (.agg [Zz 0,Zz 0,.nilS]))<|
 Zc 4 0 .nil)<| .seq (Zr (Zh 17 3 1<|
 Zq 18 false 57 [.t 17]<|
 Zu 19 18 .nil)<| .cond (.t 19) (Zr (Zo (.bld 20 [Zz 0,Zz 0,.nilS] [])<|
 Zo (.mv 2 (.c .nilS))<|
 Zs 3 3 20<|
 Zc 4 1 .nil) .ret) .skip)<| .seq (Zr (Zf 21 0 1<|
 Zl 22 1 21<|
 Zf 23 1 1<|
 Zl 24 1 23<|
 Zb 25 .neq 22 24<|
 Zm 26 25<|
 Zg 26 false (.ld 27 3 true (.t 1))<|
 Zg 26 false (.call (some 28) false (.c (.fn 160 [] [])) [.t 27])<|
 Zg 26 false (.un 29 .not (.t 28))<|
 Zo (.pick 30 (.t 26) (.c (.bool true)) (.t 29)) .nil)<| .cond (.t 30) (Zr (Zo (.bld 31 [Zz 0,Zz 0,.nilS] [])<|
 Zo (.mv 2 (.c .nilS))<|
 Zs 3 3 31<|
 Zc 4 16 .nil) .ret) .skip)<|Zr (Zh 32 3 1<|
 Zq 33 false 59 [.t 32]<|
 Zm 5 33 .nil)<|Zr (Zo (.mv 6 (.c .nilS)) .nil)<|Zr (Zf 34 1 1<|
 Zl 35 1 34<|
 Zo (.bld 36 [Zz 0,Zz 0,.nilS] [(1,1,.t 35)])<|
 Zo (.alloc 7 3 24 (.agg [Zz 0,Zz 0,.nilS]))<|
 .wk<| .wk<|Zs 3 7 36<|
 .wk .nil)<| .seq (.block 0<| .loop<| .block 1<|Zr (Zm 38 5<|
 Zq 39 false 161 [.t 38]<|
 Zm 37 39<|
 Zo (.ext 40 (.t 37) 0)<|
 Zo (.ext 41 (.t 37) 1)<|
 Zo (.ext 42 (.t 37) 2)<|
 Zm 8 40<|
 Zm 9 41<|
 Zm 10 42 .nil)<| .seq (Zr (Zm 43 10<|
 Zu 44 43 .nil)<| .cond (.t 44) (.exit 0) .skip)<|Zr (Zm 45 5<|
 Zm 46 8<|
 Zi 47 1 45 46<|
 Zl 48 1 47<|
 Zm 49 9<|
 Zi 50 3 48 49<|
 Zh 51 3 50<|
 Zo (.alloc 11 3 51 (.agg [.bool false,.nilS,.nilS]))<|
 Zs 3 11 51 .nil)<|Zr (Zm 52 5<|
 Zm 53 8<|
 Zi 54 1 52 53<|
 Zl 55 1 54<|
 Zh 56 3 11<|
 Zq 57 false 125 [.t 55,.t 56]<|
 Zo (.bs 58 1 22 [.t 57])<|
 Zm 12 58 .nil)<|Zr (Zh 59 3 11<|
 Zo (.bs 60 3 51 [.t 59])<|
 Zm 13 60 .nil)<| .seq (Zr (Zm 61 8<|
 Zm 62 9<|
 Zb 63 .neq 61 62 .nil)<| .cond (.t 63) (Zr (Zh 66 3 11<|
 .br (Zq 65 true 51 [.c (Zz 1),.c (Zz 2)]<|
 .br (Zq 67 true 143 [.t 65,.t 66]<|
 Zm 64 67<|
 Zo (.ext 68 (.t 64) 0)<|
 Zo (.ext 69 (.t 64) 1)<|
 Zo (.alloc 14 3 51 (.agg [.bool false,.nilS,.nilS]))<|
 Zs 3 14 68<|
 Zm 15 69 .nil) (Zo (.alloc 14 3 51 (.agg [.bool false,.nilS,.nilS]))<|
 Zq 67 true 143 [.t 65,.t 66]<|
 Zm 64 67<|
 Zo (.ext 68 (.t 64) 0)<|
 Zo (.ext 69 (.t 64) 1)<|
 Zs 3 14 68<|
 Zm 15 69 .nil)) (Zo (.alloc 14 3 51 (.agg [.bool false,.nilS,.nilS]))<|
 Zq 65 true 51 [.c (Zz 1),.c (Zz 2)]<|
 Zq 67 true 143 [.t 65,.t 66]<|
 Zm 64 67<|
 Zo (.ext 68 (.t 64) 0)<|
 Zo (.ext 69 (.t 64) 1)<|
 Zs 3 14 68<|
 Zm 15 69 .nil))<|Zr (Zm 70 5<|
 Zm 71 8<|
 Zi 72 1 70 71<|
 Zl 73 1 72<|
 Zm 74 5<|
 Zm 75 9<|
 Zi 76 1 74 75<|
 Zl 77 1 76<|
 Zm 80 5<|
 Zm 81 8<|
 Zi 82 1 80 81<|
 Zl 83 1 82<|
 Zm 84 5<|
 Zm 85 9<|
 Zi 86 1 84 85<|
 Zl 87 1 86<|
 Zq 78 true 50 [.c (Zz 1)]<|
 Zq 79 true 162 [.t 73,.t 77,.t 78]<|
 Zq 88 true 50 [.c (Zz (-1))]<|
 Zq 89 true 162 [.t 83,.t 87,.t 88]<|
 Zo (.bs 90 1 22 [.t 79,.t 89])<|
 Zm 12 90 .nil)<| .rg (Zh 91 3 14<|
 Zh 92 3 14<|
 Zq 93 true 63 [.t 92]<|
 Zo (.bs 94 3 51 [.t 91,.t 93])<|
 Zm 13 94 .nil)) .skip)<|Zr (Zc 16 0 .nil)<| .block 2<| .loop<| .seq (Zr (Zm 95 16<|
 Zm 96 12<|
 Zn 97 96<|
 Zb 98 .lss 95 97 .nil)<| .cond (.t 98) .skip (.exit 2))<| .seq (.block 3<|Zr (Zm 101 5<|
 Zm 102 12<|
 Zm 103 16<|
 Zi 104 1 102 103<|
 Zl 105 1 104<|
 Zm 106 13<|
 Zm 107 16<|
 Zi 108 3 106 107<|
 Zh 109 3 108<|
 Zq 110 false 163 [.t 101,.t 105,.t 109]<|
 Zm 5 110 .nil)<|Zr (Zm 111 6<|
 Zm 112 13<|
 Zm 113 16<|
 Zi 114 3 112 113<|
 Zh 115 3 114<|
 Zo (.bs 116 3 51 [.t 115])<|
 Zo (.app 117 3 56 51 (.t 111) (.t 116))<|
 Zm 6 117 .nil)<|Zr (Zf 118 0 7<|
 Zl 119 1 118<|
 Zk 120 .add 119 1<|
 Zf 121 0 7<|
 Zs 1 121 120 .nil)<| .rg (Zf 122 2 7<|
 Zl 123 1 122<|
 Zm 124 12<|
 Zm 125 16<|
 Zi 126 1 124 125<|
 Zl 127 1 126<|
 Zo (.app 128 3 56 51 (.t 123) (.t 127))<|
 Zf 129 2 7<|
 Zs 1 129 128 .nil))<| .rg (Zm 99 16<|
 Zk 100 .add 99 1<|
 Zm 16 100 .nil))<|Zr (Zm 130 6<|
 Zh 131 3 7<|
 .wk<|Zm 2 130<|
 Zs 3 3 131<|
 Zc 4 0 .nil) .ret⟩
theorem Qap4:Qe Tryz.prog Tryz.f93=some c93.strip:=by kernel_rfl
theorem Qamc{α:Rat}(h:α≠0):((1:Int):Rat)/((2:Int):Rat)/α=1/(α+α):=by
 have h2:α+α≠0:=fun e=>h (by grind)
 have e1:((1:Int):Rat)/((2:Int):Rat)*(((2:Int):Rat))=1:=by decide+kernel
 have e2:((2:Int):Rat)=2:=rfl
 rw[e2]at e1⊢
 grind
theorem Q1f{R:Nat}{M:MF}(h:Qhk M R):Sym R M:=fun i hi k hk=>by
 rcases Nat.lt_trichotomy i k with e|e|e
 ·exact(h k hk i e).symm
 ·rw[e]
 ·exact h i hi k e
theorem Qaah{R:Nat}{l:List Rat}(hl:l.length=R*R)(hR2:R<=5)(hs3:∀q∈l,rs q<=3)(hsym:Qhk (Qai l R) R):
  Qd Tryz.prog 93 [PV.mat R R l] (· =Qph R (Qal R (Qai l R) (2*R)).2):=by
 have hs:∀q∈l,rs q<=1048576:=fun q hq=>by have:=hs3 q hq;omega
 have c1:=Q1e hl (by omega) hs
 rw[decide_eq_true hsym]at c1
 have c2:=Q1d hl (show R<=40 by omega) (by omega)
 have hz:([.agg [.int .i64 0,.int .i64 0,.nilS]]:List PV)≠[]:=by simp
 have hzd:∀x∈([.agg [.int .i64 0,.int .i64 0,.nilS]]:List PV),x.ncells=x.cells:=fun x hx=>by rw[List.mem_singleton.1 hx];rfl
 have hM3:MBd 3 R R (Qai l R):=fun r _ c _=>Qjd (by omega) hs3
 have hSym:=Q1f hsym
 obtain⟨M,hM⟩:∃M,Qai l R=M:=⟨_,rfl⟩
 rw[hM]at c2 hM3 hSym⊢
 have hRB:Q08 50421 R R M:=fun k hk=>by
  have h:=Q4c (n:=R) hSym (by omega) hM3 k hk
  have e:3*7^R<=3*7^5:=Nat.mul_le_mul_left _ (Nat.pow_le_pow_right (by omega) hR2)
  exact⟨fun r hr c hc=>Nat.le_trans (h.1 r hr c hc) e,fun f hf=>⟨Nat.le_trans (h.2.1 f hf).1 e,fun c hc=>Nat.le_trans ((h.2.1 f hf).2 c hc) e⟩,fun j hj r hr c hc=>Nat.le_trans (h.2.2 j hj r hr c hc) e⟩
 refine Qd8 Qq Tryz.func93 rfl Qap4 (by simp[c93]) fun C hP=> ?_;simp only[c93,Zo,Zg,Zm,Zc,Zf,Zl,Zh,Zs,Zi,Zb,Zk,Zn,Zu,Zq,Zr,Zz]
 simp+decide (disch:=try exact D0) only[go_sem]
 refine Qa hP (Qsp hl (by omega) (by omega) hs) rfl rfl rfl ?_
 simp+decide (disch:=try exact D0) only[go_sem]
 repeat' first
  |refine Qda ?_ ?_
  |refine Qa hP c1 rfl rfl rfl ?_
  |refine Qa hP c2 rfl rfl rfl ?_
  |simp+decide (disch:=try exact D0) only[go_sem]
 refine Qb2 (Qhr 7 2000001 Tr0 (by omega) rfl (by omega)) ?_
 refine Qb2 (Qkd (γ:=2000001) (e:=3) (ty:=24) (fz:=false) T0 hz (by omega) hzd) ?_
 simp+decide (disch:=try exact D0) only[go_sem]
 refine Qb2 (Qpf (γ:=2000001) (e:=3) (ty:=24) (cs:=[.int .i64 0,.int .i64 (R:Nat),.nilS]) (cs':=[.int .i64 0,.int .i64 (R:Nat),.mso 2000002 0 0]) 2000002 3 51 T0 Tr0 (by omega) (by omega) rfl (by simp)) ?_
 simp+decide (disch:=try exact D0) only[go_sem]
 refine Qcd 6 900 3 51 (by omega) T0 ?_
 refine Qbm (by repeat (first|exact Qn|exact Qi|exact Qj|exact Qk|exact Ql|apply Qh|apply Qm|apply Qt|apply Qx|apply Qy|apply Qg|apply Qr)) [(5,16),(37,129),(2000001,2000001)] [11,14,58,60,90,94,116,117,128,900] (fun q J hp=>∃k,q=R-k/\(∀j,j<k->Qbe (Qal R M j).1 R≠[])/\J 5= .sl 1 (Qad (PV.rowD R) (Qal R M k).1 R)/\J 6= .ms 900 (Qal R M k).2.length/\J 7= .np 2000001 0 0/\J 2000001= .nst 2000001 3 24 [Qpg R (Qal R M k).2.length]/\
   hp 3=some ⟨3,24,[.agg [.int .i64 0,.int .i64 0,.nilS]],false⟩/\hp 2000001=some ⟨3,24,[],false⟩/\hp 2000002=some ⟨3,51,(Qb8 R (Qal R M k).2).map PV.rat,false⟩/\hp 900=some ⟨3,51,((Qal R M k).2.map (·.1)).map PV.rat,false⟩) R ?_ ?_
 ·refine⟨0,rfl,(fun j hj=>by omega),?_⟩
  simp+decide (disch:=try exact D0) only[go_sem]
  exact⟨rfl,rfl,by simp[Qal],rfl,rfl⟩
 rintro _ J h ⟨k,rfl,hbef,j5,j6,j7,jb,h3,hb,hx,h9⟩
 have hnz:=Q4d hSym (by omega) hM3 k hbef
 have hkR:k<=R:=by omega
 obtain⟨hSk,_⟩:=Qpk hSym (b:=3) (by omega) hM3 k
 have hBk:=hRB k hkR
 have hlk:=Qjt R M k
 have hpv:=Qagc (k:=50421) (by omega) hSk hBk.1 (by omega)
 simp+decide (disch:=try exact D4 j5 j6 j7 jb) only[go_sem,j5,j6,j7,jb]
 refine Qa hP hpv rfl rfl rfl ?_
 have hn1:(Qal R M (k+1)).1=Qde (Qal R M k).1 (Qbe (Qal R M k).1 R):=rfl
 have hn2:(Qal R M (k+1)).2=(Qal R M k).2++Qbe (Qal R M k).1 R:=rfl
 by_cases hnx:Qbe (Qal R M k).1 R=[]
 ·have hd:¬Qb7 (Qal R M k).1 R<R:=fun h=>by unfold Qbe at hnx;rw[if_pos h]at hnx;cases hnx
  have hr:¬Qbo (Qal R M k).1 R<R:=fun h=>by unfold Qbe at hnx;rw[if_neg hd,if_pos h]at hnx;cases hnx
  have hfin:=Qtc hnx (2*R-k)
  rw[show k+(2*R-k)=2*R by omega]at hfin
  rw[hfin]
  unfold pvR
  rw[if_neg hd,if_neg hr]
  have hfl:=Qdp R (Qal R M k).2
  simp+decide (disch:=try exact D8 j5 j6 j7 jb h3 hb hx h9) only[go_sem,j5,j6,j7,jb,h3,hb,hx,h9]
  refine Qnv 131 2 [2000002] (p:=Qpg R (Qal R M k).2.length) T0 (D:=PV.mat (Qal R M k).2.length R (Qb8 R (Qal R M k).2)) ?_ ?_ rfl ?_
  ·intro c hc
   simp only[List.mem_cons,List.not_mem_nil,or_false]at hc
   rcases hc with rfl|rfl|rfl
   ·trivial
   ·trivial
   ·simp only[okD,isY];simp
  ·show PV.agg [_,_,dsn _ h 2 (.mso 2000002 0 _)]=_
   simp only[dsn,hx,List.drop_zero]
   rw[List.take_of_length_le (by rw[List.length_map,hfl];omega)]
  simp+decide (disch:=try exact E6 j6 j7 jb h3 hb h9) only[go_sem,j6,j7,jb,h3,hb,h9,Qab,List.contains_cons,List.contains_nil,List.flatMap_cons,List.flatMap_nil,List.append_nil]
  refine Qeq (Q49 ?_)
  simp+decide (disch:=try exact E2 h3 h9) only[go_sem,h3,h9,Qab,List.contains_cons,List.contains_nil,List.flatMap_cons,List.flatMap_nil,List.append_nil]
  rw[List.take_of_length_le (by simp)]
  exact Qhf rfl rfl rfl rfl (Qac _) (Qac _) (Qac _)
 have hkR2:k<R:=by
  have:=Qal8 hSk hnx
  omega
 have hbef1:∀j,j<k+1->Qbe (Qal R M j).1 R≠[]:=fun j hj=>by
  by_cases e:j=k
  ·subst e;exact hnx
  ·exact hbef j (by omega)
 have hnl:=Ql1 (Qal R M k).1 R
 obtain⟨E,hE⟩:∃E,Qal R M k=E:=⟨_,rfl⟩
 rw[hE]at hBk hlk hn1 hn2 j5 j6 jb hx h9 hnx hnl hSk⊢
 obtain⟨N,fs⟩:=E
 simp only at hBk hlk hn1 hn2 j5 j6 jb hx h9 hnx hnl hSk⊢
 have hR0:0<R:=by omega
 by_cases hd:Qb7 N R<R
 ·have e0:pvR R N= .tup [.int .i64 (Qb7 N R:Nat),.int .i64 (Qb7 N R:Nat),.bool true]:=by unfold pvR;rw[if_pos hd]
  have e1:Qbe N R=[(N (Qb7 N R) (Qb7 N R),Qd5 (fun _=>0) (N (Qb7 N R)) (1/N (Qb7 N R) (Qb7 N R)))]:=by unfold Qbe;rw[if_pos hd]
  have h0:=Qtb hd
  obtain⟨L,hL⟩:∃L,Qbe N R=L:=⟨_,rfl⟩
  rw[hL]at hBk hnl hn1 hn2 e1 hnx
  rw[e0]
  generalize Qb7 N R=d at *
  have hdd:=hBk.1 d hd d hd
  have ho:=Q37 (x:=N d) (c:=N d d) (w:=R) (k:=50421) (by omega) (fun c hc=>hBk.1 d hd c hc) hdd h0 (by omega)
  have hrow:Qad PV.rat (fun c=>N d c/N d d) R=Qad PV.rat (Qd5 (fun _=>0) (N d) (1/N d d)) R:=Qcr fun c hc=>by
   show N d c/N d d=0+1/N d d*N d c
   rw[Rat.zero_add,Rat.div_def,Rat.div_def,Rat.one_mul,Rat.mul_comm]
  rw[hrow]at ho
  have hLl:L.length=1:=by rw[e1];rfl
  simp+decide (disch:=try exact D8 j5 j6 j7 jb h3 hb hx h9) only[go_sem,j5,j6,j7,jb,h3,hb,hx,h9]
  refine Qa hP ho rfl rfl rfl ?_
  simp+decide (disch:=try exact D8 j5 j6 j7 jb h3 hb hx h9) only[go_sem,j5,j6,j7,jb,h3,hb,hx,h9]
  refine Qbm (by repeat (first|exact Qn|exact Qi|exact Qj|exact Qk|exact Ql|apply Qh|apply Qm|apply Qt|apply Qx|apply Qy|apply Qg|apply Qr)) [(5,7),(16,16),(95,129),(2000001,2000001)] [116,117,128,900] (fun q J hp=>∃i,q=L.length-i/\i<=L.length/\J 5= .sl 1 (Qad (PV.rowD R) (Qde N (L.take i)) R)/\J 6= .ms 900 (fs++L.take i).length/\J 7= .np 2000001 0 0/\J 16= .int .i64 (i:Nat)/\J 2000001= .nst 2000001 3 24 [Qpg R (fs++L.take i).length]/\
    hp 3=some ⟨3,24,[.agg [.int .i64 0,.int .i64 0,.nilS]],false⟩/\hp 2000001=some ⟨3,24,[],false⟩/\hp 2000002=some ⟨3,51,(Qb8 R (fs++L.take i)).map PV.rat,false⟩/\hp 900=some ⟨3,51,((fs++L.take i).map (·.1)).map PV.rat,false⟩/\
    hp 58=some ⟨1,22,L.map (fun f=>PV.rowD R f.2),false⟩/\hp 60=some ⟨3,51,L.map (fun f=>PV.rat f.1),false⟩) L.length ?_ ?_
  ·refine⟨0,rfl,by omega,?_⟩
   simp+decide (disch:=try exact D8 j5 j6 j7 jb h3 hb hx h9) only[go_sem,j5,j6,j7,jb,h3,hb,hx,h9]
   simp only[List.append_nil]
   refine⟨rfl,trivial,rfl,trivial,trivial,trivial,?_,?_⟩
   ·rw[e1];rfl
   ·rw[e1];rfl
  rintro _ J1 g ⟨i,rfl,hi,i5,i6,i7,i16,ib,g3,gb,gx,g9,gp,gq⟩
  simp+decide (disch:=try exact D1 i16) only[go_sem,i16]
  refine Qb (fun hci=> ?_) (fun hci=> ?_)
  ·have hi':i<L.length:=by omega
   have htk:L.take (i+1)=L.take i++[L[i]]:=List.take_succ_eq_append_getElem hi'
   have hfb:=hBk.2.1 _ (List.getElem_mem hi')
   have hMb:=hBk.2.2 i hi
   have hll:(fs++L.take i).length<=200:=by
    rw[List.length_append,List.length_take];omega
   have hfl2:=Qdp R (fs++L.take i)
   generalize hf:L[i]=f at *
   have hsn:=Qpd N (L.take i) f
   have hfsn:=Qpe R (fs++L.take i) f
   have hTk:fs++L.take (i+1)=(fs++L.take i)++[f]:=by rw[htk,<-List.append_assoc]
   rw[<-htk]at hsn
   generalize hT:fs++L.take i=T at *
   generalize hZ:Qde N (L.take i)=Z at *
   have hTR:T.length*R<=200*5:=Nat.mul_le_mul hll hR2
   have hrl:(Qad PV.rat f.2 R).length=R:=Qa0 _ _ _
   have hw:=Qva (M:=Z) (f:=f) (k:=50421) (by omega) hMb hfb.1 hfb.2 (by omega)
   simp+decide (disch:=try exact D12 i5 i6 i7 i16 ib g3 gb gx g9 gp gq hf) only[go_sem,i5,i6,i7,i16,ib,g3,gb,gx,g9,gp,gq,hf]
   refine Qa hP hw rfl rfl rfl ?_
   simp+decide (disch:=try exact D12 i5 i6 i7 i16 ib g3 gb gx g9 gp gq hf) only[go_sem,i5,i6,i7,i16,ib,g3,gb,gx,g9,gp,gq,hf]
   rw[Qaf (f:=PV.rat) (y:=f.1) (xs:=T.map (·.1)) (ty':=51) (fz:=false) (T1 g9) T0 (by omega) (by simp) (by omega) (by omega)]
   simp+decide (disch:=try exact D12 i5 i6 i7 i16 ib g3 gb gx g9 gp gq hf) only[go_sem,i5,i6,i7,i16,ib,g3,gb,gx,g9,gp,gq,hf]
   rw[Q09 (xs:=(Qb8 R T).map PV.rat) (T1 gx) (by omega) (by rw[List.length_map,hfl2]) (Qnr hR0) (by rw[hrl];omega) (by rw[hrl];omega) (by omega),hrl]
   simp+decide (disch:=try exact D11 i5 i6 i7 i16 ib g3 gb gx g9 gp gq) only[go_sem,i5,i6,i7,i16,ib,g3,gb,gx,g9,gp,gq]
   refine Qa2 (L.length-(i+1)) (by omega) ⟨i+1,rfl,by omega,?_⟩
   rw[hTk,hsn]
   simp+decide (disch:=try exact D10 i5 i6 i7 ib g3 gb gx g9 gp gq) only[go_sem,i5,i6,i7,ib,g3,gb,gx,g9,gp,gq]
   refine⟨by rw[List.length_append];rfl,?_,?_,by simp⟩
   ·rw[List.length_append,List.length_singleton,show T.length*R+R=(T.length+1)*R from(Nat.succ_mul _ _).symm]
   ·rw[hfsn,List.map_append,Qgz]
  ·have hiL:i=L.length:=by omega
   subst hiL
   rw[List.take_length]at i5 i6 ib gx g9
   simp (disch:=decide) only[Qca,Qch,Qbj,Qct]
   simp+decide (disch:=try exact D0) only[go_sem]
   refine Qa2 (R-(k+1)) (by omega) ⟨k+1,rfl,hbef1,?_⟩
   rw[hn1,hn2]
   simp+decide (disch:=try exact D8 i5 i6 i7 ib g3 gb gx g9) only[go_sem,i5,i6,i7,ib,g3,gb,gx,g9]
 ·have hr:Qbo N R<R:=by
   refine Classical.byContradiction fun h=>hnx ?_
   unfold Qbe;rw[if_neg hd,if_neg h]
  have hlt:=Qal9 hSk hd hr
  have hb0:=Qnw hr
  have h0:=Qrl hb0
  have e0:pvR R N= .tup [.int .i64 (Qbo N R:Nat),.int .i64 (Qc1 N R (Qbo N R):Nat),.bool true]:=by unfold pvR;rw[if_neg hd,if_pos hr]
  have e1:Qbe N R=[(1/(N (Qbo N R) (Qc1 N R (Qbo N R))+N (Qbo N R) (Qc1 N R (Qbo N R))),Qd5 (N (Qbo N R)) (N (Qc1 N R (Qbo N R))) 1),(-(1/(N (Qbo N R) (Qc1 N R (Qbo N R))+N (Qbo N R) (Qc1 N R (Qbo N R)))),Qd5 (N (Qbo N R)) (N (Qc1 N R (Qbo N R))) (-1))]:=by unfold Qbe;rw[if_neg hd,if_pos hr]
  obtain⟨L,hL⟩:∃L,Qbe N R=L:=⟨_,rfl⟩
  rw[hL]at hBk hnl hn1 hn2 e1 hnx
  rw[e0]
  generalize Qbo N R=a at *
  generalize Qc1 N R a=d at *
  have hdd:=hBk.1 a hr d hb0
  have he:=Qamc h0
  have ba:∀c,c<R->rs (N a c)<=50421:=fun c hc=>hBk.1 a hr c hc
  have bd:∀c,c<R->rs (N d c)<=50421:=fun c hc=>hBk.1 d hb0 c hc
  have q1:rs ((1:Int):Rat)<=1:=Qql
  have q2:rs ((-1:Int):Rat)<=1:=Q5f
  have hh:rs (((1:Int):Rat)/((2:Int):Rat))<=10:=by decide+kernel
  have ho:=Q37 (x:=N a) (c:=N a d) (w:=R) (k:=50421) (by omega) ba hdd h0 (by omega)
  have hfr:=Q02 (x:=1) (y:=2) (by omega) (by omega) (by omega)
  have hdv:=Q01 (a:=((1:Int):Rat)/((2:Int):Rat)) (b:=N a d) (k:=50421) (by omega) hdd (by omega) h0
  have bw:=Qu4 (a:=((1:Int):Rat)/((2:Int):Rat)) h0
  rw[he]at hdv bw
  have hng:=Qta (a:=1/(N a d+N a d)) (k:=60000) (by omega) (by omega)
  have ho1:=Qiw (x:=1) (by omega) (by omega)
  have ho2:=Qiw (x:= -1) (by omega) (by omega)
  have hs1:=Qaag (x:=N a) (y:=N d) (c:=((1:Int):Rat)) (w:=R) (k:=50421) (by omega) ba bd (by omega) (by omega)
  have hs2:=Qaag (x:=N a) (y:=N d) (c:=((-1:Int):Rat)) (w:=R) (k:=50421) (by omega) ba bd (by omega) (by omega)
  have hLl:L.length=2:=by rw[e1];rfl
  rw[show(-1:Rat)=((-1:Int):Rat)from rfl,show(1:Rat)=((1:Int):Rat)from rfl]at e1
  rw[show(1:Rat)=((1:Int):Rat)from rfl]at hdv hng
  generalize((1:Int):Rat)/(N a d+N a d)=wt at *
  generalize((1:Int):Rat)/((2:Int):Rat)=hf2 at *
  generalize((1:Int):Rat)=u1 at *
  generalize((-1:Int):Rat)=u2 at *
  simp+decide (disch:=try exact D8 j5 j6 j7 jb h3 hb hx h9) only[go_sem,j5,j6,j7,jb,h3,hb,hx,h9]
  refine Qa hP ho rfl rfl rfl ?_
  simp+decide (disch:=try exact D8 j5 j6 j7 jb h3 hb hx h9) only[go_sem,j5,j6,j7,jb,h3,hb,hx,h9]
  refine Qu3 (by repeat (first|exact Qn|exact Qi|exact Qj|exact Qk|exact Ql|apply Qh|apply Qm|apply Qt|apply Qx|apply Qy|apply Qg|apply Qr)) [(7,7),(12,15),(64,94),(2000001,2000001)] [14,90,94] (fun J hp=>J 7= .np 2000001 0 0/\J 12= .ms 90 2/\J 13= .ms 94 2/\J 2000001= .nst 2000001 3 24 [Qpg R fs.length]/\hp 3=some ⟨3,24,[.agg [.int .i64 0,.int .i64 0,.nilS]],false⟩/\hp 2000001=some ⟨3,24,[],false⟩/\hp 2000002=some ⟨3,51,(Qb8 R fs).map PV.rat,false⟩/\hp 900=some ⟨3,51,(fs.map (·.1)).map PV.rat,false⟩/\
    hp 90=some ⟨1,22,L.map (fun f=>PV.rowD R f.2),false⟩/\hp 94=some ⟨3,51,L.map (fun f=>PV.rat f.1),false⟩) ?_ ?_
  ·refine Qb (fun _=> ?_) (fun h=>absurd h (by omega))
   repeat' first
    |refine Qda ?_ ?_
    |refine Qa hP hfr rfl rfl rfl ?_
    |refine Qa hP hdv rfl rfl rfl ?_
    |refine Qa hP hng rfl rfl rfl ?_
    |refine Qa hP ho1 rfl rfl rfl ?_
    |refine Qa hP ho2 rfl rfl rfl ?_
    |refine Qa hP hs1 rfl rfl rfl ?_
    |refine Qa hP hs2 rfl rfl rfl ?_
    |simp+decide (disch:=try exact D8 j5 j6 j7 jb h3 hb hx h9) only[go_sem,j5,j6,j7,jb,h3,hb,hx,h9]
   all_goals
    refine Qk4 ?_
    simp+decide (disch:=try exact D8 j5 j6 j7 jb h3 hb hx h9) only[go_sem,j5,j6,j7,jb,h3,hb,hx,h9]
    rw[e1]
    exact⟨rfl,rfl⟩
  clear h3 hb hx h9 j7 jb
  rintro J3 g ⟨j7,k12,k13,jb,h3,hb,hx,h9,kp,kq⟩
  simp (disch:=decide) only[Qca,Qch,Qbj,Qct]
  simp+decide (disch:=try exact D10 j5 j6 j7 jb h3 hb hx h9 k12 k13) only[go_sem,j5,j6,j7,jb,h3,hb,hx,h9,k12,k13]
  refine Qbm (by repeat (first|exact Qn|exact Qi|exact Qj|exact Qk|exact Ql|apply Qh|apply Qm|apply Qt|apply Qx|apply Qy|apply Qg|apply Qr)) [(5,7),(16,16),(95,129),(2000001,2000001)] [116,117,128,900] (fun q J hp=>∃i,q=L.length-i/\i<=L.length/\J 5= .sl 1 (Qad (PV.rowD R) (Qde N (L.take i)) R)/\J 6= .ms 900 (fs++L.take i).length/\J 7= .np 2000001 0 0/\J 16= .int .i64 (i:Nat)/\J 2000001= .nst 2000001 3 24 [Qpg R (fs++L.take i).length]/\
    hp 3=some ⟨3,24,[.agg [.int .i64 0,.int .i64 0,.nilS]],false⟩/\hp 2000001=some ⟨3,24,[],false⟩/\hp 2000002=some ⟨3,51,(Qb8 R (fs++L.take i)).map PV.rat,false⟩/\hp 900=some ⟨3,51,((fs++L.take i).map (·.1)).map PV.rat,false⟩/\
    hp 90=some ⟨1,22,L.map (fun f=>PV.rowD R f.2),false⟩/\hp 94=some ⟨3,51,L.map (fun f=>PV.rat f.1),false⟩) L.length ?_ ?_
  ·refine⟨0,rfl,by omega,?_⟩
   simp+decide (disch:=try exact D8 j5 j6 j7 jb h3 hb hx h9) only[go_sem,j5,j6,j7,jb,h3,hb,hx,h9]
   simp only[List.append_nil]
   refine⟨rfl,trivial,rfl,trivial,trivial,trivial,?_,?_⟩
   ·exact kp
   ·exact kq
  rintro _ J1 g ⟨i,rfl,hi,i5,i6,i7,i16,ib,g3,gb,gx,g9,gp,gq⟩
  simp+decide (disch:=try exact D3 i16 k12 k13) only[go_sem,i16,k12,k13]
  refine Qb (fun hci=> ?_) (fun hci=> ?_)
  ·have hi':i<L.length:=by omega
   have htk:L.take (i+1)=L.take i++[L[i]]:=List.take_succ_eq_append_getElem hi'
   have hfb:=hBk.2.1 _ (List.getElem_mem hi')
   have hMb:=hBk.2.2 i hi
   have hll:(fs++L.take i).length<=200:=by
    rw[List.length_append,List.length_take];omega
   have hfl2:=Qdp R (fs++L.take i)
   generalize hf:L[i]=f at *
   have hsn:=Qpd N (L.take i) f
   have hfsn:=Qpe R (fs++L.take i) f
   have hTk:fs++L.take (i+1)=(fs++L.take i)++[f]:=by rw[htk,<-List.append_assoc]
   rw[<-htk]at hsn
   generalize hT:fs++L.take i=T at *
   generalize hZ:Qde N (L.take i)=Z at *
   have hTR:T.length*R<=200*5:=Nat.mul_le_mul hll hR2
   have hrl:(Qad PV.rat f.2 R).length=R:=Qa0 _ _ _
   have hw:=Qva (M:=Z) (f:=f) (k:=50421) (by omega) hMb hfb.1 hfb.2 (by omega)
   simp+decide (disch:=try exact D14 i5 i6 i7 i16 ib g3 gb gx g9 gp gq hf k12 k13) only[go_sem,i5,i6,i7,i16,ib,g3,gb,gx,g9,gp,gq,hf,k12,k13]
   refine Qa hP hw rfl rfl rfl ?_
   simp+decide (disch:=try exact D14 i5 i6 i7 i16 ib g3 gb gx g9 gp gq hf k12 k13) only[go_sem,i5,i6,i7,i16,ib,g3,gb,gx,g9,gp,gq,hf,k12,k13]
   rw[Qaf (f:=PV.rat) (y:=f.1) (xs:=T.map (·.1)) (ty':=51) (fz:=false) (T1 g9) T0 (by omega) (by simp) (by omega) (by omega)]
   simp+decide (disch:=try exact D14 i5 i6 i7 i16 ib g3 gb gx g9 gp gq hf k12 k13) only[go_sem,i5,i6,i7,i16,ib,g3,gb,gx,g9,gp,gq,hf,k12,k13]
   rw[Q09 (xs:=(Qb8 R T).map PV.rat) (T1 gx) (by omega) (by rw[List.length_map,hfl2]) (Qnr hR0) (by rw[hrl];omega) (by rw[hrl];omega) (by omega),hrl]
   simp+decide (disch:=try exact D13 i5 i6 i7 i16 ib g3 gb gx g9 gp gq k12 k13) only[go_sem,i5,i6,i7,i16,ib,g3,gb,gx,g9,gp,gq,k12,k13]
   refine Qa2 (L.length-(i+1)) (by omega) ⟨i+1,rfl,by omega,?_⟩
   rw[hTk,hsn]
   simp+decide (disch:=try exact D12 i5 i6 i7 ib g3 gb gx g9 gp gq k12 k13) only[go_sem,i5,i6,i7,ib,g3,gb,gx,g9,gp,gq,k12,k13]
   refine⟨by rw[List.length_append];rfl,?_,?_,by simp⟩
   ·rw[List.length_append,List.length_singleton,show T.length*R+R=(T.length+1)*R from(Nat.succ_mul _ _).symm]
   ·rw[hfsn,List.map_append,Qgz]
  ·have hiL:i=L.length:=by omega
   subst hiL
   rw[List.take_length]at i5 i6 ib gx g9
   simp (disch:=decide) only[Qca,Qch,Qbj,Qct]
   simp+decide (disch:=try exact D0) only[go_sem]
   refine Qa2 (R-(k+1)) (by omega) ⟨k+1,rfl,hbef1,?_⟩
   rw[hn1,hn2]
   simp+decide (disch:=try exact D8 i5 i6 i7 ib g3 gb gx g9) only[go_sem,i5,i6,i7,ib,g3,gb,gx,g9]
theorem Qagd{l:List Rat}{k:Nat}(hl:l.length<=1048576)(hk:k<=1048576)(hs:∀q∈l,rs q<=k):Qdw (l.map qR):=⟨by rw[List.length_map];exact hl,RRk.of fun q hq=>Nat.le_trans (hs q hq) hk⟩
def Qfm(l:List Rat):Nat->Rat:=fun i=>l.getD i 0
theorem Qaai(l:List Rat):Qad PV.rat (Qfm l) l.length=l.map PV.rat:=by
 refine List.ext_getElem (by simp[Qad]) fun j h1 h2=> ?_
 rw[Qee,List.getElem_map]
 unfold Qfm
 rw[List.getD_eq_getElem?_getD,List.getElem?_eq_getElem (by simpa using h2)];rfl
theorem Qage{l:List Rat}{k:Nat}(hk:1<=k)(h:∀q∈l,rs q<=k)(i:Nat):rs (Qfm l i)<=k:=by
 unfold Qfm
 rw[List.getD_eq_getElem?_getD]
 cases hq:l[i]? with
 |none=>have:=Qzs;show rs 0<=k;omega
 |some q=>exact h q (List.mem_of_getElem? hq)
abbrev redE(e:Int):PV:= .tup [PV.rqs [],PV.rmat 0 0 [],.int .i64 e]
theorem Qamd:PV.le .nilS (PV.rqs []):=trivial
theorem Q1g:Qd Tryz.prog 115 [.sl 1 []] (· = .bool true):=by
 refine Qd8 Qq Tryz.func115 rfl Q31 (by simp[Q0p]) fun C hP=> ?_;simp only[Q0p,Zo,Zg,Zm,Zc,Zf,Zl,Zh,Zs,Zi,Zb,Zk,Zn,Zu,Zq,Zr,Zz]
 simp+decide (disch:=try exact D0) only[go_sem]
 refine Qaa (by repeat (first|exact Qn|exact Qi|exact Qj|exact Qk|exact Ql|apply Qh|apply Qm|apply Qt|apply Qx|apply Qy|apply Qg|apply Qr)) [(2,4),(7,31)] [] (fun q J hp=>J 7= .int .i64 (0:Nat)) 0 ?_ ?_
 ·simp+decide (disch:=try exact D0) only[go_sem]
  rfl
 rintro _ J h h7
 simp+decide (disch:=try exact D1 h7) only[go_sem,h7]
 refine Qeq (Qa9 ?_)
 simp+decide (disch:=try exact D0) only[go_sem]
 exact Qc rfl rfl
theorem Qaaj:Qd Tryz.prog 48 [PV.mat 0 0 []] (· =redE 0):=by
 have c2:=Q2r (l:=[]) (R:=0) (m:=0) rfl (by omega) (by omega)
 have e:Qpc (Qai [] 0) 0 0=[]:=rfl
 rw[e]at c2
 refine Qd8 Qq Tryz.func48 rfl Qaab (by simp[c48]) fun C hP=> ?_;simp only[c48,Zo,Zg,Zm,Zc,Zf,Zl,Zh,Zs,Zi,Zb,Zk,Zn,Zu,Zq,Zr,Zz]
 simp+decide (disch:=try exact D0) only[go_sem]
 refine Qa hP (Qkz (R:=0) (m:=0) (l:=[]) rfl (by omega) (by omega) (fun q hq=>by cases hq)) rfl rfl rfl ?_
 simp+decide (disch:=try exact D0) only[go_sem]
 refine Qa hP c2 rfl rfl rfl ?_
 simp+decide (disch:=try exact D0) only[go_sem]
 refine Qa hP Q1g rfl rfl rfl ?_
 simp+decide (disch:=try exact D0) only[go_sem]
 refine Qb2 (Wk.refl _ _) ?_
 refine Qb2 (Wk.refl _ _) ?_
 refine Qb2 (Wk.refl _ _) ?_
 simp+decide (disch:=try exact D0) only[go_sem]
 refine Qaa (by repeat (first|exact Qn|exact Qi|exact Qj|exact Qk|exact Ql|apply Qh|apply Qm|apply Qt|apply Qx|apply Qy|apply Qg|apply Qr)) [(2,2),(6,6),(8,9),(33,80)] [8,46,47,52] (fun q J hp=>J 33= .int .i64 (0:Nat)/\J 2= .nilS/\hp 3=some ⟨3,24,[.agg [.int .i64 0,.int .i64 0,.nilS]],false⟩) 0 ?_ ?_
 ·simp+decide (disch:=try exact D0) only[go_sem]
  exact⟨rfl,rfl⟩
 rintro _ J h ⟨h33,h2,h3⟩
 simp+decide (disch:=try exact D3 h33 h2 h3) only[go_sem,h33,h2,h3]
 refine Qb2 (Wk.refl _ _) ?_
 simp+decide (disch:=try exact D3 h33 h2 h3) only[go_sem,h33,h2,h3]
 refine Qeq (Q49 ?_)
 simp+decide (disch:=try exact D3 h33 h2 h3) only[go_sem,h33,h2,h3]
 exact Qhf rfl rfl rfl rfl Qamd Qajw (Qac _)
theorem Q4e{R K n:Nat}{M:MF}(hB:Q08 K R n M):∀k,k<=n->∀f∈(Qal R M k).2,rs f.1<=K/\∀c,c<R->rs (f.2 c)<=K
 |0,_,f,hf=>by simp[Qal]at hf
 |k+1,hk,f,hf=>by
  rw[Qqz]at hf
  rcases List.mem_append.1 hf with hf|hf
  ·exact Q4e hB k (by omega) f hf
  ·exact(hB k (by omega)).2.1 f hf
theorem Q20{l:List RTm}{k:Nat}(hb:∀t∈l,RB k t)(hk1:1<=k)(hk:k<=2^24)(hll:l.length<=100):Qd Tryz.prog 91 [PV.rpoly l] (· =PV.poly (Qo1 l)):=by
 have hrs:∀t∈l,rs t.q<=k:=fun t ht=>(RB.raw (hb t ht) hk1).rs
 refine Qf Qq Tryz.func91 rfl Qaoj (by simp[c91]) fun C hP=> ?_;simp only[c91,Zo,Zg,Zm,Zc,Zf,Zl,Zh,Zs,Zi,Zb,Zk,Zn,Zu,Zq,Zr,Zz]
 simp+decide (disch:=try exact D0) only[go_sem]
 refine Qcd 3 900 1 37 (by omega) T0 ?_
 refine Qaa (by repeat (first|exact Qn|exact Qi|exact Qj|exact Qk|exact Ql|apply Qh|apply Qm|apply Qt|apply Qx|apply Qy|apply Qg)) [(3,3),(5,7),(10,51)] [5,49,50,900] (fun n J hp=>∃i,n=l.length-i/\i<=l.length/\J 3= .ms 900 (Qdm (l.take i)).length/\J 10= .int .i64 (i:Nat)/\hp 900=some ⟨1,37,(Qdm (l.take i)).map PV.poly,false⟩) l.length ?_ ?_
 ·refine⟨0,rfl,by omega,?_⟩
  simp+decide (disch:=try exact D0) only[go_sem]
  exact⟨rfl,rfl,rfl⟩
 rintro _ J h ⟨i,rfl,hi,h3,h10,hh⟩
 simp+decide (disch:=try exact D2 h3 h10) only[go_sem,h3,h10]
 refine Qb (fun hg=> ?_) (fun hg=> ?_)
 ·have hi':i<l.length:=by omega
  have hbt:=hb _ (List.getElem_mem hi')
  have htk:=Q2d hi'
  have hpl:=Qhu (l.take i)
  rw[List.length_take]at hpl
  generalize hx:l[i]=x at *
  have hml:=hbt.l
  have htl:=Qey x.m
  have hrx:=(RB.raw hbt hk1).rs
  simp+decide (disch:=try exact D3 h3 h10 hx) only[go_sem,h3,h10,hx]
  refine Qaa (by repeat (first|exact Qn|exact Qi|exact Qj|exact Qk|exact Ql|apply Qh|apply Qm|apply Qt|apply Qx|apply Qy|apply Qg)) [(6,6),(17,29)] [] (fun n J hp=>n<=x.m.length/\Qgt x.m n=Qba x.m/\J 6= .int .i64 (n:Nat)/\hp 5=some ⟨4,95,[PV.rterm x],false⟩/\hp 900=some ⟨1,37,(Qdm (l.take i)).map PV.poly,false⟩) x.m.length ?_ ?_
  ·refine⟨by omega,rfl,?_⟩
   simp+decide (disch:=try exact D1 hh) only[go_sem,hh]
  rintro n J2 h2 ⟨hn,hc,h6,hh5,hh2⟩
  simp+decide (disch:=try exact D2 h6 hh5) only[go_sem,h6,hh5]
  refine Qay (fun hg2=> ?_) (fun hg2=> ?_)
  ·obtain _|n:=n
   ·omega
   have e:((n+1:Nat):Int)-1=n:=by omega
   have hn':n<x.m.length:=by omega
   simp only[Qgt]at hc
   simp+decide (disch:=try exact D3 h6 hh5 e) only[go_sem,h6,hh5,e]
   refine Qb (fun hz=> ?_) (fun hz=> ?_)
   ·rw[if_pos (by simp[hz,hn'])]at hc
    simp+decide (disch:=try exact D3 h6 hh5 e) only[go_sem,h6,hh5,e]
    refine Qp n (by omega) ⟨by omega,hc,?_⟩
    simp+decide (disch:=try exact D2 hh5 hh2) only[go_sem,hh5,hh2]
   ·rw[if_neg (by simpa[hn']using hz)]at hc
    simp+decide (disch:=try exact D3 h6 hh5 e) only[go_sem,h6,hh5,e]
    rw[hc]
    refine Qa hP (Qgw (a:=Qba x.m) (by omega)) rfl rfl rfl ?_
    simp+decide (disch:=try exact D4 h3 h10 h6 hh5) only[go_sem,h3,h10,h6,hh5]
    cases hmo:Qav (Qba x.m)
    ·rw[Qo3 hmo,Option.toList_none,List.filterMap_nil,List.append_nil]at htk
     simp+decide (disch:=try exact D4 h3 h10 h6 hh5) only[go_sem,h3,h10,h6,hh5]
     simp (disch:=decide) only[Qa5,Qbj]
     refine Qp (l.length-(i+1)) (by omega) ⟨i+1,rfl,by omega,?_⟩
     rw[htk]
     simp+decide (disch:=try exact D2 hh2 h3) only[go_sem,hh2,h3]
    rw[Qo2 hmo,Option.toList_some,List.filterMap_cons,List.filterMap_nil]at htk
    simp+decide (disch:=try exact D4 h3 h10 h6 hh5) only[go_sem,h3,h10,h6,hh5]
    refine Qa hP (Qqs (x:=0) (by omega) (by omega)) rfl rfl rfl ?_
    simp+decide (disch:=try exact D4 h3 h10 h6 hh5) only[go_sem,h3,h10,h6,hh5]
    refine Qa hP (Qus (RB.raw hbt hk1) (by omega)) rfl rfl rfl ?_
    simp+decide (disch:=try exact D4 h3 h10 h6 hh5) only[go_sem,h3,h10,h6,hh5]
    refine Qa hP (Qsc (a:=x.m) (by omega)) rfl rfl rfl ?_
    rw[if_pos hmo]
    simp+decide (disch:=try exact D4 h3 h10 h6 hh5) only[go_sem,h3,h10,h6,hh5]
    refine Qa hP (Qps (c:=rv x.n x.a x.d) (m:=Qba x.m) (by omega)) rfl rfl rfl ?_
    by_cases hz:rv x.n x.a x.d=0
    ·rw[show Qht (x.q,Qba x.m)=none from if_pos hz,List.append_nil]at htk
     rw[if_pos hz]
     simp+decide (disch:=try exact D4 h3 h10 h6 hh5) only[go_sem,h3,h10,h6,hh5]
     simp (disch:=decide) only[Qa5,Qbj]
     refine Qp (l.length-(i+1)) (by omega) ⟨i+1,rfl,by omega,?_⟩
     rw[htk]
     simp+decide (disch:=try exact D2 hh2 h3) only[go_sem,hh2,h3]
    ·rw[show Qht (x.q,Qba x.m)=some [(x.q,Qba x.m)]from if_neg hz]at htk
     rw[if_neg hz]
     simp+decide (disch:=try exact D4 h3 h10 h6 hh5) only[go_sem,h3,h10,h6,hh5]
     rw[Qaf (f:=PV.poly) (y:=[(rv x.n x.a x.d,Qba x.m)]) (xs:=Qdm (l.take i)) (ty':=37) (fz:=false) (T1 hh2) Tr0 (by omega) rfl (by omega) (by omega)]
     simp+decide (disch:=try exact D4 h3 h10 h6 hh5) only[go_sem,h3,h10,h6,hh5]
     simp (disch:=decide) only[Qa5,Qbj]
     refine Qp (l.length-(i+1)) (by omega) ⟨i+1,rfl,by omega,?_⟩
     rw[htk]
     simp+decide (disch:=first|omega|rfl|(simp+decide only[go_sem,List.length_append]<;>rfl)|fail) only[go_sem,List.length_append]
     rfl
  ·obtain rfl:n=0:=by omega
   simp+decide (disch:=try exact D2 h6 hh5) only[go_sem,h6,hh5]
   refine Qa hP (Qgw (a:=[]) (by simp)) rfl rfl rfl ?_
   rw[show Qav []=Qav (Qba x.m)by rw[<-hc];rfl]
   simp+decide (disch:=try exact D4 h3 h10 h6 hh5) only[go_sem,h3,h10,h6,hh5]
   cases hmo:Qav (Qba x.m)
   ·rw[Qo3 hmo,Option.toList_none,List.filterMap_nil,List.append_nil]at htk
    simp+decide (disch:=try exact D4 h3 h10 h6 hh5) only[go_sem,h3,h10,h6,hh5]
    simp (disch:=decide) only[Qa5,Qbj]
    refine Qp (l.length-(i+1)) (by omega) ⟨i+1,rfl,by omega,?_⟩
    rw[htk]
    simp+decide (disch:=try exact D2 hh2 h3) only[go_sem,hh2,h3]
   rw[Qo2 hmo,Option.toList_some,List.filterMap_cons,List.filterMap_nil]at htk
   simp+decide (disch:=try exact D4 h3 h10 h6 hh5) only[go_sem,h3,h10,h6,hh5]
   refine Qa hP (Qqs (x:=0) (by omega) (by omega)) rfl rfl rfl ?_
   simp+decide (disch:=try exact D4 h3 h10 h6 hh5) only[go_sem,h3,h10,h6,hh5]
   refine Qa hP (Qus (RB.raw hbt hk1) (by omega)) rfl rfl rfl ?_
   simp+decide (disch:=try exact D4 h3 h10 h6 hh5) only[go_sem,h3,h10,h6,hh5]
   refine Qa hP (Qsc (a:=x.m) (by omega)) rfl rfl rfl ?_
   rw[if_pos hmo]
   simp+decide (disch:=try exact D4 h3 h10 h6 hh5) only[go_sem,h3,h10,h6,hh5]
   refine Qa hP (Qps (c:=rv x.n x.a x.d) (m:=Qba x.m) (by omega)) rfl rfl rfl ?_
   by_cases hz:rv x.n x.a x.d=0
   ·rw[show Qht (x.q,Qba x.m)=none from if_pos hz,List.append_nil]at htk
    rw[if_pos hz]
    simp+decide (disch:=try exact D4 h3 h10 h6 hh5) only[go_sem,h3,h10,h6,hh5]
    simp (disch:=decide) only[Qa5,Qbj]
    refine Qp (l.length-(i+1)) (by omega) ⟨i+1,rfl,by omega,?_⟩
    rw[htk]
    simp+decide (disch:=try exact D2 hh2 h3) only[go_sem,hh2,h3]
   ·rw[show Qht (x.q,Qba x.m)=some [(x.q,Qba x.m)]from if_neg hz]at htk
    rw[if_neg hz]
    simp+decide (disch:=try exact D4 h3 h10 h6 hh5) only[go_sem,h3,h10,h6,hh5]
    rw[Qaf (f:=PV.poly) (y:=[(rv x.n x.a x.d,Qba x.m)]) (xs:=Qdm (l.take i)) (ty':=37) (fz:=false) (T1 hh2) Tr0 (by omega) rfl (by omega) (by omega)]
    simp+decide (disch:=try exact D4 h3 h10 h6 hh5) only[go_sem,h3,h10,h6,hh5]
    simp (disch:=decide) only[Qa5,Qbj]
    refine Qp (l.length-(i+1)) (by omega) ⟨i+1,rfl,by omega,?_⟩
    rw[htk]
    simp+decide (disch:=first|omega|rfl|(simp+decide only[go_sem,List.length_append]<;>rfl)|fail) only[go_sem,List.length_append]
    rfl
 ·obtain rfl:i=l.length:=by omega
  rw[List.take_length]at hh h3
  have hpl:=Qhu l
  have hpn:=Qr7 l
  have hK:(Qdm l).length*(k+1)<=100*(2^24+1):=Nat.mul_le_mul (by omega) (by omega)
  simp+decide (disch:=try exact D2 h3 hh) only[go_sem,h3,hh]
  refine Qdy hP (Q57 (K:=k+1) (E:=1048576) (by omega) _ (Qdm l) (Nat.le_refl _) (Qxd hrs) (by omega) (by omega) (by omega)) (by simp+decide (disch:=try exact E1 hh) only[go_sem,hh,Qab,List.contains_cons,List.contains_nil,List.flatMap_cons,List.flatMap_nil,List.append_nil];simp[List.take_of_length_le]) rfl ?_
  simp+decide (disch:=try exact D0) only[go_sem]
  exact Qc rfl rfl
abbrev PV.sqs(l:List Sq):PV:= .sl 4 (l.map PV.sq)
theorem Qnx:PV.le .nilS (PV.sqs []):=trivial
def Ql2(L:List Tm):List Tm:=Qo1 (L.map toR)
def Qc8(bs:List (List Int))(f:LF):List Tm:=(List.range bs.length).map fun k=>(f.2 k,bs.getD k [])
def fgS(bs:List (List Int))(f:LF):Sq:=(f.1,Ql2 (Qc8 bs f))
def fgR(bs:List (List Int))(fs:List LF):PV:=if(fs.all fun f=>decide (0<=f.1))=true then .tup [PV.sqs (fs.map (fgS bs)),.int .i64 0]else .tup [PV.sqs [],.int .i64 17]
theorem Qarm(t:Tm):(toR t).q=t.1:=Qck t.1
theorem Qagf{L:List Tm}{k:Nat}(hb:∀t∈L,rs t.1<=k/\t.2.length<2^40)(hk1:1<=k)(hk:k<=2^24)(hl:L.length<=100):Qd Tryz.prog 91 [PV.poly L] (· =PV.poly (Ql2 L)):=by
 have h:=Q20 (l:=L.map toR) (k:=k) (fun t ht=>by
  obtain⟨s,hs,rfl⟩:=List.mem_map.1 ht
  exact Q0i (hb s hs).1 (hb s hs).2) hk1 hk (by rw[List.length_map];exact hl)
 rwa[Qs8]at h
theorem Qaak{L:List Tm}{k:Nat}(hb:∀t∈L,rs t.1<=k/\t.2.length<2^40)(hk1:1<=k)(hk:k<=2^24)(hl:L.length<=100):Qd Tryz.prog 94 [PV.poly L] (· =PV.poly (Ql2 L)):=by
 have h:=Q0x (l:=L.map toR) (k:=k) (fun t ht=>by
  obtain⟨s,hs,rfl⟩:=List.mem_map.1 ht
  exact Q0i (hb s hs).1 (hb s hs).2) hk1 hk (by rw[List.length_map];exact hl)
 rwa[Qs8,Qxc]at h
theorem Q6l{L:List Tm}{k:Nat}(hb:∀t∈L,rs t.1<=k):PB (L.length*(k+1)) 1048576 (Ql2 L)/\(Ql2 L).length<=L.length/\Nrm (Ql2 L):=by
 have h:=Qr8 (l:=L.map toR) (k:=k) (fun t ht=>by
  obtain⟨s,hs,rfl⟩:=List.mem_map.1 ht
  rw[Qarm];exact hb s hs)
 rw[List.length_map]at h
 exact⟨h.1,h.2,Qxb _⟩
theorem Qfq(bs:List (List Int))(f:LF):(Qc8 bs f).length=bs.length:=by simp[Qc8]
theorem Qxq{bs:List (List Int)}{f:LF}{k:Nat}(h:k<bs.length):(Qc8 bs f)[k]'(by rw[Qfq];exact h)=(f.2 k,bs[k]):=by
 simp[Qc8,h]
theorem Qvb{bs:List (List Int)}{f:LF}{k:Nat}(h:k<bs.length):(Qc8 bs f).take (k+1)=(Qc8 bs f).take k++[(f.2 k,bs[k])]:=by
 rw[List.take_succ_eq_append_getElem (by rw[Qfq];exact h),Qxq h]
theorem Qlj{R:Nat}:∀(fs:List LF)(i c:Nat)(hi:i<fs.length),c<R->(Qb8 R fs).getD (i*R+c) 0=(fs[i]).2 c
 | [],i,c,hi,hc=>by simp at hi
 | f::fs,i,c,hi,hc=>by
  have e:Qb8 R (f::fs)=(List.range R).map f.2++Qb8 R fs:=by simp[Qb8]
  rw[e]
  cases i with
  |zero=>
   rw[Nat.zero_mul,Nat.zero_add,List.getD_eq_getElem?_getD,List.getElem?_append_left (by simpa using hc)]
   simp[hc]
  |succ i=>
   have ih:=Qlj (R:=R) fs i c (by simpa using hi) hc
   rw[List.getD_eq_getElem?_getD,List.getElem?_append_right (by simp[Nat.succ_mul];omega)]
   rw[List.getD_eq_getElem?_getD]at ih
   have e2:(i+1)*R+c-((List.range R).map f.2).length=i*R+c:=by simp[Nat.succ_mul];omega
   rw[e2,ih]
   simp
theorem Q4f{R:Nat}{fs:List LF}{i c:Nat}(hi:i<fs.length)(hc:c<R):∃h:i*R+c<(Qb8 R fs).length,(Qb8 R fs)[i*R+c]=(fs[i]).2 c:=by
 have hl:i*R+c<(Qb8 R fs).length:=by
  rw[Qdp]
  have:(i+1)*R<=fs.length*R:=Nat.mul_le_mul_right _ hi
  rw[Nat.succ_mul]at this
  omega
 refine⟨hl,?_⟩
 have:=Qlj (R:=R) fs i c hi hc
 rw[List.getD_eq_getElem?_getD,List.getElem?_eq_getElem hl]at this
 exact this
structure Q1h(K R:Nat)(bs:List (List Int))(fs:List LF):Prop where
 b:bs.length=R
 m:∀b∈bs,b.length<2^40
 r:R<=40
 l:fs.length<=200
 f:∀f∈fs,rs f.1<=K/\∀c,c<R->rs (f.2 c)<=K
 k:K<=2^24
 k1:1<=K
theorem Q1h.t{K R:Nat}{bs:List (List Int)}{fs:List LF}(h:Q1h K R bs fs){f:LF}(hf:f∈fs):∀t∈Qc8 bs f,rs t.1<=K/\t.2.length<2^40:=fun t ht=>by
 obtain⟨k,hk,rfl⟩:=List.getElem_of_mem ht
 rw[Qfq]at hk
 rw[Qxq hk]
 exact⟨(h.f f hf).2 k (by have:=h.b;omega),h.m _ (List.getElem_mem _)⟩
theorem Qje{K R:Nat}{bs:List (List Int)}{la:List Rat}{fs:List LF}(h:Q1h K R bs fs)(hcf:Qd Tryz.prog 90 [PV.monos bs,PV.mat R R la] (· = .int .i64 0))(hred:Qd Tryz.prog 48 [PV.mat R R la] (· =Qph R fs)):
  Qd Tryz.prog 29 [PV.monos bs,PV.mat R R la] (· =fgR bs fs):=by
 have hbl:=h.b
 have hR:=h.r
 have hfl:=h.l
 have hflen:=Qdp R fs
 have hfR:fs.length*R<=200*40:=Nat.mul_le_mul hfl hR
 have hbad:∀i (hi:i<fs.length),fs[i].1<0->fgR bs fs= .tup [PV.sqs [],.int .i64 17]:=fun i hi h=>by
  have:(fs.all fun f=>decide (0<=f.1))=false:=by
   rw[List.all_eq_false];exact⟨_,List.getElem_mem hi,by simp;grind⟩
  rw[fgR,this,if_neg (by decide)]
 have hall:(∀j (h:j<fs.length),0<=fs[j].1)->fgR bs fs= .tup [PV.sqs (fs.map (fgS bs)),.int .i64 0]:=fun h=>by
  have:(fs.all fun f=>decide (0<=f.1))=true:=by
   rw[List.all_eq_true]
   intro t ht
   obtain⟨j,hj,rfl⟩:=List.getElem_of_mem ht
   exact decide_eq_true (h j hj)
  rw[fgR,if_pos this]
 have hWl:(fs.map (·.1)).length=fs.length:=List.length_map _
 have hWg:∀i (hi:i<fs.length) (hi2:i<(fs.map (·.1)).length),(fs.map (·.1))[i]=fs[i].1:=fun i hi hi2=>List.getElem_map ..
 unfold Qph at hred
 generalize fs.map (·.1)=W at *
 refine Qf Qq Tryz.func29 rfl Q9n (by simp[c29]) fun C hP=> ?_;simp only[c29,Zo,Zg,Zm,Zc,Zf,Zl,Zh,Zs,Zi,Zb,Zk,Zn,Zu,Zq,Zr,Zz]
 simp+decide (disch:=try exact D0) only[go_sem]
 refine Qa hP hcf rfl rfl rfl ?_
 simp+decide (disch:=try exact D0) only[go_sem]
 refine Qa hP hred rfl rfl rfl ?_
 simp+decide (disch:=try exact D0) only[go_sem]
 refine Qcd 10 901 4 65 (by omega) T0 ?_
 refine Qaa (by repeat (first|exact Qn|exact Qi|exact Qj|exact Qk|exact Ql|apply Qh|apply Qm|apply Qt|apply Qx|apply Qy|apply Qg|apply Qr)) [(4,5),(10,15),(33,71)] [12,61,62,69,70,900,901] (fun q J hp=>∃i,q=fs.length-i/\i<=fs.length/\(∀j (h:j<fs.length),j<i->0<=fs[j].1)/\J 10= .ms 901 i/\J 33= .int .i64 (i:Nat)/\hp 8=some ⟨3,24,[PV.mat fs.length R (Qb8 R fs)],false⟩/\hp 901=some ⟨4,65,((fs.take i).map (fgS bs)).map PV.sq,false⟩) fs.length ?_ ?_
 ·refine⟨0,rfl,by omega,by omega,?_⟩
  simp+decide (disch:=try exact D0) only[go_sem]
  rfl
 rintro _ J h' ⟨i,rfl,hi,hpos,j10,j33,b8,b9⟩
 simp+decide (disch:=try exact D1 j33) only[go_sem,j33]
 refine Qb (fun hg=> ?_) (fun hg=> ?_)
 ·have hi':i<fs.length:=by omega
  have hmem:=List.getElem_mem hi'
  have hfm:=h.f _ hmem
  have hft:=h.t hmem
  have hat:=fun c (hc:c<R)=>Q4f hi' hc
  have hbi:=hbad i hi'
  have hadd:0<=fs[i].1->∀j (h:j<fs.length),j<i+1->0<=fs[j].1:=fun h j hj hji=>by
   by_cases e:j=i
   ·subst e;exact h
   ·exact hpos j hj (by omega)
  have htk:(fs.take (i+1)).map (fgS bs)=(fs.take i).map (fgS bs)++[fgS bs fs[i]]:=by
   rw[List.take_succ_eq_append_getElem hi',List.map_append];rfl
  have hfi:fs[i]∈fs:=hmem
  generalize hx:fs[i]=f at *
  have hsg:=Qgx (a:=f.1) (by have:=h.k;omega)
  have hsn:= @Qlt f.1
  have hWi:=hWg i hi' (by omega)
  rw[hx]at hWi
  simp+decide (disch:=try exact D2 j33 hWi) only[go_sem,j33,hWi]
  refine Qa hP hsg rfl rfl rfl ?_
  simp+decide (disch:=try exact D0) only[go_sem]
  refine Qb (fun h0=> ?_) (fun h0=> ?_)
  ·simp+decide (disch:=try exact D0) only[go_sem]
   exact Qe4 (r:=fgR bs fs) (hbi (hsn.1 h0)) rfl rfl Qnx (Qac _)
  have hge:0<=f.1:=by
   have:¬f.1<0:=fun g=>h0 (hsn.2 g)
   grind
  have hfT:=Qfq bs f
  simp+decide (disch:=try exact D0) only[go_sem]
  refine Qcd 13 900 4 95 (by omega) T0 ?_
  refine Qaa (by repeat (first|exact Qn|exact Qi|exact Qj|exact Qk|exact Ql|apply Qh|apply Qm|apply Qt|apply Qx|apply Qy|apply Qg|apply Qr)) [(13,15),(43,63)] [61,62,900] (fun q J hp=>∃k,q=bs.length-k/\k<=bs.length/\J 13= .ms 900 k/\J 43= .int .i64 (k:Nat)/\hp 8=some ⟨3,24,[PV.mat fs.length R (Qb8 R fs)],false⟩/\hp 12=some ⟨3,51,[PV.rat f.1],false⟩/\hp 900=some ⟨4,95,((Qc8 bs f).take k).map PV.term,false⟩/\
    hp 901=some ⟨4,65,((fs.take i).map (fgS bs)).map PV.sq,false⟩) bs.length ?_ ?_
  ·refine⟨0,rfl,by omega,?_⟩
   simp+decide (disch:=try exact D2 b8 b9) only[go_sem,b8,b9]
   rfl
  rintro _ J2 h2 ⟨k,rfl,hk,g13,g43,c8,c12,c9,c1⟩
  simp+decide (disch:=try exact D1 g43) only[go_sem,g43]
  refine Qb (fun hg2=> ?_) (fun hg2=> ?_)
  ·have hk':k<bs.length:=by omega
   have hst:=Qvb (f:=f) hk'
   obtain⟨a1,a2⟩:=hat k (by omega)
   have hTl:((Qc8 bs f).take k).length=k:=by rw[List.length_take];omega
   generalize(Qc8 bs f).take k=T at *
   generalize hy:bs[k]=y at *
   simp+decide (disch:=first|omega|rfl|(simp+decide only[go_sem,g13,g43,j33,c8,c9,hy,a2]<;>rfl)|fail) only[go_sem,g13,g43,j33,c8,c9,hy,a2]
   rw[Qaf (f:=PV.term) (y:=(f.2 k,y)) (xs:=T) (ty':=95) (fz:=false) (T1 c9) Tr0 (by omega) hTl.symm (by omega) (by omega)]
   simp+decide (disch:=try exact D1 g43) only[go_sem,g43]
   refine Qp (bs.length-(k+1)) (by omega) ⟨k+1,rfl,by omega,?_⟩
   rw[hst]
   simp+decide (disch:=first|omega|rfl|(simp+decide only[go_sem,c8,c12,c1]<;>rfl)|fail) only[go_sem,c8,c12,c1]
  ·obtain rfl:k=bs.length:=by omega
   have hno:=Qagf (k:=K) hft h.k1 h.k (by omega)
   have hfull:(Qc8 bs f).take bs.length=Qc8 bs f:=List.take_of_length_le (by omega)
   rw[hfull]at c9
   have hsq:fgS bs f=(f.1,Ql2 (Qc8 bs f)):=rfl
   have hTl:((fs.take i).map (fgS bs)).length=i:=by rw[List.length_map,List.length_take];omega
   generalize(fs.take i).map (fgS bs)=T at *
   generalize Qc8 bs f=U at *
   have hsn2:List.take bs.length (U.map PV.term)=U.map PV.term:=List.take_of_length_le (by rw[List.length_map];omega)
   simp (disch:=decide) only[Qa5,Qbj,Qjr]
   simp+decide (disch:=first|omega|rfl|(simp+decide only[go_sem,j10,j33,g13,c8,c12,c9,c1]<;>rfl)|fail) only[go_sem,j10,j33,g13,c8,c12,c9,c1]
   refine Qdy hP hno (Ur2 hsn2 c9) rfl ?_
   generalize Ql2 U=V at *
   simp+decide (disch:=first|omega|rfl|(simp+decide only[go_sem,Qab,List.contains_cons,List.contains_nil,List.flatMap_cons,List.flatMap_nil,List.append_nil,j10,j33,g13,c8,c12,c9,c1]<;>rfl)|fail) only[go_sem,Qab,List.contains_cons,List.contains_nil,List.flatMap_cons,List.flatMap_nil,List.append_nil,j10,j33,g13,c8,c12,c9,c1]
   rw[Qaf (f:=PV.sq) (y:=(f.1,V)) (xs:=T) (ty':=65) (fz:=false) (U1 c1) Ur0 (by omega) hTl.symm (by omega) (by omega)]
   simp+decide (disch:=try exact E1 j33) only[go_sem,Qab,List.contains_cons,List.contains_nil,List.flatMap_cons,List.flatMap_nil,List.append_nil,j33]
   refine Qp (fs.length-(i+1)) (by omega) ⟨i+1,rfl,by omega,hadd hge,?_⟩
   rw[htk,hsq]
   simp+decide (disch:=first|omega|rfl|(simp+decide only[go_sem,Qab,List.contains_cons,List.contains_nil,List.flatMap_cons,List.flatMap_nil,List.append_nil,c8]<;>rfl)|fail) only[go_sem,Qab,List.contains_cons,List.contains_nil,List.flatMap_cons,List.flatMap_nil,List.append_nil,c8]
 ·obtain rfl:i=fs.length:=by omega
  have hr:=hall fun j hj=>hpos j hj hj
  have htf:((fs.take fs.length).map (fgS bs))=fs.map (fgS bs):=by rw[List.take_length]
  rw[htf]at b9
  have hsn2:List.take fs.length ((fs.map (fgS bs)).map PV.sq)=(fs.map (fgS bs)).map PV.sq:=List.take_of_length_le (by simp)
  simp+decide (disch:=try exact E3 j10 b9 hsn2) only[go_sem,j10,b9,Qab,List.contains_cons,List.contains_nil,List.flatMap_cons,List.flatMap_nil,List.append_nil,hsn2]
  exact Qe4 (r:=fgR bs fs) hr rfl rfl (Qac _) (Qac _)
theorem Qvc{K R:Nat}{bs:List (List Int)}{la:List Rat}{fs:List LF}(h:Q1h K R bs fs)(hcf:Qd Tryz.prog 92 [PV.monos bs,PV.mat R R la] (· = .int .i64 0))(hred:Qd Tryz.prog 93 [PV.mat R R la] (· =Qph R fs)):
  Qd Tryz.prog 30 [PV.monos bs,PV.mat R R la] (· =fgR bs fs):=by
 have hbl:=h.b
 have hR:=h.r
 have hfl:=h.l
 have hflen:=Qdp R fs
 have hfR:fs.length*R<=200*40:=Nat.mul_le_mul hfl hR
 have hbad:∀i (hi:i<fs.length),fs[i].1<0->fgR bs fs= .tup [PV.sqs [],.int .i64 17]:=fun i hi h=>by
  have:(fs.all fun f=>decide (0<=f.1))=false:=by
   rw[List.all_eq_false];exact⟨_,List.getElem_mem hi,by simp;grind⟩
  rw[fgR,this,if_neg (by decide)]
 have hall:(∀j (h:j<fs.length),0<=fs[j].1)->fgR bs fs= .tup [PV.sqs (fs.map (fgS bs)),.int .i64 0]:=fun h=>by
  have:(fs.all fun f=>decide (0<=f.1))=true:=by
   rw[List.all_eq_true]
   intro t ht
   obtain⟨j,hj,rfl⟩:=List.getElem_of_mem ht
   exact decide_eq_true (h j hj)
  rw[fgR,if_pos this]
 have hWl:(fs.map (·.1)).length=fs.length:=List.length_map _
 have hWg:∀i (hi:i<fs.length) (hi2:i<(fs.map (·.1)).length),(fs.map (·.1))[i]=fs[i].1:=fun i hi hi2=>List.getElem_map ..
 unfold Qph at hred
 generalize fs.map (·.1)=W at *
 refine Qf Qq Tryz.func30 rfl Q9o (by simp[c30]) fun C hP=> ?_;simp only[c30,Zo,Zg,Zm,Zc,Zf,Zl,Zh,Zs,Zi,Zb,Zk,Zn,Zu,Zq,Zr,Zz]
 simp+decide (disch:=try exact D0) only[go_sem]
 refine Qa hP hcf rfl rfl rfl ?_
 simp+decide (disch:=try exact D0) only[go_sem]
 refine Qa hP hred rfl rfl rfl ?_
 simp+decide (disch:=try exact D0) only[go_sem]
 refine Qcd 10 901 4 65 (by omega) T0 ?_
 refine Qaa (by repeat (first|exact Qn|exact Qi|exact Qj|exact Qk|exact Ql|apply Qh|apply Qm|apply Qt|apply Qx|apply Qy|apply Qg|apply Qr)) [(4,5),(10,13),(26,71)] [60,61,70,71,900,901] (fun q J hp=>∃i,q=fs.length-i/\i<=fs.length/\(∀j (h:j<fs.length),j<i->0<=fs[j].1)/\J 10= .ms 901 i/\J 11= .int .i64 (i:Nat)/\hp 8=some ⟨3,24,[PV.mat fs.length R (Qb8 R fs)],false⟩/\hp 901=some ⟨4,65,((fs.take i).map (fgS bs)).map PV.sq,false⟩) fs.length ?_ ?_
 ·refine⟨0,rfl,by omega,by omega,?_⟩
  simp+decide (disch:=try exact D0) only[go_sem]
  rfl
 rintro _ J h' ⟨i,rfl,hi,hpos,j10,j11,b8,b9⟩
 simp+decide (disch:=try exact D1 j11) only[go_sem,j11]
 refine Qb (fun hg=> ?_) (fun hg=> ?_)
 ·have hi':i<fs.length:=by omega
  have hmem:=List.getElem_mem hi'
  have hfm:=h.f _ hmem
  have hft:=h.t hmem
  have hat:=fun c (hc:c<R)=>Q4f hi' hc
  have hbi:=hbad i hi'
  have hadd:0<=fs[i].1->∀j (h:j<fs.length),j<i+1->0<=fs[j].1:=fun h j hj hji=>by
   by_cases e:j=i
   ·subst e;exact h
   ·exact hpos j hj (by omega)
  have htk:(fs.take (i+1)).map (fgS bs)=(fs.take i).map (fgS bs)++[fgS bs fs[i]]:=by
   rw[List.take_succ_eq_append_getElem hi',List.map_append];rfl
  have hfi:fs[i]∈fs:=hmem
  generalize hx:fs[i]=f at *
  have hsg:=Qic (a:=f.1) (by have:=h.k;omega)
  have hsn:= @Qlt f.1
  have hWi:=hWg i hi' (by omega)
  rw[hx]at hWi
  simp+decide (disch:=try exact D2 j11 hWi) only[go_sem,j11,hWi]
  refine Qa hP hsg rfl rfl rfl ?_
  simp+decide (disch:=try exact D0) only[go_sem]
  refine Qb (fun h0=> ?_) (fun h0=> ?_)
  ·simp+decide (disch:=try exact D0) only[go_sem]
   exact Qe4 (r:=fgR bs fs) (hbi (hsn.1 h0)) rfl rfl Qnx (Qac _)
  have hge:0<=f.1:=by
   have:¬f.1<0:=fun g=>h0 (hsn.2 g)
   grind
  have hfT:=Qfq bs f
  simp+decide (disch:=try exact D0) only[go_sem]
  refine Qcd 12 900 4 95 (by omega) T0 ?_
  refine Qaa (by repeat (first|exact Qn|exact Qi|exact Qj|exact Qk|exact Ql|apply Qh|apply Qm|apply Qt|apply Qx|apply Qy|apply Qg|apply Qr)) [(12,13),(38,61)] [60,61,900] (fun q J hp=>∃k,q=bs.length-k/\k<=bs.length/\J 12= .ms 900 k/\J 13= .int .i64 (k:Nat)/\hp 8=some ⟨3,24,[PV.mat fs.length R (Qb8 R fs)],false⟩/\hp 900=some ⟨4,95,((Qc8 bs f).take k).map PV.term,false⟩/\
    hp 901=some ⟨4,65,((fs.take i).map (fgS bs)).map PV.sq,false⟩) bs.length ?_ ?_
  ·refine⟨0,rfl,by omega,?_⟩
   simp+decide (disch:=try exact D2 b8 b9) only[go_sem,b8,b9]
   rfl
  rintro _ J2 h2 ⟨k,rfl,hk,g13,g43,c8,c9,c1⟩
  simp+decide (disch:=try exact D1 g43) only[go_sem,g43]
  refine Qb (fun hg2=> ?_) (fun hg2=> ?_)
  ·have hk':k<bs.length:=by omega
   have hst:=Qvb (f:=f) hk'
   obtain⟨a1,a2⟩:=hat k (by omega)
   have hTl:((Qc8 bs f).take k).length=k:=by rw[List.length_take];omega
   generalize(Qc8 bs f).take k=T at *
   generalize hy:bs[k]=y at *
   simp+decide (disch:=first|omega|rfl|(simp+decide only[go_sem,g13,g43,j11,c8,c9,hy,a2]<;>rfl)|fail) only[go_sem,g13,g43,j11,c8,c9,hy,a2]
   rw[Qaf (f:=PV.term) (y:=(f.2 k,y)) (xs:=T) (ty':=95) (fz:=false) (T1 c9) Tr0 (by omega) hTl.symm (by omega) (by omega)]
   simp+decide (disch:=try exact D1 g43) only[go_sem,g43]
   refine Qp (bs.length-(k+1)) (by omega) ⟨k+1,rfl,by omega,?_⟩
   rw[hst]
   simp+decide (disch:=first|omega|rfl|(simp+decide only[go_sem,c8,c1]<;>rfl)|fail) only[go_sem,c8,c1]
  ·obtain rfl:k=bs.length:=by omega
   have hno:=Qaak (k:=K) hft h.k1 h.k (by omega)
   have hfull:(Qc8 bs f).take bs.length=Qc8 bs f:=List.take_of_length_le (by omega)
   rw[hfull]at c9
   have hsq:fgS bs f=(f.1,Ql2 (Qc8 bs f)):=rfl
   have hTl:((fs.take i).map (fgS bs)).length=i:=by rw[List.length_map,List.length_take];omega
   generalize(fs.take i).map (fgS bs)=T at *
   generalize Qc8 bs f=U at *
   have hsn2:List.take bs.length (U.map PV.term)=U.map PV.term:=List.take_of_length_le (by rw[List.length_map];omega)
   simp (disch:=decide) only[Qa5,Qbj,Qjr]
   simp+decide (disch:=first|omega|rfl|(simp+decide only[go_sem,j10,j11,g13,c8,c9,c1,hWi]<;>rfl)|fail) only[go_sem,j10,j11,g13,c8,c9,c1,hWi]
   refine Qdy hP hno (Ur2 hsn2 c9) rfl ?_
   generalize Ql2 U=V at *
   simp+decide (disch:=first|omega|rfl|(simp+decide only[go_sem,Qab,List.contains_cons,List.contains_nil,List.flatMap_cons,List.flatMap_nil,List.append_nil,j10,j11,g13,c8,c9,c1,hWi]<;>rfl)|fail) only[go_sem,Qab,List.contains_cons,List.contains_nil,List.flatMap_cons,List.flatMap_nil,List.append_nil,j10,j11,g13,c8,c9,c1,hWi]
   rw[Qaf (f:=PV.sq) (y:=(f.1,V)) (xs:=T) (ty':=65) (fz:=false) (U1 c1) Ur0 (by omega) hTl.symm (by omega) (by omega)]
   simp+decide (disch:=try exact E1 j11) only[go_sem,Qab,List.contains_cons,List.contains_nil,List.flatMap_cons,List.flatMap_nil,List.append_nil,j11]
   refine Qp (fs.length-(i+1)) (by omega) ⟨i+1,rfl,by omega,hadd hge,?_⟩
   rw[htk,hsq]
   simp+decide (disch:=first|omega|rfl|(simp+decide only[go_sem,Qab,List.contains_cons,List.contains_nil,List.flatMap_cons,List.flatMap_nil,List.append_nil,c8]<;>rfl)|fail) only[go_sem,Qab,List.contains_cons,List.contains_nil,List.flatMap_cons,List.flatMap_nil,List.append_nil,c8]
 ·obtain rfl:i=fs.length:=by omega
  have hr:=hall fun j hj=>hpos j hj hj
  have htf:((fs.take fs.length).map (fgS bs))=fs.map (fgS bs):=by rw[List.take_length]
  rw[htf]at b9
  have hsn2:List.take fs.length ((fs.map (fgS bs)).map PV.sq)=(fs.map (fgS bs)).map PV.sq:=List.take_of_length_le (by simp)
  simp+decide (disch:=try exact E3 j10 b9 hsn2) only[go_sem,j10,b9,Qab,List.contains_cons,List.contains_nil,List.flatMap_cons,List.flatMap_nil,List.append_nil,hsn2]
  exact Qe4 (r:=fgR bs fs) hr rfl rfl (Qac _) (Qac _)
theorem Qtd{R:Nat}{la:List Rat}(hlen:la.length=R*R)(hr5:R<=5)(sl:∀q∈la,rs q<=3)(hsy:Qhk (Qai la R) R):
  ∃fs:List LF,fs=(Qal R (Qai la R) (2*R)).2/\Qd Tryz.prog 48 [PV.mat R R la] (· =Qph R fs)/\Qd Tryz.prog 93 [PV.mat R R la] (· =Qph R fs)/\fs.length<=20/\∀f∈fs,rs f.1<=50421/\∀c,c<R->rs (f.2 c)<=50421:=by
 have sl':∀q∈la,rs q<=1048576:=fun q hq=>by have:=sl q hq;omega
 have c2:=Qaah hlen hr5 sl hsy
 by_cases hR0:R=0
 ·subst hR0
  obtain rfl:la=[]:=List.eq_nil_of_length_eq_zero (by omega)
  refine⟨_,rfl,?_,c2,by simp[Qal],by simp[Qal]⟩
  have c1:=Qaaj
  exact c1
 ·have hSym:=Q1f hsy
  have hM3:MBd 3 R R (Qai la R):=fun r _ c _=>Qjd (by omega) sl
  have hRB:Q08 50421 R (2*R) (Qai la R):=fun k hk=>by
   have h:=Q4c (n:=2*R) hSym (by omega) hM3 k hk
   have e:3*7^R<=3*7^5:=Nat.mul_le_mul_left _ (Nat.pow_le_pow_right (by omega) hr5)
   exact⟨fun r hr c hc=>Nat.le_trans (h.1 r hr c hc) e,fun f hf=>⟨Nat.le_trans (h.2.1 f hf).1 e,fun c hc=>Nat.le_trans ((h.2.1 f hf).2 c hc) e⟩,fun j hj r hr c hc=>Nat.le_trans (h.2.2 j hj r hr c hc) e⟩
  have c1:=Qaf6 hlen (by omega) (by omega) sl' (by omega) hRB hsy
  have hfs:=Q4e hRB (2*R) (Nat.le_refl _)
  have hln:=Qjt R (Qai la R) (2*R)
  exact⟨_,rfl,c1,c2,by omega,hfs⟩
theorem Qvd{bs:List (List Int)}{r c e:Int}{l:List RQ}(he:e≠0)(hcf:Qd Tryz.prog 90 [PV.monos bs,PV.rmat r c l] (· = .int .i64 e)):Qd Tryz.prog 29 [PV.monos bs,PV.rmat r c l] (· = .tup [PV.sqs [],.int .i64 e]):=by
 refine Qf Qq Tryz.func29 rfl Q9n (by simp[c29]) fun C hP=> ?_;simp only[c29,Zo,Zg,Zm,Zc,Zf,Zl,Zh,Zs,Zi,Zb,Zk,Zn,Zu,Zq,Zr,Zz]
 simp+decide (disch:=try exact D0) only[go_sem]
 refine Qa hP hcf rfl rfl rfl ?_
 simp+decide (disch:=try exact D0) only[go_sem]
 refine Qb (fun h0=> ?_) (fun h0=>absurd he h0)
 simp+decide (disch:=try exact D0) only[go_sem]
 exact Qe4 (r:= .tup [PV.sqs [],.int .i64 e]) rfl rfl rfl Qnx (Qac _)
theorem Qte{bs:List (List Int)}{r c e:Int}{l:List RQ}(he:e≠0)(hcf:Qd Tryz.prog 92 [PV.monos bs,PV.rmat r c l] (· = .int .i64 e)):Qd Tryz.prog 30 [PV.monos bs,PV.rmat r c l] (· = .tup [PV.sqs [],.int .i64 e]):=by
 refine Qf Qq Tryz.func30 rfl Q9o (by simp[c30]) fun C hP=> ?_;simp only[c30,Zo,Zg,Zm,Zc,Zf,Zl,Zh,Zs,Zi,Zb,Zk,Zn,Zu,Zq,Zr,Zz]
 simp+decide (disch:=try exact D0) only[go_sem]
 refine Qa hP hcf rfl rfl rfl ?_
 simp+decide (disch:=try exact D0) only[go_sem]
 refine Qb (fun h0=> ?_) (fun h0=>absurd he h0)
 simp+decide (disch:=try exact D0) only[go_sem]
 exact Qe4 (r:= .tup [PV.sqs [],.int .i64 e]) rfl rfl rfl Qnx (Qac _)
structure SqBd(x:Sq):Prop where
 w:rs x.1<=1048576
 b:PB 16777216 1048576 x.2
 l:x.2.length<=1000
theorem Qap6{bs:List (List Int)}{r c:Int}{l:List RQ}(hm:mxB bs l=true)(hl:Qdw l):
  ∃(L:List Sq)(e:Int),Qd Tryz.prog 29 [PV.monos bs,PV.rmat r c l] (· = .tup [PV.sqs L,.int .i64 e])/\Qd Tryz.prog 30 [PV.monos bs,PV.rmat r c l] (· = .tup [PV.sqs L,.int .i64 e])/\(∀x∈L,SqBd x)/\L.length<=20:=by
 simp only[mxB,Bool.and_eq_true,decide_eq_true_eq,List.all_eq_true]at hm
 obtain⟨h1,h2,h3,h4⟩:=hm
 have hb:∀b∈bs,b.length<2^40:=fun b hb=>by have:=h3 b hb;omega
 have c1:=Qpj (r:=r) (c:=c) (show bs.length<2^40 by omega) hb hl
 have c2:=Qaf9 (r:=r) (c:=c) (show bs.length<2^40 by omega) hb hl
 by_cases he:cfE bs r c l=0
 ·rw [he]at c1 c2
  have hok:Qcs r c l=true/\bs.all Qav=true/\r=bs.length/\c=bs.length/\Qhk (Qai (l.map rqV) bs.length) bs.length:=by
   unfold cfE at he
   split at he
   ·rename_i g1
    split at he
    ·rename_i g2
     split at he
     ·rename_i g3;exact⟨g1,g2,g3⟩
     ·cases he
    ·cases he
   ·cases he
  obtain⟨g1,g2,rfl,rfl,g5⟩:=hok
  obtain⟨R,m,la,e1,e2,hR,hm,hla,hlen,hmat⟩:=Qwg hl g1
  have hRb:R=bs.length:=by omega
  have hmb:m=bs.length:=by omega
  subst hRb
  subst hmb
  rw[<-hla]at g5
  rw[hmat]at c1 c2⊢
  have hr5:bs.length<=5:=by
   have e3:la.length<=25:=by rw[hla,List.length_map];exact h2
   rw[hlen]at e3
   have:=Qal3 e3
   omega
  have sl:∀q∈la,rs q<=3:=fun q hq=>by
   rw[hla]at hq
   obtain⟨x,hx,rfl⟩:=List.mem_map.1 hq
   have hr:=hl.2 x hx
   have hs:=h4 x hx
   simp only[shQ,Bool.and_eq_true,decide_eq_true_eq]at hs
   have:=(show Raw 2 x.n x.a x.d from⟨hr.la,hr.ld,hs.1,hs.2,by omega⟩).rs
   show rs (rv x.n x.a x.d)<=3
   omega
  obtain⟨fs,_,d1,d2,d3,d4⟩:=Qtd hlen hr5 sl g5
  have hF:Q1h 50421 bs.length bs fs:=⟨rfl,hb,hR,by omega,d4,by omega,by omega⟩
  have f1:=Qje hF c1 d1
  have f2:=Qvc hF c2 d2
  unfold fgR at f1 f2
  split at f1
  ·rename_i hp
   rw[if_pos hp]at f2
   refine⟨_,_,f1,f2,fun x hx=> ?_,by rw[List.length_map];exact d3⟩
   obtain⟨f,hf,rfl⟩:=List.mem_map.1 hx
   have hb2:=Q6l (L:=Qc8 bs f) (k:=50421) fun t ht=>(hF.t hf t ht).1
   have hfl:=Qfq bs f
   have:(Qc8 bs f).length*(50421+1)<=5*50422:=Nat.mul_le_mul (by omega) (by omega)
   exact⟨by have:=(d4 f hf).1;show rs f.1<=_;omega,hb2.1.mono (by omega) (by omega),by show(Ql2 (Qc8 bs f)).length<=1000;omega⟩
  ·rename_i hp
   rw[if_neg hp]at f2
   exact⟨_,_,f1,f2,by simp,by simp⟩
 ·exact⟨[],_,Qvd he c1,Qte he c2,by simp,by simp⟩
theorem Qve{L:List Sq}(h:∀x∈L,SqBd x)(hl:L.length<=200):Qd Tryz.prog 24 [PV.sqs L,PV.sqs L] (· = .bool true):=by
 refine Qf Qq Tryz.func24 rfl Qao8 (by simp[c24]) fun C hP=> ?_;simp only[c24,Zo,Zg,Zm,Zc,Zf,Zl,Zh,Zs,Zi,Zb,Zk,Zn,Zu,Zq,Zr,Zz]
 simp+decide (disch:=try exact D0) only[go_sem]
 refine Qaa (by repeat (first|exact Qn|exact Qi|exact Qj|exact Qk|exact Ql|apply Qh|apply Qm|apply Qt|apply Qx|apply Qy|apply Qg|apply Qr)) [(4,5),(11,42)] [] (fun m J hp=>∃i,m=L.length-i/\i<=L.length/\J 5= .int .i64 (i:Nat)) L.length ?_ ?_
 ·refine⟨0,rfl,by omega,?_⟩
  simp+decide (disch:=try exact D0) only[go_sem]
  rfl
 rintro _ J h' ⟨i,rfl,hi,h5⟩
 simp+decide (disch:=try exact D1 h5) only[go_sem,h5]
 refine Qb (fun hg=> ?_) (fun hg=> ?_)
 ·have hi':i<L.length:=by omega
  have hx0:=h _ (List.getElem_mem hi')
  generalize hx:L[i]=x at *
  have hw:=hx0.w
  have hl2:=hx0.l
  have e1:=Qpb (a:=x.1) (b:=x.1) (k:=1048576) hw hw (by omega)
  have e2:=Qpx hx0.b hx0.b (by omega) (by omega) (by omega) (by omega)
  rw[decide_eq_true rfl]at e1 e2
  simp+decide (disch:=try exact D2 h5 hx) only[go_sem,h5,hx]
  refine Qa hP e1 rfl rfl rfl ?_
  simp+decide (disch:=try exact D2 h5 hx) only[go_sem,h5,hx]
  refine Qa hP e2 rfl rfl rfl ?_
  simp+decide (disch:=try exact D1 h5) only[go_sem,h5]
  refine Qp (L.length-(i+1)) (by omega) ⟨i+1,rfl,by omega,?_⟩
  simp+decide (disch:=try exact D0) only[go_sem]
 ·obtain rfl:i=L.length:=by omega
  simp+decide (disch:=try exact D0) only[go_sem]
  exact Qc rfl rfl
end Go.Proofs.YtkoclfmjlolkhaaGreat
namespace Go.FW
open Go
variable {fr : Fr} {hp : HP}
theorem Qap7{β e ty:Nat}{xs xs':List PV}{fz:Bool}(hβ:hp β=some ⟨e,ty,xs,fz⟩)(hl:xs'.length=xs.length)
  (hc:∀(i:Nat)(x x':PV),xs[i]? =some x->xs'[i]? =some x'->x'.isData=true/\x'.cells.length=x.cells.length/\∀(j:Nat)(y y':PV),x.cells[j]? =some y->x'.cells[j]? =some y'->PV.le1 y y'):
  Wk fr hp fr (Qw hp β ⟨e,ty,xs',fz⟩):=by
 rintro C tmps w ⟨ρ,hs⟩
 obtain⟨hp',hpE⟩:∃f,f=Qw hp β ⟨e,ty,xs',fz⟩:=⟨_,rfl⟩
 rw[<-hpE]
 have pβ:hp' β=some ⟨e,ty,xs',fz⟩:=by rw[hpE];simp[Qw]
 have po:∀γ,γ≠β->hp' γ=hp γ:=fun γ hγ=>by rw[hpE];simp[Qw,hγ]
 have back:∀(i:Nat)(x':PV),xs'[i]? =some x'->∃x,xs[i]? =some x:=fun i x' h=>by
  have hi:i<xs'.length:=(List.getElem?_eq_some_iff.1 h).1
  exact⟨xs[i]'(by omega),by simp⟩
 have hX:∀c,Xof C ρ hp' c->Xof C ρ hp c:=by
  rintro c (hx|⟨γ,hb,g1,g2,g3⟩)
  ·exact .inl hx
  ·by_cases hγ:γ=β
   ·subst hγ;rw[pβ]at g1;cases g1;exact .inr ⟨γ,_,hβ,g2,g3⟩
   ·rw[po γ hγ]at g1;exact .inr ⟨γ,hb,g1,g2,g3⟩
 have hst:Qhz w w (Xof C ρ hp) (Xof C ρ hp'):=⟨fun _ _ _=>rfl,fun c _ hn h=>hn (hX c h),Nat.le_refl _⟩
 have c1:∀γ,Cnd ρ ρ hp hp' w w γ:=fun γ=>by
  by_cases hγ:γ=β
  ·subst hγ
   refine⟨rfl,fun hb hq=> ?_⟩
   rw[hβ]at hq;cases hq
   exact⟨_,pβ,rfl,by show xs.length<=xs'.length;omega,fun _ _ _ h=>h,fun h=>⟨List.eq_nil_of_length_eq_zero (by rw[show xs=[]from h]at hl;exact hl),rfl,fun _ _=>rfl⟩⟩
  ·exact⟨rfl,fun hb hq=>⟨hb,by rw[po γ hγ];exact hq,rfl,Nat.le_refl _,fun _ _ _ h=>h,fun h=>⟨h,rfl,fun _ _=>rfl⟩⟩⟩
 refine⟨ρ,hs.sz,hs.ext,hs.keep,fun γ hb1 hγ=> ?_,fun γ δ c g1 g2 g3 g4=> ?_,fun i=> ?_⟩
 ·by_cases hq:γ=β
  ·subst hq
   rw[pβ]at hγ;cases hγ
   have h:=hs.own γ _ hβ
   refine⟨h.epos,fun i x' hx'=> ?_,?_,h.fix,h.ro⟩
   ·obtain⟨x,hx⟩:=back i x' hx'
    obtain⟨d1,d2,_⟩:=hc i x x' hx hx'
    exact⟨d2.trans (h.len i x hx).1,d1⟩
   ·have hblk:=h.blk
    cases hr:ρ γ with
    |none=>
     rw[hr]at hblk
     exact List.eq_nil_of_length_eq_zero (by rw[show xs=[]from hblk]at hl;exact hl)
    |some b=>
     rw[hr]at hblk
     obtain⟨b1,b2,cur,cap,k1,k2,k3,k4,k5⟩:=hblk
     refine⟨b1,b2,cur,cap,k1,k2,by show xs'.length<=cap;have:xs.length<=cap:=k3;omega,k4,fun i x' hx' j y' hy'=> ?_⟩
     obtain⟨x,hx⟩:=back i x' hx'
     obtain⟨_,d2,d3⟩:=hc i x x' hx hx'
     have hj:j<x'.cells.length:=(List.getElem?_eq_some_iff.1 hy').1
     have hy:x.cells[j]? =some (x.cells[j]'(by omega)):=by simp
     exact((k5 i x hx j _ hy).le (d3 j _ y' hy hy')).sub hX
  ·rw[po γ hq]at hγ
   obtain⟨q1,q2,q3,q4,q5⟩:=hs.own γ hb1 hγ
   refine⟨q1,q2,?_,q4,q5⟩
   cases hr:ρ γ with
   |none=>rw[hr]at q3;exact q3
   |some c=>rw[hr]at q3;exact⟨q3.1,q3.2.1,q3.2.2.move rfl rfl rfl rfl hst.rc⟩
 ·have f:∀γ,hp' γ≠none->hp γ≠none:=fun γ hγ=>by
   by_cases hq:γ=β
   ·subst hq;simp[hβ]
   ·rwa[po γ hq]at hγ
  exact hs.inj γ δ c (f γ g1) (f δ g2) g3 g4
 ·exact(hs.slots i).move hst (fun γ _=>(c1 γ).o) (fun γ _=>(c1 γ).weak) (fun γ e' ty' ys _=>c1 γ)
end Go.FW
