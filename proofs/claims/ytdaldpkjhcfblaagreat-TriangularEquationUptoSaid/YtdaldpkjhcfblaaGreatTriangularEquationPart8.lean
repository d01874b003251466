/- Part 8 of the proof of TriangularEquation: CL, U4, U7, U8, U10, W4, W5, FwUD. Own lemmas; no conditions. -/
import Derived.Test.YtdaldpkjhcfblaaGreatTriangularEquationPart7
set_option maxHeartbeats 1000000
set_option linter.unusedSimpArgs false
set_option linter.unusedVariables false
set_option linter.unnecessarySimpa false
set_option maxRecDepth 100000
namespace Go.Proofs.YtdaldpkjhcfblaaGreat
open Go Go.FW
theorem Qnm{p:List Tm}{n:Bool}{a d:List Nat}{m:List Int}{K E k:Nat}(hp:PB K E p)(hs:Qbc p)(hnz:NZ p)(hr:Raw k n a d)(hk:k<=2^32)(hm:MB E m)(hl:m.getLast? ≠some 0)(hK:K<=2^32)(hE:E<=2^38)(hlp:p.length<=2^36):
  Qd Tryz.prog 58 [PV.poly p,PV.rr n a d,PV.mono m] (· =PV.poly (Qed p (rv n a d) m)):=by
 have hrr:=hr.rs;refine Qf Qj Tryz.func58 rfl Qaog (by simp[c58]) fun C hP=>?_;simp only[c58];refine Sz0 ?_;refine Qy (by repeat (first|exact Qu|exact Qn|exact Qo|exact Qk|exact Qp|apply Qm|apply Qt|apply Qw|apply Q5|apply Q6|apply Qi|apply Qz)) [(7,7),(12,26)] [] (fun k J hp=>k<=p.length/\(∀t∈p.drop k,Qak t.2 m<0)/\J 7= .int .i64 (k:Nat)/\hp 4=some ⟨3,51,[PV.rr n a d],false⟩) p.length ?_ ?_
 ·refine⟨by omega,by simp,?_⟩;exact Tz0
 rintro j J h ⟨hj,hd,h7,hh4⟩;refine Sz1 h7 ?_;refine Qat (fun hg=>?_) (fun hg=>?_)
 ·obtain⟨i,rfl⟩:∃i,j=i+1:=⟨j-1,by omega⟩
  have e:((i+1:Nat):Int)-1=i:=by omega
  have hi:i<p.length:=by omega
  have htp:=hp.get hi;have hdr:p.drop i=p[i]::p.drop (i+1):=List.drop_eq_getElem_cons hi;have htk:p.take (i+1)=p.take i++[p[i]]:=List.take_succ_eq_append_getElem hi;have hts:=Q1h hs hi;have hall:p=p.take i++p[i]::p.drop (i+1):=by rw[<-hdr,List.take_append_drop]
  have c1:=htp.c;generalize hx:p[i]=x at *
  refine Sz3 h7 e hx ?_;refine Qa hP (Qrb htp.m hm (by omega)) rfl rfl rfl ?_;refine Sz3 h7 e hx ?_;refine Qb (fun hc=>?_) (fun hc=>?_)
  ·refine Sz3 h7 e hx ?_;refine Qh i (by omega) ⟨by omega,?_,?_⟩
   ·rw[hdr];intro t ht;rcases List.mem_cons.1 ht with rfl|ht
    ·exact hc
    ·exact hd t ht
   ·exact Tz1 hh4
  ·refine Sz3 h7 e hx ?_;refine Qat (fun _=>?_) (fun h=>by omega);refine Sz3 h7 e hx ?_;refine Qa hP (Qrb htp.m hm (by omega)) rfl rfl rfl ?_;refine Sz3 h7 e hx ?_;refine Qb (fun hc2=>?_) (fun hc2=>?_)
   ·have hxm:x.2=m:=(Qwx htp.l hl).1 hc2;have hx0:=hnz _ (List.getElem_mem hi);rw[hx]at hx0;have hfin:Qed p (rv n a d) m=p.take i++(if x.1+rv n a d=0 then []else [(x.1+rv n a d,m)])++p.drop (i+1):=by
     have hall':p=p.take i++(x.1,m)::p.drop (i+1):=by rw[<-hxm];exact hall
     rw[Qed];split
     ·rename_i h0;have e0:x.1+0=x.1:=Rat.add_zero _;rw[h0,Qcj,e0,if_neg hx0];simpa using hall'
     ·conv=>lhs;rw[hall']
      exact Q37 (fun t ht=>by rw[<-hxm];exact hts t ht)
    have htl:(p.take i).length<=p.length:=List.length_take_le' _ _;have hdl:(p.drop (i+1)).length<=p.length:=by rw[List.length_drop];omega
    have hra:=Quz x.1 (rv n a d);have hxr:=Qc7 (q:=x.1) (k:=2^32) (by omega);have hadd:=Qsy (k:=2^32) hxr (show Raw (2^32) n a d from⟨hr.la,hr.ld,by have:=hr.sa;omega,by have:=hr.sd;omega,by omega⟩) (by omega);rw[Qdo]at hadd;refine Sz4 h7 e hx hh4 ?_;refine Qfq ?_ ?_
    all_goals
     refine Sz4 h7 e hx hh4 ?_;refine Qa hP hadd rfl rfl rfl ?_;refine Sz4 h7 e hx hh4 ?_;refine Qa hP (Qra (a:=x.1+rv n a d) (by omega)) rfl rfl rfl ?_;refine Sz4 h7 e hx hh4 ?_;refine Qb (fun hz=>?_) (fun hz=>?_)
     ·rw[if_neg (fun h=>hz (Qbd.2 h))]at hfin;refine Sz4 h7 e hx hh4 ?_;rw[Qag (f:=PV.term) (y:=(x.1+rv n a d,m)) (xs:=p.take i) (ty':=54) (fz:=false) Tz0 Qcv (by omega) rfl (by omega) (by omega)];refine Sz4 h7 e hx hh4 ?_;rw[Qec (f:=PV.term) (xs:=p.take i++[(x.1+rv n a d,m)]) (ys:=p.drop (i+1)) Tz0 (by simp<;>omega) (by omega) (by omega) (by omega)];refine Vz0 ?_;refine Qc ?_ rfl;rw[List.take_of_length_le (by simp<;>omega),hfin]
     ·rw[if_pos (Qbd.1 (Decidable.not_not.1 hz)),List.append_nil]at hfin;refine Sz4 h7 e hx hh4 ?_;rw[Qec (f:=PV.term) (xs:=p.take i) (ys:=p.drop (i+1)) Tz0 (by simp<;>omega) (by omega) (by omega) (by omega)];refine Vz0 ?_;refine Qc ?_ rfl;rw[List.take_of_length_le (by simp<;>omega),hfin]
   ·have hgt:Q4 p [(rv n a d,m)]=p.take (i+1)++(rv n a d,m)::p.drop (i+1):=by
     have:=Qw7 (m:=m) (c:=rv n a d) (u:=p.take (i+1)) (v:=p.drop (i+1)) (fun t ht=>by
      rw[htk]at ht;rcases List.mem_append.1 ht with ht|ht
      ·exact Qfc (hts t ht) (by omega)
      ·simp only[List.mem_singleton]at ht;subst ht;omega) hd
     rwa[List.take_append_drop]at this
    have htl:(p.take (i+1)).length<=p.length:=List.length_take_le' _ _;have hdl:(p.drop (i+1)).length<=p.length:=by rw[List.length_drop];omega
    refine Sz2 h7 hh4 ?_;refine Qa hP (Qi8 hr (by omega)) rfl rfl rfl ?_;refine Sz2 h7 hh4 ?_;refine Qb (fun hz=>?_) (fun hz=>?_)
    ·have hz':¬rv n a d=0:=fun h=>hz (Qbd.2 h);refine Sz2 h7 hh4 ?_;refine Qa hP (Qe2 hr (by omega)) rfl rfl rfl ?_;refine Sz2 h7 hh4 ?_;rw[Qag (f:=PV.term) (y:=(rv n a d,m)) (xs:=p.take (i+1)) (ty':=54) (fz:=false) Tz0 Qcv (by omega) rfl (by omega) (by omega)];refine Sz2 h7 hh4 ?_;rw[Qec (f:=PV.term) (xs:=p.take (i+1)++[(rv n a d,m)]) (ys:=p.drop (i+1)) Tz0 (by simp<;>omega) (by omega) (by omega) (by omega)];refine Vz0 ?_;refine Qc ?_ rfl;rw[List.take_of_length_le (by simp<;>omega),Qed,if_neg hz',hgt];simp
    ·have hz':rv n a d=0:=Qbd.1 (Decidable.not_not.1 hz);refine Sz2 h7 hh4 ?_;rw[Qec (f:=PV.term) (xs:=p.take (i+1)) (ys:=p.drop (i+1)) Tz0 (by simp<;>omega) (by omega) (by omega) (by omega)];refine Vz0 ?_;refine Qc ?_ rfl;rw[List.take_of_length_le (by simp<;>omega),Qed,if_pos hz',Qcj,List.take_append_drop]
 ·obtain rfl:j=0:=by omega
  have hgt:Q4 p [(rv n a d,m)]=[]++(rv n a d,m)::p:=Qw7 (m:=m) (c:=rv n a d) (u:=[]) (v:=p) (by simp) (by simpa using hd);refine Sz1 h7 ?_;rw[Q2w (by omega)];refine Sz2 h7 hh4 ?_;refine Qa hP (Qi8 hr (by omega)) rfl rfl rfl ?_;refine Sz2 h7 hh4 ?_;refine Qb (fun hz=>?_) (fun hz=>?_)
  ·have hz':¬rv n a d=0:=fun h=>hz (Qbd.2 h);refine Sz2 h7 hh4 ?_;refine Qa hP (Qe2 hr (by omega)) rfl rfl rfl ?_;refine Sz2 h7 hh4 ?_;rw[Qag (f:=PV.term) (y:=(rv n a d,m)) (xs:=([]:List Tm)) (ty':=54) (fz:=false) Tz0 Qcv (by omega) (n:=0) rfl (by omega) (by omega)];refine Sz2 h7 hh4 ?_;rw[Qec (f:=PV.term) (xs:=([]:List Tm)++[(rv n a d,m)]) (ys:=p) Tz0 (by simp<;>omega) (by omega) (by omega) (by omega)];refine Vz0 ?_;refine Qc ?_ rfl;rw[List.take_of_length_le (by simp<;>omega),Qed,if_neg hz',hgt];simp
  ·have hz':rv n a d=0:=Qbd.1 (Decidable.not_not.1 hz);refine Sz2 h7 hh4 ?_;rw[Qec (f:=PV.term) (xs:=([]:List Tm)) (ys:=p) Tz0 (by simp<;>omega) (by omega) (by omega) (by omega)];refine Vz0 ?_;refine Qc ?_ rfl;rw[List.take_of_length_le (by simp<;>omega),Qed,if_pos hz',Qcj]
theorem Qp4{n:Bool}{a d:List Nat}{k:Nat}(hr:Raw k n a d)(hk:k<=2^32):Qd Tryz.prog 31 [PV.rr n a d] (· =PV.poly (Qbe (rv n a d))):=by
 have hadd:=(Qnm (p:=[]) (m:=[]) (K:=1) (E:=1) (PB.nil _ _) trivial (by simp[NZ]) hr hk ⟨by simp,by simp,by simp⟩ (by simp) (by omega) (by omega) (by simp)).le (args':=[.nilS,PV.rr n a d,.nilS]) ⟨trivial,Q2 _,trivial,trivial⟩;have e:Qed [] (rv n a d) []=Qbe (rv n a d):=by rw[Qed,Qez];rfl
 rw[e]at hadd;refine Qf Qj Tryz.func31 rfl Qan6 (by simp[c31]) fun C hP=>?_;simp only[c31];refine Sz0 ?_;refine Qa hP hadd rfl rfl rfl ?_;refine Sz0 ?_;exact Qc rfl rfl
theorem Qzf{a m:List Int}(hla:a.length<2^42)(hlm:m.length<2^42):Qd Tryz.prog 136 [PV.mono a,PV.mono m] (· = .bool (Qlp a m)):=by
 refine Qf Qj Tryz.func136 rfl Qajj (by simp[c136]) fun C hP=>?_;simp only[c136];refine Sz0 ?_;refine Qy (by repeat (first|exact Qu|exact Qn|exact Qo|exact Qk|exact Qp|apply Qm|apply Qt|apply Qw|apply Q5|apply Q6|apply Qi|apply Qz)) [(4,19)] [] (fun n J hp=>∃i,n=a.length-i/\i<=a.length/\(∀j,j<i->eN a j=eN m j)/\J 5= .int .i64 (i:Nat)) a.length ?_ ?_
 ·refine⟨0,rfl,by omega,by omega,?_⟩;refine Sz0 ?_;rfl
 rintro _ J h ⟨i,rfl,hi,h1,h5⟩;refine Sz1 h5 ?_;refine Qb (fun hg=>?_) (fun hg=>?_)
 ·have hi':i<a.length:=by omega
  have he:=Qc2 hi';generalize hx:a[i]=x at *
  refine Sz2 h5 hx ?_;refine Qa hP (Qcw hlm) rfl rfl rfl ?_;refine Sz2 h5 hx ?_;refine Qb (fun hc=>?_) (fun hc=>?_)
  ·refine Sz0 ?_;refine Qc (congrArg PV.bool ?_) rfl;cases hz:Qlp a m with
   |false=>rfl
   |true=>rw[Qj4]at hz;have:=hz i hi';rw[he]at this;exact absurd this hc
  ·refine Sz1 h5 ?_;refine Qh (a.length-(i+1)) (by omega) ⟨i+1,rfl,by omega,fun j hj=>?_,?_⟩
   ·by_cases hji:j=i
    ·subst hji;rw[he];exact Decidable.not_not.1 hc
    ·exact h1 j (by omega)
   ·exact Tz0
 ·obtain rfl:i=a.length:=by omega
  refine Sz0 ?_;exact Qc (congrArg PV.bool (Qj4.2 h1).symm) rfl
theorem Qh3{p:List Tm}{E:Nat}(hp:∀t∈p,MB E t.2)(hlp:p.length<=2^36):Qd Tryz.prog 41 [PV.poly p] (· = .bool (Qaf p)):=by
 have bad:(∃t∈p,∃x∈t.2,1048576<x)->Qaf p=true:=fun⟨t,ht,x,hx,h⟩=>by
  unfold Qaf;have:(p.any fun t=>t.2.any fun x=>decide (1048576<x))=true:=by rw[List.any_eq_true];exact⟨t,ht,by rw[List.any_eq_true];exact⟨x,hx,decide_eq_true h⟩⟩
  rw[this,Bool.or_true]
 refine Qf Qj Tryz.func41 rfl Qan9 (by simp[c41]) fun C hP=>?_;simp only[c41];refine Sz0 ?_;refine Qy (by repeat (first|exact Qu|exact Qn|exact Qo|exact Qk|exact Qp|apply Qm|apply Qt|apply Qw|apply Q5|apply Q6|apply Qi|apply Qz)) [(2,29)] [] (fun n J hp=>∃i,n=p.length-i/\i<=p.length/\(∀t∈p.take i,∀x∈t.2,¬1048576<x)/\J 3= .int .i64 (i:Nat)) p.length ?_ ?_
 ·refine⟨0,rfl,by omega,by simp,?_⟩;refine Sz0 ?_;rfl
 rintro _ J h ⟨i,rfl,hi,h1,h3⟩;refine Sz1 h3 ?_;refine Qb (fun hg=>?_) (fun hg=>?_)
 ·have hi':i<p.length:=by omega
  have htp:=hp _ (List.getElem_mem hi');have hmem:=List.getElem_mem hi';have htk:p.take (i+1)=p.take i++[p[i]]:=List.take_succ_eq_append_getElem hi';generalize hx:p[i]=x at *
  have hml:=htp.len;refine Sz2 h3 hx ?_;refine Qy (by repeat (first|exact Qu|exact Qn|exact Qo|exact Qk|exact Qp|apply Qm|apply Qt|apply Qw|apply Q5|apply Q6|apply Qi|apply Qz)) [(2,2),(4,4),(11,29)] [] (fun n J hp=>∃j,n=x.2.length-j/\j<=x.2.length/\(∀y∈x.2.take j,¬1048576<y)/\J 4= .int .i64 (j:Nat)) x.2.length ?_ ?_
  ·refine⟨0,rfl,by omega,by simp,?_⟩;refine Sz0 ?_;rfl
  rintro _ J2 h2 ⟨j,rfl,hj,h4,h5⟩;refine Sz3 h3 h5 hx ?_;refine Qb (fun hg2=>?_) (fun hg2=>?_)
  ·have hj':j<x.2.length:=by omega
   have hm2:=List.getElem_mem hj';have htk2:x.2.take (j+1)=x.2.take j++[x.2[j]]:=List.take_succ_eq_append_getElem hj';generalize hy:x.2[j]=y at *
   refine Sz4 h3 h5 hx hy ?_;refine Qb (fun hc=>?_) (fun hc=>?_)
   ·refine Sz0 ?_;exact Qc (congrArg PV.bool (bad ⟨x,hmem,y,hm2,hc⟩).symm) rfl
   ·refine Sz1 h5 ?_;refine Qh (x.2.length-(j+1)) (by omega) ⟨j+1,rfl,by omega,?_,?_⟩
    ·rw[htk2];intro z hz;rcases List.mem_append.1 hz with hz|hz
     ·exact h4 z hz
     ·simp only[List.mem_singleton]at hz;subst hz;exact hc
    ·exact Tz0
  ·rw[List.take_of_length_le (by omega)]at h4;refine Sz2 h3 h5 ?_;simp (disch:=decide) only[Qb3,Qfx];refine Qh (p.length-(i+1)) (by omega) ⟨i+1,rfl,by omega,?_,?_⟩
   ·rw[htk];intro z hz;rcases List.mem_append.1 hz with hz|hz
    ·exact h1 z hz
    ·simp only[List.mem_singleton]at hz;subst hz;exact h4
   ·exact Tz0
 ·obtain rfl:i=p.length:=by omega
  rw[List.take_length]at h1;refine Sz0 ?_;refine Qc (congrArg PV.bool ?_) rfl;have:(p.any fun t=>t.2.any fun x=>decide (1048576<x))=false:=by rw[List.any_eq_false];intro t ht;rw[Bool.not_eq_true,List.any_eq_false];intro x hx;simpa using h1 t ht x hx
  rw[Qaf,this,Bool.or_false];exact decide_eq_decide.2 ⟨fun h=>by omega,fun h=>by omega⟩
theorem Qvq{a:Rat}{k:Nat}(h:rs a<=k)(hk:k<=2^32):Qd Tryz.prog 31 [PV.rat a] (· =PV.poly (Qbe a)):=by
 have:=Qp4 (Qc7 h) hk
 rwa[Qdo]at this
theorem Qvr{p:List Tm}{K E:Nat}(hp:PB K E p)(hn:Nrm p)(hK:K<=2^32)(hE:E<=1048576)(hl:p.length<=2^36):Qd Tryz.prog 89 [PV.poly p] (· =PV.poly p):=by
 refine Qf Qj Tryz.func89 rfl Qaoc (by simp[c89]) fun C hP=>?_;simp only[c89];refine Sz0 ?_;refine Qhn 3 4 Tz0 ?_;refine Qy (by repeat (first|exact Qu|exact Qn|exact Qo|exact Qk|exact Qp|apply Qm|apply Qt|apply Qw|apply Q5|apply Q6|apply Qi|apply Qz)) [(3,32)] [] (fun n J hp=>∃i,n=p.length-i/\i<=p.length/\J 3=PV.poly (p.take i)/\J 4= .int .i64 (i:Nat)) p.length ?_ ?_
 ·refine⟨0,rfl,by omega,?_⟩;refine Sz0 ?_;simp
 rintro _ J h ⟨i,rfl,hi,h3,h4⟩;refine Sz2 h3 h4 ?_;refine Qb (fun hg=>?_) (fun hg=>?_)
 ·have hi':i<p.length:=by omega
  have htp:=hp.get hi';have htk:=Q6l hn hi';have hni:=hn.take i;have hbi:=hp.take i;have hll:(p.take i).length<=p.length:=List.length_take_le' _ _;generalize hx:p[i]=x at *
  have hml:=htp.m.len;have hok:Qby x.2=true:=Qqy htp.m hE htp.l;have htr:Qdf x.2=x.2:=Qtk htp.l;have hz:=Q1i x.2;rw[htr,hok,if_pos rfl]at hz;have hcx:=htp.c;refine Sz3 h3 h4 hx ?_;refine Qa hP (Qq9 (by omega)) rfl rfl rfl ?_;rw[htr,if_pos hok];refine Sz3 h3 h4 hx ?_;refine Qa hP (Qzf (m:=x.2) (by omega) (by omega)) rfl rfl rfl ?_;rw[hz];refine Sz3 h3 h4 hx ?_;have hadd:=Qnm (K:=K) (E:=E) (k:=K) hbi hni.s hni.z (Qc7 (q:=x.1) (k:=K) (by omega)) (by omega) htp.m htp.l (by omega) (by omega) (by omega);rw[Qdo,htk]at hadd;refine Qa hP hadd rfl rfl rfl ?_;refine Sz3 h3 h4 hx ?_;refine Qh (p.length-(i+1)) (by omega) ⟨i+1,rfl,by omega,?_⟩;exact Tz0
 ·obtain rfl:i=p.length:=by omega
  rw[List.take_length]at h3;refine Sz1 h3 ?_;exact Qc rfl rfl
theorem Q1x{a:List Int}{v:Int}{E:Nat}(h:MB E a):Qd Tryz.prog 87 [PV.mono a,.int .i64 v] (· = .int .i64 (eN a (exi v))):=by
 have hl:=h.len;have:=Qsz (a:=a) (v:=v) (by omega);have e:(if v<0 then 0 else eN a v.toNat)=eN a (exi v):=by
  unfold exi;split
  ·rw[Qcs (by omega)]
  ·rfl
 rwa[e]at this
theorem Qgh{p:List Tm}{v:Int}{K E:Nat}(hp:PB K E p)(hlp:p.length<=2^36):Qd Tryz.prog 46 [PV.poly p,.int .i64 v] (· = .int .i64 (Q8 p (exi v))):=by
 refine Qf Qj Tryz.func46 rfl Qaop (by simp[c46]) fun C hP=>?_;simp only[c46];refine Sz0 ?_;refine Qy (by repeat (first|exact Qu|exact Qn|exact Qo|exact Qk|exact Qp|apply Qm|apply Qt|apply Qw|apply Q5|apply Q6|apply Qi|apply Qz)) [(5,21)] [] (fun n J hp=>∃i,n=p.length-i/\i<=p.length/\J 5= .int .i64 (Q8 (p.take i) (exi v))/\J 6= .int .i64 (i:Nat)) p.length ?_ ?_
 ·refine⟨0,rfl,by omega,?_⟩;refine Sz0 ?_;exact⟨rfl,rfl⟩
 rintro _ J h ⟨i,rfl,hi,h5,h6⟩;refine Sz2 h5 h6 ?_;refine Qb (fun hg=>?_) (fun hg=>?_)
 ·have hi':i<p.length:=by omega
  have htp:=hp.get hi';have htk:=Qyo (v:=exi v) hi';generalize hx:p[i]=x at *
  have hml:=htp.m.len;refine Sz3 h5 h6 hx ?_;refine Qa hP (Q1x htp.m) rfl rfl rfl ?_;refine Sz3 h5 h6 hx ?_;refine Qh (p.length-(i+1)) (by omega) ⟨i+1,rfl,by omega,?_⟩;rw[htk];exact Tz0
 ·obtain rfl:i=p.length:=by omega
  rw[List.take_length]at h5;refine Sz1 h5 ?_;exact Qc rfl rfl
theorem Qakn{v:Int}{i:Nat}(h:i<64):((i:Int)=v)↔exi v=i:=by unfold exi;split<;>omega
theorem Qvs{a:List Int}{v:Int}{E:Nat}(ha:MB E a)(hE:E<=1048576):Qd Tryz.prog 88 [PV.mono a,.int .i64 v] (· =PV.mono (Qcd a (exi v))):=by
 have hml:=ha.len;have hok:=Qaes ha hE (exi v);have hsl:(a.set (exi v) 0).length=a.length:=by simp
 refine Qf Qj Tryz.func88 rfl Qaor (by simp[c88]) fun C hP=>?_;simp only[c88];refine Sz0 ?_;refine Qes 5 900 1 3 (by omega) Tz0 ?_;refine Qy (by repeat (first|exact Qu|exact Qn|exact Qo|exact Qk|exact Qp|apply Qm|apply Qt|apply Qw|apply Q5|apply Q6|apply Qi|apply Qz)) [(5,25)] [17,18,24,25,900] (fun n J hp=>∃i out,n=a.length-i/\i<=a.length/\out=(a.set (exi v) 0).take i/\J 5= .ms 900 out.length/\J 6= .int .i64 (i:Nat)/\hp 900=some ⟨1,3,Qee out,false⟩) a.length ?_ ?_
 ·refine⟨0,[],rfl,by omega,rfl,?_⟩;refine Sz0 ?_;rfl
 rintro _ J h ⟨i,out,rfl,hi,hout,h5,h6,hh⟩;have hol:out.length=i:=by rw[hout,List.length_take];omega
 refine Sz2 h5 h6 ?_;refine Qb (fun hg=>?_) (fun hg=>?_)
 ·have hi':i<a.length:=by omega
  have htk:(a.set (exi v) 0).take (i+1)=(a.set (exi v) 0).take i++[if exi v=i then 0 else a[i]]:=by rw[List.take_succ_eq_append_getElem (by omega),List.getElem_set]
  have hiff:=Qakn (v:=v) (i:=i) (by omega);generalize hx:a[i]=x at *
  refine Sz3 h5 h6 hx ?_;refine Qb (fun hc=>?_) (fun hc=>?_)
  ·rw[if_pos (hiff.1 hc)]at htk;refine Sz3 h5 h6 hx ?_;rw[Qag (f:=fun(x:Int)=>.int .i64 x) (y:=(0:Int)) (xs:=out) (ty':=3) (fz:=false) (Tz1 hh) Qcv (by omega) rfl (by omega) (by omega)];refine Sz3 h5 h6 hx ?_;refine Qh (a.length-(i+1)) (by omega) ⟨i+1,out++[(0:Int)],rfl,by omega,by rw[htk,hout],?_⟩;simp+decide (disch:=first|omega|rfl|(simp+decide only[go_sem,↓reduceIte,List.length_append]<;>rfl)|fail) only[go_sem,↓reduceIte,List.length_append]
  ·rw[if_neg (fun h=>hc (hiff.2 h))]at htk;refine Sz3 h5 h6 hx ?_;rw[Qag (f:=fun(x:Int)=>.int .i64 x) (y:=x) (xs:=out) (ty':=3) (fz:=false) (Tz1 hh) Qcv (by omega) rfl (by omega) (by omega)];refine Sz3 h5 h6 hx ?_;refine Qh (a.length-(i+1)) (by omega) ⟨i+1,out++[x],rfl,by omega,by rw[htk,hout],?_⟩;simp+decide (disch:=first|omega|rfl|(simp+decide only[go_sem,↓reduceIte,List.length_append]<;>rfl)|fail) only[go_sem,↓reduceIte,List.length_append]
 ·obtain rfl:i=a.length:=by omega
  rw[List.take_of_length_le (by omega)]at hout;subst hout;refine Sz2 h5 hh ?_;refine Qcb hP (Qq9 (a:=a.set (exi v) 0) (by omega)) (by simp+decide (disch:=first|omega|rfl|(simp+decide only[go_sem,↓reduceIte,hh,Qa6,List.contains_cons,List.contains_nil,List.flatMap_cons,List.flatMap_nil,List.append_nil]<;>rfl)|fail) only[go_sem,↓reduceIte,hh,Qa6,List.contains_cons,List.contains_nil,List.flatMap_cons,List.flatMap_nil,List.append_nil];simp[List.take_of_length_le]) rfl ?_;rw[show Qdf (a.set (exi v) 0)=Qcd a (exi v)from rfl,if_pos hok];refine Sz0 ?_;exact Qc rfl rfl
theorem Qmh{p:List Tm}{v n:Int}{K E:Nat}(hp:PB K E p)(np:Nrm p)(hlp:p.length<=2^36)(hE:E<=1048576)(hK:K<=2^32):Qd Tryz.prog 45 [PV.poly p,.int .i64 v,.int .i64 n] (· =PV.poly (Qae p (exi v) n)):=by
 have hcl0:=Qc8 p (exi v) n;refine Qf Qj Tryz.func45 rfl Qaoq (by simp[c45]) fun C hP=>?_;simp only[c45];refine Sz0 ?_;refine Qes 7 900 4 54 (by omega) Tz0 ?_;refine Qy (by repeat (first|exact Qu|exact Qn|exact Qo|exact Qk|exact Qp|apply Qm|apply Qt|apply Qw|apply Q5|apply Q6|apply Qi|apply Qz)) [(7,39)] [38,39,900] (fun m J hp=>∃i,m=p.length-i/\i<=p.length/\J 7= .ms 900 (Qae (p.take i) (exi v) n).length/\J 8= .int .i64 (i:Nat)/\hp 900=some ⟨4,54,(Qae (p.take i) (exi v) n).map PV.term,false⟩) p.length ?_ ?_
 ·refine⟨0,rfl,by omega,?_⟩;refine Sz0 ?_;exact⟨rfl,rfl,rfl⟩
 rintro _ J h ⟨i,rfl,hi,h7,h8,hh⟩;refine Sz2 h7 h8 ?_;refine Qb (fun hg=>?_) (fun hg=>?_)
 ·have hi':i<p.length:=by omega
  have htp:=hp.get hi';have hck:=Qvj (v:=exi v) (n:=n) hi';have hcl:=Qc8 (p.take i) (exi v) n;rw[List.length_take]at hcl;generalize hx:p[i]=x at *
  have hml:=htp.m.len;refine Sz3 h7 h8 hx ?_;refine Qa hP (Q1x htp.m) rfl rfl rfl ?_;refine Sz3 h7 h8 hx ?_;refine Qb (fun hc=>?_) (fun hc=>?_)
  ·rw[if_pos hc]at hck;refine Sz3 h7 h8 hx ?_;refine Qa hP (Qvs htp.m hE) rfl rfl rfl ?_;refine Sz3 h7 h8 hx ?_;rw[Qag (f:=PV.term) (y:=(x.1,Qcd x.2 (exi v))) (xs:=Qae (p.take i) (exi v) n) (ty':=54) (fz:=false) (Tz1 hh) Qcv (by omega) rfl (by omega) (by omega)];refine Sz3 h7 h8 hx ?_;refine Qh (p.length-(i+1)) (by omega) ⟨i+1,rfl,by omega,?_⟩;rw[hck];simp+decide (disch:=first|omega|rfl|(simp+decide only[go_sem,↓reduceIte,List.length_append]<;>rfl)|fail) only[go_sem,↓reduceIte,List.length_append]
  ·rw[if_neg hc,List.append_nil]at hck;refine Sz3 h7 h8 hx ?_;refine Qh (p.length-(i+1)) (by omega) ⟨i+1,rfl,by omega,?_⟩;rw[hck];exact Tz2 h7 hh
 ·obtain rfl:i=p.length:=by omega
  rw[List.take_length]at h7 hh;refine Sz2 h7 hh ?_;refine Qcb hP (Qvr (Qfs hp (exi v) n) (Qb2 np (exi v) n) hK hE (by omega)) (by simp+decide (disch:=first|omega|rfl|(simp+decide only[go_sem,↓reduceIte,hh,Qa6,List.contains_cons,List.contains_nil,List.flatMap_cons,List.flatMap_nil,List.append_nil]<;>rfl)|fail) only[go_sem,↓reduceIte,hh,Qa6,List.contains_cons,List.contains_nil,List.flatMap_cons,List.flatMap_nil,List.append_nil];simp[List.take_of_length_le]) rfl ?_;refine Sz0 ?_;exact Qc rfl rfl
theorem Qzg{v n:Nat}(hv:v<64)(hn:n<=1048576):Qd Tryz.prog 80 [.int .i64 v,.int .i64 n] (· =PV.poly (ppx v n)):=by
 have hlr:v<(List.replicate (v+1) (0:Int)).length:=by simp
 have hone:=Qnc;refine Qf Qj Tryz.func80 rfl Qaos (by simp[c80]) fun C hP=>?_;simp only[c80];refine Sz0 ?_;refine Qab (fun h0=>?_) (fun h0=>?_)
 ·obtain rfl:n=0:=by omega
  refine Sz0 ?_;refine Qa hP (Qi7 (by omega) (by omega)) rfl rfl rfl ?_;have hC:=Qp4 (k:=4) (Qc7 (q:=((1:Int):Rat)) (k:=4) (by rw[show((1:Int):Rat)=1 from rfl];omega)) (by omega);rw[Qdo]at hC;refine Sz0 ?_;refine Qa hP hC rfl rfl rfl ?_;refine Sz0 ?_;exact Qc rfl rfl
 refine Sz0 ?_;refine Qb (fun h1=>by omega) (fun _=>?_);refine Sz0 ?_;rw[Qtt v n (by omega),Int.toNat_natCast];have hxl:(Qbl v n).length=v+1:=by simp[Qbl]
 refine Qa hP (Qi7 (by omega) (by omega)) rfl rfl rfl ?_;generalize hc:((1:Int):Rat)=c;have hc1:c=1:=hc.symm;refine Sz0 ?_;rw[Qagt (p:=PV.rat c) (e:=1) (ty:=3) (fz:=false) (xs:=Qee (Qbl v n)) rfl Tz0 (by simp[hxl,Qee])];have hp1:ppx v n=[(c,Qbl v n)]:=by rw[ppx,if_neg (by omega),hc1]
 have hb1:=Q90 (v:=v) (n:=n) hv;have hn1:=Q4c v n;rw[hp1]at hb1 hn1⊢;refine Sz0 ?_;refine Qcb hP (Qvr hb1 hn1 (by omega) hn (by simp)) Qw0 rfl ?_;refine Sz0 ?_;exact Qc rfl rfl
theorem Qxb{f g:List Tm}{v d N K E M:Nat}(nf:Nrm f)(ng:Nrm g)(bg:PB K E g)(hv:v<64)(hg0:g≠[])(hd:Q8 g v=d)(hN:Q8 f v<N)(hfl:Qaf f=false)
  (hb:∀k,k<N->PB K E (dvS g v d f k).1/\PB K E (dvS g v d f k).2) (hgM:g.length<=M) (hM:M<=2^10) (hK:M*(K+K+2)+(M*(K+K+2)+(K+2))<=2^31) (hK3:4000*(K+K)+(K+K)<=2^32) (hK2:2<=K) (hM1:1<=M) (hE:E<=1048576) (hN1:0<N) (hN2:N<=2^30):
  Qd Tryz.prog 39 [PV.poly f,PV.poly g,.int .i64 v] (· =Qe8 g v d N [] f 0):=by
 have hlen:∀ {p:List Tm},Qaf p=false->p.length<=4000:=fun {p} h=>by unfold Qaf at h;simp only[Bool.or_eq_false_iff,decide_eq_false_iff_not]at h;omega
 have hKM:K+K+2<=M*(K+K+2):=by have:=Nat.mul_le_mul_right (K+K+2) hM1;omega
 have hKM2:M*(K+K)<=M*(K+K+2):=Nat.mul_le_mul_left _ (by omega);have hbf:PB K E f:=(hb 0 hN1).2;have hfm:∀t∈f,MB E t.2:=fun t ht=>(hbf t ht).m;have hfl':=hlen hfl;have hcl:(Qae g v d).length<=M:=Nat.le_trans (Qc8 _ _ _) hgM;have hcb:=Qfs bg v (d:Int);have hcn:=Qb2 ng v (d:Int);refine Qf Qj Tryz.func39 rfl Qaou (by simp[c39]) fun C hP=>?_;simp only[c39];simp+decide (disch:=first|omega|rfl|(simp+decide only[go_sem,↓reduceIte]<;>rfl)|fail) only[go_sem,↓reduceIte,Qal,Qaz];refine Qab (fun h1=>by omega) (fun _=>?_);simp+decide (disch:=first|omega|rfl|(simp+decide only[go_sem,↓reduceIte]<;>rfl)|fail) only[go_sem,↓reduceIte,Qal,Qaz];refine Qb (fun h1=>by omega) (fun _=>?_);simp+decide (disch:=first|omega|rfl|(simp+decide only[go_sem,↓reduceIte]<;>rfl)|fail) only[go_sem,↓reduceIte,Qal,Qaz];refine Qb (fun h1=>absurd (List.length_eq_zero_iff.1 (by omega)) hg0) (fun _=>?_);simp+decide (disch:=first|omega|rfl|(simp+decide only[go_sem,↓reduceIte]<;>rfl)|fail) only[go_sem,↓reduceIte,Qal,Qaz];refine Qa hP (Qh3 hfm (by omega)) rfl rfl rfl ?_;rw[hfl];simp+decide (disch:=first|omega|rfl|(simp+decide only[go_sem,↓reduceIte]<;>rfl)|fail) only[go_sem,↓reduceIte,Qal,Qaz];refine Qa hP (Qgh bg (by omega)) rfl rfl rfl ?_;rw[Qet,hd];simp+decide (disch:=first|omega|rfl|(simp+decide only[go_sem,↓reduceIte]<;>rfl)|fail) only[go_sem,↓reduceIte,Qal,Qaz];refine Qa hP (Qmh bg ng (by omega) hE (by omega)) rfl rfl rfl ?_;rw[Qet];simp+decide (disch:=first|omega|rfl|(simp+decide only[go_sem,↓reduceIte]<;>rfl)|fail) only[go_sem,↓reduceIte,Qal,Qaz];refine Qhn 12 4 (by simp+decide (disch:=first|omega|rfl|(simp+decide only[go_sem,↓reduceIte]<;>rfl)|fail) only[go_sem,↓reduceIte,Qal,Qaz]) ?_;refine Qy (by repeat (first|exact Qu|exact Qn|exact Qo|exact Qk|exact Qp|apply Qm|apply Qt|apply Qw|apply Q5|apply Q6|apply Qi|apply Qz)) [(6,9),(12,16),(36,78)] [] (fun m J hp=>∃k,m=N-k/\k<=N/\((dvS g v d f k).2≠[]->Q8 (dvS g v d f k).2 v<N-k)/\(∃K' E',PB K' E' (dvS g v d f k).2/\E'<=2^30)/\Qaf (dvS g v d f k).1=false/\Qaf (dvS g v d f k).2=false/\Qe8 g v d (N-k) (dvS g v d f k).1 (dvS g v d f k).2 k=Qe8 g v d N [] f 0/\
  J 12=PV.poly (dvS g v d f k).1/\J 13=PV.poly (dvS g v d f k).2/\J 14= .int .i64 (k:Nat)) N ?_ ?_
 ·refine⟨0,rfl,by omega,fun _=>by simpa[dvS]using hN,⟨K,E,hbf,by omega⟩,rfl,hfl,rfl,?_⟩;simp+decide (disch:=first|omega|rfl|(simp+decide only[go_sem,↓reduceIte]<;>rfl)|fail) only[go_sem,↓reduceIte,Qal,Qaz];exact⟨rfl,rfl,rfl⟩
 rintro _ J h ⟨k,rfl,hk,hdk,⟨K',E',hbr,hE'⟩,hl1,hl2,hres,h12,h13,h14⟩;obtain⟨n1,n2⟩:=Qjq (v:=v) (d:=d) nf ng k;have hst:dvS g v d f (k+1)=(dvQ (dvS g v d f k).1 (dvS g v d f k).2 g v (Q8 (dvS g v d f k).2 v).toNat d,dvR (dvS g v d f k).2 g v (Q8 (dvS g v d f k).2 v).toNat d):=rfl;have hbk:=hb k;generalize(dvS g v d f k).1=q at *
 generalize(dvS g v d f k).2=r at *
 have hql:=hlen hl1;have hrl:=hlen hl2;simp+decide (disch:=first|omega|rfl|(simp+decide only[go_sem,↓reduceIte,h12,h13,h14]<;>rfl)|fail) only[go_sem,↓reduceIte,Qal,Qaz,h12,h13,h14];refine Qat (fun hg=>?_) (fun hg=>?_)
 ·have hr0:r≠[]:=fun h=>by rw[h]at hg;simp at hg
  have hrange:=Qe1 hbr hr0 v;have hdk':=hdk hr0;have hkN:k<N:=by omega
  obtain⟨b1,b2⟩:=hbk hkN;obtain⟨n,hn⟩:∃n:Nat,Q8 r v=n:=⟨(Q8 r v).toNat,by omega⟩
  have hnE:n<=E:=by have:=(Qe1 b2 hr0 v).2;omega
  simp+decide (disch:=first|omega|rfl|(simp+decide only[go_sem,↓reduceIte,h12,h13,h14]<;>rfl)|fail) only[go_sem,↓reduceIte,Qal,Qaz,h12,h13,h14];refine Qa hP (Qgh b2 (by omega)) rfl rfl rfl ?_;rw[Qet,hn];simp+decide (disch:=first|omega|rfl|(simp+decide only[go_sem,↓reduceIte,h12,h13,h14]<;>rfl)|fail) only[go_sem,↓reduceIte,Qal,Qaz,h12,h13,h14];refine Qb (fun hc=>?_) (fun hc=>?_)
  ·have hdn:d<=n:=by omega
   have e1:(n:Int)-(d:Int)=((n-d:Nat):Int):=by omega
   have hdeg:=Q1p n2 ng b2 hr0 hd (by omega);rw[hn,Int.toNat_natCast]at hst hdeg;obtain⟨q1,q2,q3,q4,q5,q6,q7,q8⟩:=Q1q (n:=n) (d:=d) b1 b2 bg hgM hv hnE;have hpn:=Qb2 n2 v (n:Int);have hpb:=Qfs b2 v (n:Int);have hpl:=Qc8 r v (n:Int);have nb:Nrm (dvB r v n d):=Qfi hpn v (n-d);have hKr:r.length*(K+K)<=4000*(K+K):=Nat.mul_le_mul_right _ hrl;have hKq:q.length*(K+K)<=4000*(K+K):=Nat.mul_le_mul_right _ hql;have hKg:g.length*(K+2+(K+2))<=M*(K+K+2)+M*2:=by
    have:=Nat.mul_le_mul_right (K+2+(K+2)) hgM;have e:K+2+(K+2)=K+K+2+2:=by omega
    rw[e]at this⊢;rw[<-Nat.mul_add];exact this
   have hl1:r.length*(Qae g v d).length<=4000*2^10:=Nat.mul_le_mul hrl (by omega);have hl2:q.length*(Qae g v d).length<=4000*2^10:=Nat.mul_le_mul hql (by omega);have hl3:g.length*(dvB r v n d).length<=2^10*4000:=Nat.mul_le_mul (by omega) (by omega);have hl4:M*r.length<=2^10*4000:=Nat.mul_le_mul (by omega) hrl;have hl5:M*q.length<=2^10*4000:=Nat.mul_le_mul (by omega) hql;have hl6:r.length*M<=4000*2^10:=Nat.mul_le_mul hrl hM;have hB:Qcn (Qae r v n) v (n-d)=dvB r v n d:=rfl;have pl:=Qajp v (n-d);have pb:=Q90 (v:=v) (n:=n-d) hv;have pn:=Q4c v (n-d);have hpe:=Q91 hpn v (n-d);have hpow:=Qzg hv (n:=n-d) (by omega);generalize ppx v (n-d)=y at *
   simp+decide (disch:=first|omega|rfl|(simp+decide only[go_sem,↓reduceIte,h12,h13,h14]<;>rfl)|fail) only[go_sem,↓reduceIte,Qal,Qaz,h12,h13,h14];refine Qa hP (Qgh b2 (by omega)) rfl rfl rfl ?_;rw[Qet,hn];simp+decide (disch:=first|omega|rfl|(simp+decide only[go_sem,↓reduceIte,h12,h13,h14]<;>rfl)|fail) only[go_sem,↓reduceIte,Qal,Qaz,h12,h13,h14];refine Qa hP (Qmh b2 n2 (by omega) hE (by omega)) rfl rfl rfl ?_;rw[Qet];simp+decide (disch:=first|omega|rfl|(simp+decide only[go_sem,↓reduceIte,h12,h13,h14,e1]<;>rfl)|fail) only[go_sem,↓reduceIte,Qal,Qaz,h12,h13,h14,e1];refine Qa hP hpow rfl rfl rfl ?_;simp+decide (disch:=first|omega|rfl|(simp+decide only[go_sem,↓reduceIte,h12,h13,h14]<;>rfl)|fail) only[go_sem,↓reduceIte,Qal,Qaz,h12,h13,h14];refine Qa hP (Qep hpb (pb.mono hK2 (by omega)) hpn.z pn.z (by omega) (by omega) (by omega) (by rw[pl];omega) (by rw[pl];omega)) rfl rfl rfl ?_;rw[Qjo hpn pn,hpe,hB];simp+decide (disch:=first|omega|rfl|(simp+decide only[go_sem,↓reduceIte,h12,h13,h14]<;>rfl)|fail) only[go_sem,↓reduceIte,Qal,Qaz,h12,h13,h14];refine Qa hP (Qep hcb b1 hcn.z n1.z (by omega) (by omega) (by omega) (by omega) (by omega)) rfl rfl rfl ?_;rw[Qjo hcn n1];simp+decide (disch:=first|omega|rfl|(simp+decide only[go_sem,↓reduceIte,h12,h13,h14]<;>rfl)|fail) only[go_sem,↓reduceIte,Qal,Qaz,h12,h13,h14];refine Qa hP (Qj6 (K:=M*(K+K+2)) (E:=E+E) (q3.mono (by omega) (Nat.le_refl _)) (q1.mono (by omega) (Nat.le_refl _)) (by omega) (by omega) (by omega) (by omega)) rfl rfl rfl ?_;rw[show Q4 (Qx (Qae g v d) q) (dvB r v n d)=dvQ q r g v n d from rfl];simp+decide (disch:=first|omega|rfl|(simp+decide only[go_sem,↓reduceIte,h12,h13,h14]<;>rfl)|fail) only[go_sem,↓reduceIte,Qal,Qaz,h12,h13,h14];refine Qa hP (Qep hcb b2 hcn.z n2.z (by omega) (by omega) (by omega) (by omega) (by omega)) rfl rfl rfl ?_;rw[Qjo hcn n2];simp+decide (disch:=first|omega|rfl|(simp+decide only[go_sem,↓reduceIte,h12,h13,h14]<;>rfl)|fail) only[go_sem,↓reduceIte,Qal,Qaz,h12,h13,h14];refine Qa hP (Qep (q1.mono (Nat.le_refl _) (by omega)) (bg.mono (K':=K+2) (E':=E+E) (by omega) (by omega)) nb.z ng.z (by omega) (by omega) (by omega) (by omega) (by omega)) rfl rfl rfl ?_;rw[Qjo nb ng];simp+decide (disch:=first|omega|rfl|(simp+decide only[go_sem,↓reduceIte,h12,h13,h14]<;>rfl)|fail) only[go_sem,↓reduceIte,Qal,Qaz,h12,h13,h14];refine Qa hP (Qnk (K:=M*(K+K+2)) (E:=E+E+E) (q5.mono (by omega) (by omega)) q7 (Qam nb.s ng.s).z (by omega) (by omega) (by omega) (by omega) (by omega)) rfl rfl rfl ?_;rw[show Qgc (Qx (Qae g v d) r) (Qx (dvB r v n d) g)=dvR r g v n d from rfl];have bQ:PB (M*(K+K)+(K+2)) (E+E) (dvQ q r g v n d):=Qhm _ _ q3 q1;have lQ:(dvQ q r g v n d).length<=2^33:=Nat.le_trans (Qeo _ _) (by omega);have bR:PB (M*(K+K)+(M*(K+K+2)+2)) (E+E+E) (dvR r g v n d):=Qhm _ _ (q5.mono (Nat.le_refl _) (by omega)) (Qn5 q7);have lR:(dvR r g v n d).length<=2^33:=Nat.le_trans (Qeo _ _) (by have:=Qhz (Qx (dvB r v n d) g) (-1);have e:(Qi2 (Qx (dvB r v n d) g)).length=(Qcf (Qx (dvB r v n d) g) (-1)).length:=rfl;omega);have hns:¬(r=[]∨Q8 r v<d):=fun h=>h.elim hr0 (fun h=>by omega);have hd1:=Qpk (g:=g) (k:=k) (q:=q) (fuel:=N-(k+1)) hns;have hd2:=Qnh (g:=g) (k:=k) (q:=q) (fuel:=N-(k+1)) hns;rw[show N-(k+1)+1=N-k by omega,hn,Int.toNat_natCast,hres]at hd1 hd2;generalize dvQ q r g v n d=q' at *
   generalize dvR r g v n d=r' at *
   simp+decide (disch:=first|omega|rfl|(simp+decide only[go_sem,↓reduceIte,h12,h13,h14]<;>rfl)|fail) only[go_sem,↓reduceIte,Qal,Qaz,h12,h13,h14];refine Qa hP (Qh3 (fun t ht=>(bQ t ht).m) (by omega)) rfl rfl rfl ?_;cases hlq:Qaf q'
   ·simp+decide (disch:=first|omega|rfl|(simp+decide only[go_sem,↓reduceIte,h12,h13,h14]<;>rfl)|fail) only[go_sem,↓reduceIte,Qal,Qaz,h12,h13,h14];refine Qa hP (Qh3 (fun t ht=>(bR t ht).m) (by omega)) rfl rfl rfl ?_;cases hlr:Qaf r'
    ·have hd1':=hd1 (by simp[hlq,hlr]);simp+decide (disch:=first|omega|rfl|(simp+decide only[go_sem,↓reduceIte,h12,h13,h14]<;>rfl)|fail) only[go_sem,↓reduceIte,Qal,Qaz,h12,h13,h14];refine Qh (N-(k+1)) (by omega) ⟨k+1,rfl,by omega,?_⟩;rw[hst];refine⟨fun _=>?_,⟨_,_,bR,by omega⟩,hlq,hlr,hd1'.symm,?_⟩
     ·show Q8 r' v<(N:Int)-((k+1:Nat):Int)
      omega
     simp+decide (disch:=first|omega|rfl|(simp+decide only[go_sem,↓reduceIte]<;>rfl)|fail) only[go_sem,↓reduceIte,Qal,Qaz]
    ·have hd2':=hd2 (.inr hlr);simp+decide (disch:=first|omega|rfl|(simp+decide only[go_sem,↓reduceIte]<;>rfl)|fail) only[go_sem,↓reduceIte,Qal,Qaz];exact Qq6 hd2' rfl rfl rfl rfl Qgb Qgb (Q2 _) (Q2 _)
   ·have hd2':=hd2 (.inl hlq);simp+decide (disch:=first|omega|rfl|(simp+decide only[go_sem,↓reduceIte]<;>rfl)|fail) only[go_sem,↓reduceIte,Qal,Qaz];exact Qq6 hd2' rfl rfl rfl rfl Qgb Qgb (Q2 _) (Q2 _)
  ·have hd1:=Qi5 (g:=g) (q:=q) (k:=k) (show r=[]∨Q8 r v<d from .inr (by omega)) (N-k);rw[hres]at hd1;simp+decide (disch:=first|omega|rfl|(simp+decide only[go_sem,↓reduceIte,h12,h13,h14]<;>rfl)|fail) only[go_sem,↓reduceIte,Qal,Qaz,h12,h13,h14];exact Qq6 hd1 rfl rfl rfl rfl (Q2 _) (Q2 _) (Q2 _) (Q2 _)
 ·have hr0:r=[]:=List.length_eq_zero_iff.1 (by omega);have hd1:=Qi5 (g:=g) (q:=q) (k:=k) (show r=[]∨Q8 r v<d from .inl hr0) (N-k);rw[hres]at hd1;simp+decide (disch:=first|omega|rfl|(simp+decide only[go_sem,↓reduceIte,h12,h13,h14]<;>rfl)|fail) only[go_sem,↓reduceIte,Qal,Qaz,h12,h13,h14];exact Qq6 hd1 rfl rfl rfl rfl (Q2 _) (Q2 _) (Q2 _) (Q2 _)
end Go.Proofs.YtdaldpkjhcfblaaGreat
namespace Go.FW
open Go
theorem Qvt(x y:Int)(hy:y≠0):mkRat (zv (decide (x<0) !=decide (y<0)) (dig x.natAbs)) y.natAbs=(x:Rat)/(y:Rat):=by
 rw[Rat.mkRat_eq_div,Qkf,<-Rat.intCast_natCast];have h3:(y:Rat)≠0:=by rw[Ne,Rat.intCast_eq_zero_iff];exact hy
 by_cases hy0:y<0
 ·have e2:(((y.natAbs:Nat):Int):Rat)= -(y:Rat):=by rw[<-Rat.intCast_neg];congr 1;omega
  have e1:(if(decide (x<0) !=decide (y<0))=true then -(x.natAbs:Int)else x.natAbs)= -x:=by by_cases hx:x<0<;>simp[hx,hy0]<;>omega
  rw[e1,e2,Rat.intCast_neg];grind
 ·have e2:(((y.natAbs:Nat):Int):Rat)=(y:Rat):=by congr 1;omega
  have e1:(if(decide (x<0) !=decide (y<0))=true then -(x.natAbs:Int)else x.natAbs)=x:=by by_cases hx:x<0<;>simp[hx,hy0]<;>omega
  rw[e1,e2]
end Go.FW
