/- Part 8 of the proof of TriangularChains: CL, U4, U7, U8, U10, W4, W5, FwUD. Own lemmas; no conditions. -/
import Derived.Test.YtdaldpkjhcfblaaGreatTriangularChainsPart7
set_option maxHeartbeats 1000000
set_option linter.unusedSimpArgs false
set_option linter.unusedVariables false
set_option linter.unnecessarySimpa false
set_option maxRecDepth 100000
namespace Go.Proofs.YtdaldpkjhcfblaaGreat
open Go Go.FW
theorem Ql4{p:List Tm}{n:Bool}{a d:List Nat}{m:List Int}{K E k:Nat}(hp:PB K E p)(hs:Qa9 p)(hnz:NZ p)(hr:Raw k n a d)(hk:k<=2^32)(hm:MB E m)(hl:m.getLast? ≠some 0)(hK:K<=2^32)(hE:E<=2^38)(hlp:p.length<=2^36):
  Qd Tryz.prog 58 [PV.poly p,PV.rr n a d,PV.mono m] (· =PV.poly (Qdu p (rv n a d) m)):=by
 have hrr:=hr.rs;refine Qf Qi Tryz.func58 rfl Qalj (by simp[c58]) fun C hP=>?_;simp only[c58];refine Sz0 ?_;refine Qw (by repeat (first|exact Qv|exact Qp|exact Qq|exact Qr|exact Qs|apply Qo|apply Qu|apply Qx|apply Q2|apply Q3|apply Qk|apply Qz)) [(7,7),(12,26)] [] (fun k J hp=>k<=p.length/\(∀t∈p.drop k,Qaf t.2 m<0)/\J 7= .int .i64 (k:Nat)/\hp 4=some ⟨3,51,[PV.rr n a d],false⟩) p.length ?_ ?_
 ·refine⟨by omega,by simp,?_⟩;exact Tz0
 rintro j J h ⟨hj,hd,h7,hh4⟩;refine Sz1 h7 ?_;refine Qan (fun hg=>?_) (fun hg=>?_)
 ·obtain⟨i,rfl⟩:∃i,j=i+1:=⟨j-1,by omega⟩
  have e:((i+1:Nat):Int)-1=i:=by omega
  have hi:i<p.length:=by omega
  have htp:=hp.get hi;have hdr:p.drop i=p[i]::p.drop (i+1):=List.drop_eq_getElem_cons hi;have htk:p.take (i+1)=p.take i++[p[i]]:=List.take_succ_eq_append_getElem hi;have hts:=Qyn hs hi;have hall:p=p.take i++p[i]::p.drop (i+1):=by rw[<-hdr,List.take_append_drop]
  have c1:=htp.c;generalize hx:p[i]=x at *
  refine Sz3 h7 e hx ?_;refine Qa hP (Qpb htp.m hm (by omega)) rfl rfl rfl ?_;refine Sz3 h7 e hx ?_;refine Qb (fun hc=>?_) (fun hc=>?_)
  ·refine Sz3 h7 e hx ?_;refine Qh i (by omega) ⟨by omega,?_,?_⟩
   ·rw[hdr];intro t ht;rcases List.mem_cons.1 ht with rfl|ht
    ·exact hc
    ·exact hd t ht
   ·exact Tz1 hh4
  ·refine Sz3 h7 e hx ?_;refine Qan (fun _=>?_) (fun h=>by omega);refine Sz3 h7 e hx ?_;refine Qa hP (Qpb htp.m hm (by omega)) rfl rfl rfl ?_;refine Sz3 h7 e hx ?_;refine Qb (fun hc2=>?_) (fun hc2=>?_)
   ·have hxm:x.2=m:=(Qug htp.l hl).1 hc2;have hx0:=hnz _ (List.getElem_mem hi);rw[hx]at hx0;have hfin:Qdu p (rv n a d) m=p.take i++(if x.1+rv n a d=0 then []else [(x.1+rv n a d,m)])++p.drop (i+1):=by
     have hall':p=p.take i++(x.1,m)::p.drop (i+1):=by rw[<-hxm];exact hall
     rw[Qdu];split
     ·rename_i h0;have e0:x.1+0=x.1:=Rat.add_zero _;rw[h0,Qcm,e0,if_neg hx0];simpa using hall'
     ·conv=>lhs;rw[hall']
      exact Q1b (fun t ht=>by rw[<-hxm];exact hts t ht)
    have htl:(p.take i).length<=p.length:=List.length_take_le' _ _;have hdl:(p.drop (i+1)).length<=p.length:=by rw[List.length_drop];omega
    have hra:=Qso x.1 (rv n a d);have hxr:=Qcy (q:=x.1) (k:=2^32) (by omega);have hadd:=Qqp (k:=2^32) hxr (show Raw (2^32) n a d from⟨hr.la,hr.ld,by have:=hr.sa;omega,by have:=hr.sd;omega,by omega⟩) (by omega);rw[Qda]at hadd;refine Sz4 h7 e hx hh4 ?_;refine Qf6 ?_ ?_
    all_goals
     refine Sz4 h7 e hx hh4 ?_;refine Qa hP hadd rfl rfl rfl ?_;refine Sz4 h7 e hx hh4 ?_;refine Qa hP (Qpa (a:=x.1+rv n a d) (by omega)) rfl rfl rfl ?_;refine Sz4 h7 e hx hh4 ?_;refine Qb (fun hz=>?_) (fun hz=>?_)
     ·rw[if_neg (fun h=>hz (Qa8.2 h))]at hfin;refine Sz4 h7 e hx hh4 ?_;rw[Q9 (f:=PV.term) (y:=(x.1+rv n a d,m)) (xs:=p.take i) (ty':=54) (fz:=false) Tz0 Qb8 (by omega) rfl (by omega) (by omega)];refine Sz4 h7 e hx hh4 ?_;rw[Qds (f:=PV.term) (xs:=p.take i++[(x.1+rv n a d,m)]) (ys:=p.drop (i+1)) Tz0 (by simp<;>omega) (by omega) (by omega) (by omega)];refine Vz0 ?_;refine Qc ?_ rfl;rw[List.take_of_length_le (by simp<;>omega),hfin]
     ·rw[if_pos (Qa8.1 (Decidable.not_not.1 hz)),List.append_nil]at hfin;refine Sz4 h7 e hx hh4 ?_;rw[Qds (f:=PV.term) (xs:=p.take i) (ys:=p.drop (i+1)) Tz0 (by simp<;>omega) (by omega) (by omega) (by omega)];refine Vz0 ?_;refine Qc ?_ rfl;rw[List.take_of_length_le (by simp<;>omega),hfin]
   ·have hgt:Q7 p [(rv n a d,m)]=p.take (i+1)++(rv n a d,m)::p.drop (i+1):=by
     have:=Quo (m:=m) (c:=rv n a d) (u:=p.take (i+1)) (v:=p.drop (i+1)) (fun t ht=>by
      rw[htk]at ht;rcases List.mem_append.1 ht with ht|ht
      ·exact Qem (hts t ht) (by omega)
      ·simp only[List.mem_singleton]at ht;subst ht;omega) hd
     rwa[List.take_append_drop]at this
    have htl:(p.take (i+1)).length<=p.length:=List.length_take_le' _ _;have hdl:(p.drop (i+1)).length<=p.length:=by rw[List.length_drop];omega
    refine Sz2 h7 hh4 ?_;refine Qa hP (Qh4 hr (by omega)) rfl rfl rfl ?_;refine Sz2 h7 hh4 ?_;refine Qb (fun hz=>?_) (fun hz=>?_)
    ·have hz':¬rv n a d=0:=fun h=>hz (Qa8.2 h);refine Sz2 h7 hh4 ?_;refine Qa hP (Qee hr (by omega)) rfl rfl rfl ?_;refine Sz2 h7 hh4 ?_;rw[Q9 (f:=PV.term) (y:=(rv n a d,m)) (xs:=p.take (i+1)) (ty':=54) (fz:=false) Tz0 Qb8 (by omega) rfl (by omega) (by omega)];refine Sz2 h7 hh4 ?_;rw[Qds (f:=PV.term) (xs:=p.take (i+1)++[(rv n a d,m)]) (ys:=p.drop (i+1)) Tz0 (by simp<;>omega) (by omega) (by omega) (by omega)];refine Vz0 ?_;refine Qc ?_ rfl;rw[List.take_of_length_le (by simp<;>omega),Qdu,if_neg hz',hgt];simp
    ·have hz':rv n a d=0:=Qa8.1 (Decidable.not_not.1 hz);refine Sz2 h7 hh4 ?_;rw[Qds (f:=PV.term) (xs:=p.take (i+1)) (ys:=p.drop (i+1)) Tz0 (by simp<;>omega) (by omega) (by omega) (by omega)];refine Vz0 ?_;refine Qc ?_ rfl;rw[List.take_of_length_le (by simp<;>omega),Qdu,if_pos hz',Qcm,List.take_append_drop]
 ·obtain rfl:j=0:=by omega
  have hgt:Q7 p [(rv n a d,m)]=[]++(rv n a d,m)::p:=Quo (m:=m) (c:=rv n a d) (u:=[]) (v:=p) (by simp) (by simpa using hd);refine Sz1 h7 ?_;rw[Qzw (by omega)];refine Sz2 h7 hh4 ?_;refine Qa hP (Qh4 hr (by omega)) rfl rfl rfl ?_;refine Sz2 h7 hh4 ?_;refine Qb (fun hz=>?_) (fun hz=>?_)
  ·have hz':¬rv n a d=0:=fun h=>hz (Qa8.2 h);refine Sz2 h7 hh4 ?_;refine Qa hP (Qee hr (by omega)) rfl rfl rfl ?_;refine Sz2 h7 hh4 ?_;rw[Q9 (f:=PV.term) (y:=(rv n a d,m)) (xs:=([]:List Tm)) (ty':=54) (fz:=false) Tz0 Qb8 (by omega) (n:=0) rfl (by omega) (by omega)];refine Sz2 h7 hh4 ?_;rw[Qds (f:=PV.term) (xs:=([]:List Tm)++[(rv n a d,m)]) (ys:=p) Tz0 (by simp<;>omega) (by omega) (by omega) (by omega)];refine Vz0 ?_;refine Qc ?_ rfl;rw[List.take_of_length_le (by simp<;>omega),Qdu,if_neg hz',hgt];simp
  ·have hz':rv n a d=0:=Qa8.1 (Decidable.not_not.1 hz);refine Sz2 h7 hh4 ?_;rw[Qds (f:=PV.term) (xs:=([]:List Tm)) (ys:=p) Tz0 (by simp<;>omega) (by omega) (by omega) (by omega)];refine Vz0 ?_;refine Qc ?_ rfl;rw[List.take_of_length_le (by simp<;>omega),Qdu,if_pos hz',Qcm]
theorem Qwl{n:Bool}{a d:List Nat}{k:Nat}(hr:Raw k n a d)(hk:k<=2^32):Qd Tryz.prog 31 [PV.rr n a d] (· =PV.poly (Qch (rv n a d))):=by
 have hadd:=(Ql4 (p:=[]) (m:=[]) (K:=1) (E:=1) (PB.nil _ _) trivial (by simp[NZ]) hr hk ⟨by simp,by simp,by simp⟩ (by simp) (by omega) (by omega) (by simp)).le (args':=[.nilS,PV.rr n a d,.nilS]) ⟨trivial,Q4 _,trivial,trivial⟩;have e:Qdu [] (rv n a d) []=Qch (rv n a d):=by rw[Qdu,Qex];rfl
 rw[e]at hadd;refine Qf Qi Tryz.func31 rfl Qalc (by simp[c31]) fun C hP=>?_;simp only[c31];refine Sz0 ?_;refine Qa hP hadd rfl rfl rfl ?_;refine Sz0 ?_;exact Qc rfl rfl
theorem Qwm{a m:List Int}(hla:a.length<2^42)(hlm:m.length<2^42):Qd Tryz.prog 136 [PV.mono a,PV.mono m] (· = .bool (Qke a m)):=by
 refine Qf Qi Tryz.func136 rfl Qagp (by simp[c136]) fun C hP=>?_;simp only[c136];refine Sz0 ?_;refine Qw (by repeat (first|exact Qv|exact Qp|exact Qq|exact Qr|exact Qs|apply Qo|apply Qu|apply Qx|apply Q2|apply Q3|apply Qk|apply Qz)) [(4,19)] [] (fun n J hp=>∃i,n=a.length-i/\i<=a.length/\(∀j,j<i->eN a j=eN m j)/\J 5= .int .i64 (i:Nat)) a.length ?_ ?_
 ·refine⟨0,rfl,by omega,by omega,?_⟩;refine Sz0 ?_;rfl
 rintro _ J h ⟨i,rfl,hi,h1,h5⟩;refine Sz1 h5 ?_;refine Qb (fun hg=>?_) (fun hg=>?_)
 ·have hi':i<a.length:=by omega
  have he:=Qct hi';generalize hx:a[i]=x at *
  refine Sz2 h5 hx ?_;refine Qa hP (Qck hlm) rfl rfl rfl ?_;refine Sz2 h5 hx ?_;refine Qb (fun hc=>?_) (fun hc=>?_)
  ·refine Sz0 ?_;refine Qc (congrArg PV.bool ?_) rfl;cases hz:Qke a m with
   |false=>rfl
   |true=>rw[Qiy]at hz;have:=hz i hi';rw[he]at this;exact absurd this hc
  ·refine Sz1 h5 ?_;refine Qh (a.length-(i+1)) (by omega) ⟨i+1,rfl,by omega,fun j hj=>?_,?_⟩
   ·by_cases hji:j=i
    ·subst hji;rw[he];exact Decidable.not_not.1 hc
    ·exact h1 j (by omega)
   ·exact Tz0
 ·obtain rfl:i=a.length:=by omega
  refine Sz0 ?_;exact Qc (congrArg PV.bool (Qiy.2 h1).symm) rfl
theorem Q3z{a:Rat}{k:Nat}(h:rs a<=k)(hk:k<=2^32):Qd Tryz.prog 31 [PV.rat a] (· =PV.poly (Qch a)):=by
 have:=Qwl (Qcy h) hk
 rwa[Qda]at this
theorem Q30{p:List Tm}{K E:Nat}(hp:PB K E p)(hn:Nrm p)(hK:K<=2^32)(hE:E<=1048576)(hl:p.length<=2^36):Qd Tryz.prog 89 [PV.poly p] (· =PV.poly p):=by
 refine Qf Qi Tryz.func89 rfl Qalg (by simp[c89]) fun C hP=>?_;simp only[c89];refine Sz0 ?_;refine Qhc 3 4 Tz0 ?_;refine Qw (by repeat (first|exact Qv|exact Qp|exact Qq|exact Qr|exact Qs|apply Qo|apply Qu|apply Qx|apply Q2|apply Q3|apply Qk|apply Qz)) [(3,32)] [] (fun n J hp=>∃i,n=p.length-i/\i<=p.length/\J 3=PV.poly (p.take i)/\J 4= .int .i64 (i:Nat)) p.length ?_ ?_
 ·refine⟨0,rfl,by omega,?_⟩;refine Sz0 ?_;simp
 rintro _ J h ⟨i,rfl,hi,h3,h4⟩;refine Sz2 h3 h4 ?_;refine Qb (fun hg=>?_) (fun hg=>?_)
 ·have hi':i<p.length:=by omega
  have htp:=hp.get hi';have htk:=Q3q hn hi';have hni:=hn.take i;have hbi:=hp.take i;have hll:(p.take i).length<=p.length:=List.length_take_le' _ _;generalize hx:p[i]=x at *
  have hml:=htp.m.len;have hok:Qbr x.2=true:=Qo1 htp.m hE htp.l;have htr:Qcz x.2=x.2:=Qq9 htp.l;have hz:=Qyo x.2;rw[htr,hok,if_pos rfl]at hz;have hcx:=htp.c;refine Sz3 h3 h4 hx ?_;refine Qa hP (Qo9 (by omega)) rfl rfl rfl ?_;rw[htr,if_pos hok];refine Sz3 h3 h4 hx ?_;refine Qa hP (Qwm (m:=x.2) (by omega) (by omega)) rfl rfl rfl ?_;rw[hz];refine Sz3 h3 h4 hx ?_;have hadd:=Ql4 (K:=K) (E:=E) (k:=K) hbi hni.s hni.z (Qcy (q:=x.1) (k:=K) (by omega)) (by omega) htp.m htp.l (by omega) (by omega) (by omega);rw[Qda,htk]at hadd;refine Qa hP hadd rfl rfl rfl ?_;refine Sz3 h3 h4 hx ?_;refine Qh (p.length-(i+1)) (by omega) ⟨i+1,rfl,by omega,?_⟩;exact Tz0
 ·obtain rfl:i=p.length:=by omega
  rw[List.take_length]at h3;refine Sz1 h3 ?_;exact Qc rfl rfl
theorem Qy0{a:List Int}{v:Int}{E:Nat}(h:MB E a):Qd Tryz.prog 87 [PV.mono a,.int .i64 v] (· = .int .i64 (eN a (exi v))):=by
 have hl:=h.len;have:=Qqq (a:=a) (v:=v) (by omega);have e:(if v<0 then 0 else eN a v.toNat)=eN a (exi v):=by
  unfold exi;split
  ·rw[Qcu (by omega)]
  ·rfl
 rwa[e]at this
theorem Qrn{p:List Tm}{v:Int}{K E:Nat}(hp:PB K E p)(hlp:p.length<=2^36):Qd Tryz.prog 46 [PV.poly p,.int .i64 v] (· = .int .i64 (Qat p (exi v))):=by
 refine Qf Qi Tryz.func46 rfl Qals (by simp[c46]) fun C hP=>?_;simp only[c46];refine Sz0 ?_;refine Qw (by repeat (first|exact Qv|exact Qp|exact Qq|exact Qr|exact Qs|apply Qo|apply Qu|apply Qx|apply Q2|apply Q3|apply Qk|apply Qz)) [(5,21)] [] (fun n J hp=>∃i,n=p.length-i/\i<=p.length/\J 5= .int .i64 (Qat (p.take i) (exi v))/\J 6= .int .i64 (i:Nat)) p.length ?_ ?_
 ·refine⟨0,rfl,by omega,?_⟩;refine Sz0 ?_;exact⟨rfl,rfl⟩
 rintro _ J h ⟨i,rfl,hi,h5,h6⟩;refine Sz2 h5 h6 ?_;refine Qb (fun hg=>?_) (fun hg=>?_)
 ·have hi':i<p.length:=by omega
  have htp:=hp.get hi';have htk:=Qvx (v:=exi v) hi';generalize hx:p[i]=x at *
  have hml:=htp.m.len;refine Sz3 h5 h6 hx ?_;refine Qa hP (Qy0 htp.m) rfl rfl rfl ?_;refine Sz3 h5 h6 hx ?_;refine Qh (p.length-(i+1)) (by omega) ⟨i+1,rfl,by omega,?_⟩;rw[htk];exact Tz0
 ·obtain rfl:i=p.length:=by omega
  rw[List.take_length]at h5;refine Sz1 h5 ?_;exact Qc rfl rfl
theorem Qahv{v:Int}{i:Nat}(h:i<64):((i:Int)=v)↔exi v=i:=by unfold exi;split<;>omega
theorem Qth{a:List Int}{v:Int}{E:Nat}(ha:MB E a)(hE:E<=1048576):Qd Tryz.prog 88 [PV.mono a,.int .i64 v] (· =PV.mono (Qb5 a (exi v))):=by
 have hml:=ha.len;have hok:=Qab0 ha hE (exi v);have hsl:(a.set (exi v) 0).length=a.length:=by simp
 refine Qf Qi Tryz.func88 rfl Qalu (by simp[c88]) fun C hP=>?_;simp only[c88];refine Sz0 ?_;refine Qdf 5 900 1 3 (by omega) Tz0 ?_;refine Qw (by repeat (first|exact Qv|exact Qp|exact Qq|exact Qr|exact Qs|apply Qo|apply Qu|apply Qx|apply Q2|apply Q3|apply Qk|apply Qz)) [(5,25)] [17,18,24,25,900] (fun n J hp=>∃i out,n=a.length-i/\i<=a.length/\out=(a.set (exi v) 0).take i/\J 5= .ms 900 out.length/\J 6= .int .i64 (i:Nat)/\hp 900=some ⟨1,3,Qfc out,false⟩) a.length ?_ ?_
 ·refine⟨0,[],rfl,by omega,rfl,?_⟩;refine Sz0 ?_;rfl
 rintro _ J h ⟨i,out,rfl,hi,hout,h5,h6,hh⟩;have hol:out.length=i:=by rw[hout,List.length_take];omega
 refine Sz2 h5 h6 ?_;refine Qb (fun hg=>?_) (fun hg=>?_)
 ·have hi':i<a.length:=by omega
  have htk:(a.set (exi v) 0).take (i+1)=(a.set (exi v) 0).take i++[if exi v=i then 0 else a[i]]:=by rw[List.take_succ_eq_append_getElem (by omega),List.getElem_set]
  have hiff:=Qahv (v:=v) (i:=i) (by omega);generalize hx:a[i]=x at *
  refine Sz3 h5 h6 hx ?_;refine Qb (fun hc=>?_) (fun hc=>?_)
  ·rw[if_pos (hiff.1 hc)]at htk;refine Sz3 h5 h6 hx ?_;rw[Q9 (f:=fun(x:Int)=>.int .i64 x) (y:=(0:Int)) (xs:=out) (ty':=3) (fz:=false) (Tz1 hh) Qb8 (by omega) rfl (by omega) (by omega)];refine Sz3 h5 h6 hx ?_;refine Qh (a.length-(i+1)) (by omega) ⟨i+1,out++[(0:Int)],rfl,by omega,by rw[htk,hout],?_⟩;simp+decide (disch:=first|omega|rfl|(simp+decide only[go_sem,↓reduceIte,List.length_append]<;>rfl)|fail) only[go_sem,↓reduceIte,List.length_append]
  ·rw[if_neg (fun h=>hc (hiff.2 h))]at htk;refine Sz3 h5 h6 hx ?_;rw[Q9 (f:=fun(x:Int)=>.int .i64 x) (y:=x) (xs:=out) (ty':=3) (fz:=false) (Tz1 hh) Qb8 (by omega) rfl (by omega) (by omega)];refine Sz3 h5 h6 hx ?_;refine Qh (a.length-(i+1)) (by omega) ⟨i+1,out++[x],rfl,by omega,by rw[htk,hout],?_⟩;simp+decide (disch:=first|omega|rfl|(simp+decide only[go_sem,↓reduceIte,List.length_append]<;>rfl)|fail) only[go_sem,↓reduceIte,List.length_append]
 ·obtain rfl:i=a.length:=by omega
  rw[List.take_of_length_le (by omega)]at hout;subst hout;refine Sz2 h5 hh ?_;refine Qci hP (Qo9 (a:=a.set (exi v) 0) (by omega)) (by simp+decide (disch:=first|omega|rfl|(simp+decide only[go_sem,↓reduceIte,hh,Qay,List.contains_cons,List.contains_nil,List.flatMap_cons,List.flatMap_nil,List.append_nil]<;>rfl)|fail) only[go_sem,↓reduceIte,hh,Qay,List.contains_cons,List.contains_nil,List.flatMap_cons,List.flatMap_nil,List.append_nil];simp[List.take_of_length_le]) rfl ?_;rw[show Qcz (a.set (exi v) 0)=Qb5 a (exi v)from rfl,if_pos hok];refine Sz0 ?_;exact Qc rfl rfl
theorem Qy1{p:List Tm}{v n:Int}{K E:Nat}(hp:PB K E p)(np:Nrm p)(hlp:p.length<=2^36)(hE:E<=1048576)(hK:K<=2^32):Qd Tryz.prog 45 [PV.poly p,.int .i64 v,.int .i64 n] (· =PV.poly (Qam p (exi v) n)):=by
 have hcl0:=Qdp p (exi v) n;refine Qf Qi Tryz.func45 rfl Qalt (by simp[c45]) fun C hP=>?_;simp only[c45];refine Sz0 ?_;refine Qdf 7 900 4 54 (by omega) Tz0 ?_;refine Qw (by repeat (first|exact Qv|exact Qp|exact Qq|exact Qr|exact Qs|apply Qo|apply Qu|apply Qx|apply Q2|apply Q3|apply Qk|apply Qz)) [(7,39)] [38,39,900] (fun m J hp=>∃i,m=p.length-i/\i<=p.length/\J 7= .ms 900 (Qam (p.take i) (exi v) n).length/\J 8= .int .i64 (i:Nat)/\hp 900=some ⟨4,54,(Qam (p.take i) (exi v) n).map PV.term,false⟩) p.length ?_ ?_
 ·refine⟨0,rfl,by omega,?_⟩;refine Sz0 ?_;exact⟨rfl,rfl,rfl⟩
 rintro _ J h ⟨i,rfl,hi,h7,h8,hh⟩;refine Sz2 h7 h8 ?_;refine Qb (fun hg=>?_) (fun hg=>?_)
 ·have hi':i<p.length:=by omega
  have htp:=hp.get hi';have hck:=Qs8 (v:=exi v) (n:=n) hi';have hcl:=Qdp (p.take i) (exi v) n;rw[List.length_take]at hcl;generalize hx:p[i]=x at *
  have hml:=htp.m.len;refine Sz3 h7 h8 hx ?_;refine Qa hP (Qy0 htp.m) rfl rfl rfl ?_;refine Sz3 h7 h8 hx ?_;refine Qb (fun hc=>?_) (fun hc=>?_)
  ·rw[if_pos hc]at hck;refine Sz3 h7 h8 hx ?_;refine Qa hP (Qth htp.m hE) rfl rfl rfl ?_;refine Sz3 h7 h8 hx ?_;rw[Q9 (f:=PV.term) (y:=(x.1,Qb5 x.2 (exi v))) (xs:=Qam (p.take i) (exi v) n) (ty':=54) (fz:=false) (Tz1 hh) Qb8 (by omega) rfl (by omega) (by omega)];refine Sz3 h7 h8 hx ?_;refine Qh (p.length-(i+1)) (by omega) ⟨i+1,rfl,by omega,?_⟩;rw[hck];simp+decide (disch:=first|omega|rfl|(simp+decide only[go_sem,↓reduceIte,List.length_append]<;>rfl)|fail) only[go_sem,↓reduceIte,List.length_append]
  ·rw[if_neg hc,List.append_nil]at hck;refine Sz3 h7 h8 hx ?_;refine Qh (p.length-(i+1)) (by omega) ⟨i+1,rfl,by omega,?_⟩;rw[hck];exact Tz2 h7 hh
 ·obtain rfl:i=p.length:=by omega
  rw[List.take_length]at h7 hh;refine Sz2 h7 hh ?_;refine Qci hP (Q30 (Qil hp (exi v) n) (Qdq np (exi v) n) hK hE (by omega)) (by simp+decide (disch:=first|omega|rfl|(simp+decide only[go_sem,↓reduceIte,hh,Qay,List.contains_cons,List.contains_nil,List.flatMap_cons,List.flatMap_nil,List.append_nil]<;>rfl)|fail) only[go_sem,↓reduceIte,hh,Qay,List.contains_cons,List.contains_nil,List.flatMap_cons,List.flatMap_nil,List.append_nil];simp[List.take_of_length_le]) rfl ?_;refine Sz0 ?_;exact Qc rfl rfl
end Go.Proofs.YtdaldpkjhcfblaaGreat
namespace Go.FW
open Go
theorem Qti(x y:Int)(hy:y≠0):mkRat (zv (decide (x<0) !=decide (y<0)) (dig x.natAbs)) y.natAbs=(x:Rat)/(y:Rat):=by
 rw[Rat.mkRat_eq_div,Qi8,<-Rat.intCast_natCast];have h3:(y:Rat)≠0:=by rw[Ne,Rat.intCast_eq_zero_iff];exact hy
 by_cases hy0:y<0
 ·have e2:(((y.natAbs:Nat):Int):Rat)= -(y:Rat):=by rw[<-Rat.intCast_neg];congr 1;omega
  have e1:(if(decide (x<0) !=decide (y<0))=true then -(x.natAbs:Int)else x.natAbs)= -x:=by by_cases hx:x<0<;>simp[hx,hy0]<;>omega
  rw[e1,e2,Rat.intCast_neg];grind
 ·have e2:(((y.natAbs:Nat):Int):Rat)=(y:Rat):=by congr 1;omega
  have e1:(if(decide (x<0) !=decide (y<0))=true then -(x.natAbs:Int)else x.natAbs)=x:=by by_cases hx:x<0<;>simp[hx,hy0]<;>omega
  rw[e1,e2]
end Go.FW
