/- Part 7 of the proof of SquaresGrams: U7, U8, U10, P9, FwUD, FwUE, FwUF, FwUI, FwUJ, FwUH, FwUK, FwXA. Own lemmas; no conditions. -/
import Derived.Test.YtkoclfmjlolkhaaGreatSquaresGramsPart6
set_option linter.unusedSimpArgs false
set_option linter.unusedVariables false
set_option linter.unnecessarySimpa false
set_option maxRecDepth 100000
namespace Go.Proofs.YtkoclfmjlolkhaaGreat
open Go Go.FW
theorem Qna{p:List Tm}{n:Bool}{a d:List Nat}{m:List Int}{K E k:Nat}(hp:PB K E p)(hs:Qcz p)(hnz:NZ p)(hr:Raw k n a d)(hk:k<=2^32)(hm:MB E m)(hl:m.getLast? ≠some 0)(hK:K<=2^32)(hE:E<=2^38)(hlp:p.length<=2^36):
  Qd Tryz.prog 133 [PV.poly p,PV.rr n a d,PV.mono m] (· =PV.poly (Qeq p (rv n a d) m)):=by
 have hrr:=hr.rs
 refine Qf Qq Tryz.func133 rfl Qale (by simp[c133]) fun C hP=> ?_;simp only[c133,Zo,Zg,Zm,Zc,Zf,Zl,Zh,Zs,Zi,Zb,Zk,Zn,Zu,Zq,Zr,Zz]
 simp+decide (disch:=try exact D0) only[go_sem]
 refine Qz (by repeat (first|exact Qn|exact Qi|exact Qj|exact Qk|exact Ql|apply Qh|apply Qm|apply Qt|apply Qx|apply Qy|apply Qg|apply Qr)) [(7,7),(12,26)] [] (fun k J hp=>k<=p.length/\(∀t∈p.drop k,Qau t.2 m<0)/\J 7= .int .i64 (k:Nat)/\hp 4=some ⟨3,51,[PV.rr n a d],false⟩) p.length ?_ ?_
 ·refine⟨by omega,by simp,?_⟩
  simp+decide (disch:=try exact D0) only[go_sem]
 rintro j J h ⟨hj,hd,h7,hh4⟩
 simp+decide (disch:=try exact D1 h7) only[go_sem,h7]
 refine Qaw (fun hg=> ?_) (fun hg=> ?_)
 ·obtain⟨i,rfl⟩:∃i,j=i+1:=⟨j-1,by omega⟩
  have e:((i+1:Nat):Int)-1=i:=by omega
  have hi:i<p.length:=by omega
  have htp:=hp.get hi
  have hdr:p.drop i=p[i]::p.drop (i+1):=List.drop_eq_getElem_cons hi
  have htk:p.take (i+1)=p.take i++[p[i]]:=List.take_succ_eq_append_getElem hi
  have hts:=Q0u hs hi
  have hall:p=p.take i++p[i]::p.drop (i+1):=by rw[<-hdr,List.take_append_drop]
  have c1:=htp.c
  generalize hx:p[i]=x at *
  simp+decide (disch:=try exact D3 h7 e hx) only[go_sem,h7,e,hx]
  refine Qa hP (Qqx htp.m hm (by omega)) rfl rfl rfl ?_
  simp+decide (disch:=try exact D3 h7 e hx) only[go_sem,h7,e,hx]
  refine Qb (fun hc=> ?_) (fun hc=> ?_)
  ·simp+decide (disch:=try exact D3 h7 e hx) only[go_sem,h7,e,hx]
   refine Qo i (by omega) ⟨by omega,?_,?_⟩
   ·rw[hdr]
    intro t ht
    rcases List.mem_cons.1 ht with rfl|ht
    ·exact hc
    ·exact hd t ht
   ·simp+decide (disch:=try exact D1 hh4) only[go_sem,hh4]
  ·simp+decide (disch:=try exact D3 h7 e hx) only[go_sem,h7,e,hx]
   refine Qaw (fun _=> ?_) (fun h=>by omega)
   simp+decide (disch:=try exact D3 h7 e hx) only[go_sem,h7,e,hx]
   refine Qa hP (Qqx htp.m hm (by omega)) rfl rfl rfl ?_
   simp+decide (disch:=try exact D3 h7 e hx) only[go_sem,h7,e,hx]
   refine Qb (fun hc2=> ?_) (fun hc2=> ?_)
   ·have hxm:x.2=m:=(Qwb htp.l hl).1 hc2
    have hx0:=hnz _ (List.getElem_mem hi)
    rw[hx]at hx0
    have hfin:Qeq p (rv n a d) m=p.take i++(if x.1+rv n a d=0 then []else [(x.1+rv n a d,m)])++p.drop (i+1):=by
     have hall':p=p.take i++(x.1,m)::p.drop (i+1):=by rw[<-hxm];exact hall
     rw[Qeq]
     split
     ·rename_i h0
      have e0:x.1+0=x.1:=Rat.add_zero _
      rw[h0,Qdn,e0,if_neg hx0]
      simpa using hall'
     ·conv=>lhs;rw[hall']
      exact Q4i (fun t ht=>by rw[<-hxm];exact hts t ht)
    have htl:(p.take i).length<=p.length:=List.length_take_le' _ _
    have hdl:(p.drop (i+1)).length<=p.length:=by rw[List.length_drop];omega
    have hra:=Qkd x.1 (rv n a d)
    have hxr:=Qbx (q:=x.1) (k:=2^32) (by omega)
    have hadd:=Qso (k:=2^32) hxr (show Raw (2^32) n a d from⟨hr.la,hr.ld,by have:=hr.sa;omega,by have:=hr.sd;omega,by omega⟩) (by omega)
    rw[Qca]at hadd
    simp+decide (disch:=try exact D4 h7 e hx hh4) only[go_sem,h7,e,hx,hh4]
    refine Qda ?_ ?_
    all_goals
     simp+decide (disch:=try exact D4 h7 e hx hh4) only[go_sem,h7,e,hx,hh4]
     refine Qa hP hadd rfl rfl rfl ?_
     simp+decide (disch:=try exact D4 h7 e hx hh4) only[go_sem,h7,e,hx,hh4]
     refine Qa hP (Qkj (a:=x.1+rv n a d) (by omega)) rfl rfl rfl ?_
     simp+decide (disch:=try exact D4 h7 e hx hh4) only[go_sem,h7,e,hx,hh4]
     refine Qb (fun hz=> ?_) (fun hz=> ?_)
     ·rw[if_neg (fun h=>hz (Qav.2 h))]at hfin
      simp+decide (disch:=try exact D4 h7 e hx hh4) only[go_sem,h7,e,hx,hh4]
      rw[Qaf (f:=PV.term) (y:=(x.1+rv n a d,m)) (xs:=p.take i) (ty':=95) (fz:=false) T0 Tr0 (by omega) rfl (by omega) (by omega)]
      simp+decide (disch:=try exact D4 h7 e hx hh4) only[go_sem,h7,e,hx,hh4]
      rw[Qd0 (f:=PV.term) (xs:=p.take i++[(x.1+rv n a d,m)]) (ys:=p.drop (i+1)) T0 (by simp<;>omega) (by omega) (by omega) (by omega)]
      simp+decide (disch:=try exact E0) only[go_sem,Qac,List.contains_cons,List.contains_nil,List.flatMap_cons,List.flatMap_nil,List.append_nil]
      refine Qc ?_ rfl
      rw[List.take_of_length_le (by simp<;>omega),hfin]
     ·rw[if_pos (Qav.1 (Decidable.not_not.1 hz)),List.append_nil]at hfin
      simp+decide (disch:=try exact D4 h7 e hx hh4) only[go_sem,h7,e,hx,hh4]
      rw[Qd0 (f:=PV.term) (xs:=p.take i) (ys:=p.drop (i+1)) T0 (by simp<;>omega) (by omega) (by omega) (by omega)]
      simp+decide (disch:=try exact E0) only[go_sem,Qac,List.contains_cons,List.contains_nil,List.flatMap_cons,List.flatMap_nil,List.append_nil]
      refine Qc ?_ rfl
      rw[List.take_of_length_le (by simp<;>omega),hfin]
   ·have hgt:Qap p [(rv n a d,m)]=p.take (i+1)++(rv n a d,m)::p.drop (i+1):=by
     have:=Qwn (m:=m) (c:=rv n a d) (u:=p.take (i+1)) (v:=p.drop (i+1)) (fun t ht=>by
      rw[htk]at ht
      rcases List.mem_append.1 ht with ht|ht
      ·exact Qfa (hts t ht) (by omega)
      ·simp only[List.mem_singleton]at ht;subst ht;omega) hd
     rwa[List.take_append_drop]at this
    have htl:(p.take (i+1)).length<=p.length:=List.length_take_le' _ _
    have hdl:(p.drop (i+1)).length<=p.length:=by rw[List.length_drop];omega
    simp+decide (disch:=try exact D2 h7 hh4) only[go_sem,h7,hh4]
    refine Qa hP (Qi2 hr (by omega)) rfl rfl rfl ?_
    simp+decide (disch:=try exact D2 h7 hh4) only[go_sem,h7,hh4]
    refine Qb (fun hz=> ?_) (fun hz=> ?_)
    ·have hz':¬rv n a d=0:=fun h=>hz (Qav.2 h)
     simp+decide (disch:=try exact D2 h7 hh4) only[go_sem,h7,hh4]
     refine Qa hP (Qdq hr (by omega)) rfl rfl rfl ?_
     simp+decide (disch:=try exact D2 h7 hh4) only[go_sem,h7,hh4]
     rw[Qaf (f:=PV.term) (y:=(rv n a d,m)) (xs:=p.take (i+1)) (ty':=95) (fz:=false) T0 Tr0 (by omega) rfl (by omega) (by omega)]
     simp+decide (disch:=try exact D2 h7 hh4) only[go_sem,h7,hh4]
     rw[Qd0 (f:=PV.term) (xs:=p.take (i+1)++[(rv n a d,m)]) (ys:=p.drop (i+1)) T0 (by simp<;>omega) (by omega) (by omega) (by omega)]
     simp+decide (disch:=try exact E0) only[go_sem,Qac,List.contains_cons,List.contains_nil,List.flatMap_cons,List.flatMap_nil,List.append_nil]
     refine Qc ?_ rfl
     rw[List.take_of_length_le (by simp<;>omega),Qeq,if_neg hz',hgt]
     simp
    ·have hz':rv n a d=0:=Qav.1 (Decidable.not_not.1 hz)
     simp+decide (disch:=try exact D2 h7 hh4) only[go_sem,h7,hh4]
     rw[Qd0 (f:=PV.term) (xs:=p.take (i+1)) (ys:=p.drop (i+1)) T0 (by simp<;>omega) (by omega) (by omega) (by omega)]
     simp+decide (disch:=try exact E0) only[go_sem,Qac,List.contains_cons,List.contains_nil,List.flatMap_cons,List.flatMap_nil,List.append_nil]
     refine Qc ?_ rfl
     rw[List.take_of_length_le (by simp<;>omega),Qeq,if_pos hz',Qdn,List.take_append_drop]
 ·obtain rfl:j=0:=by omega
  have hgt:Qap p [(rv n a d,m)]=[]++(rv n a d,m)::p:=Qwn (m:=m) (c:=rv n a d) (u:=[]) (v:=p) (by simp) (by simpa using hd)
  simp+decide (disch:=try exact D1 h7) only[go_sem,h7]
  rw[Q20 (by omega)]
  simp+decide (disch:=try exact D2 h7 hh4) only[go_sem,h7,hh4]
  refine Qa hP (Qi2 hr (by omega)) rfl rfl rfl ?_
  simp+decide (disch:=try exact D2 h7 hh4) only[go_sem,h7,hh4]
  refine Qb (fun hz=> ?_) (fun hz=> ?_)
  ·have hz':¬rv n a d=0:=fun h=>hz (Qav.2 h)
   simp+decide (disch:=try exact D2 h7 hh4) only[go_sem,h7,hh4]
   refine Qa hP (Qdq hr (by omega)) rfl rfl rfl ?_
   simp+decide (disch:=try exact D2 h7 hh4) only[go_sem,h7,hh4]
   rw[Qaf (f:=PV.term) (y:=(rv n a d,m)) (xs:=([]:List Tm)) (ty':=95) (fz:=false) T0 Tr0 (by omega) (n:=0) rfl (by omega) (by omega)]
   simp+decide (disch:=try exact D2 h7 hh4) only[go_sem,h7,hh4]
   rw[Qd0 (f:=PV.term) (xs:=([]:List Tm)++[(rv n a d,m)]) (ys:=p) T0 (by simp<;>omega) (by omega) (by omega) (by omega)]
   simp+decide (disch:=try exact E0) only[go_sem,Qac,List.contains_cons,List.contains_nil,List.flatMap_cons,List.flatMap_nil,List.append_nil]
   refine Qc ?_ rfl
   rw[List.take_of_length_le (by simp<;>omega),Qeq,if_neg hz',hgt]
   simp
  ·have hz':rv n a d=0:=Qav.1 (Decidable.not_not.1 hz)
   simp+decide (disch:=try exact D2 h7 hh4) only[go_sem,h7,hh4]
   rw[Qd0 (f:=PV.term) (xs:=([]:List Tm)) (ys:=p) T0 (by simp<;>omega) (by omega) (by omega) (by omega)]
   simp+decide (disch:=try exact E0) only[go_sem,Qac,List.contains_cons,List.contains_nil,List.flatMap_cons,List.flatMap_nil,List.append_nil]
   refine Qc ?_ rfl
   rw[List.take_of_length_le (by simp<;>omega),Qeq,if_pos hz',Qdn]
theorem Qym{n:Bool}{a d:List Nat}{k:Nat}(hr:Raw k n a d)(hk:k<=2^32):Qd Tryz.prog 70 [PV.rr n a d] (· =PV.poly (Qho (rv n a d))):=by
 have hadd:=(Qna (p:=[]) (m:=[]) (K:=1) (E:=1) (PB.nil _ _) trivial (by simp[NZ]) hr hk ⟨by simp,by simp,by simp⟩ (by simp) (by omega) (by omega) (by simp)).le (args':=[.nilS,PV.rr n a d,.nilS]) ⟨trivial,Qab _,trivial,trivial⟩
 have e:Qeq [] (rv n a d) []=Qho (rv n a d):=by rw[Qeq,Qh7];rfl
 rw[e]at hadd
 refine Qf Qq Tryz.func70 rfl Qapo (by simp[c70]) fun C hP=> ?_;simp only[c70,Zo,Zg,Zm,Zc,Zf,Zl,Zh,Zs,Zi,Zb,Zk,Zn,Zu,Zq,Zr,Zz]
 simp+decide (disch:=try exact D0) only[go_sem]
 refine Qa hP hadd rfl rfl rfl ?_
 simp+decide (disch:=try exact D0) only[go_sem]
 exact Qc rfl rfl
theorem Qyn{a m:List Int}(hla:a.length<2^42)(hlm:m.length<2^42):Qd Tryz.prog 165 [PV.mono a,PV.mono m] (· = .bool (Qlg a m)):=by
 refine Qf Qq Tryz.func165 rfl Qalg (by simp[c165]) fun C hP=> ?_;simp only[c165,Zo,Zg,Zm,Zc,Zf,Zl,Zh,Zs,Zi,Zb,Zk,Zn,Zu,Zq,Zr,Zz]
 simp+decide (disch:=try exact D0) only[go_sem]
 refine Qz (by repeat (first|exact Qn|exact Qi|exact Qj|exact Qk|exact Ql|apply Qh|apply Qm|apply Qt|apply Qx|apply Qy|apply Qg|apply Qr)) [(4,19)] [] (fun n J hp=>∃i,n=a.length-i/\i<=a.length/\(∀j,j<i->eN a j=eN m j)/\J 5= .int .i64 (i:Nat)) a.length ?_ ?_
 ·refine⟨0,rfl,by omega,by omega,?_⟩
  simp+decide (disch:=try exact D0) only[go_sem]
  rfl
 rintro _ J h ⟨i,rfl,hi,h1,h5⟩
 simp+decide (disch:=try exact D1 h5) only[go_sem,h5]
 refine Qb (fun hg=> ?_) (fun hg=> ?_)
 ·have hi':i<a.length:=by omega
  have he:=Qde hi'
  generalize hx:a[i]=x at *
  simp+decide (disch:=try exact D2 h5 hx) only[go_sem,h5,hx]
  refine Qa hP (Qc0 hlm) rfl rfl rfl ?_
  simp+decide (disch:=try exact D2 h5 hx) only[go_sem,h5,hx]
  refine Qb (fun hc=> ?_) (fun hc=> ?_)
  ·simp+decide (disch:=try exact D0) only[go_sem]
   refine Qc (congrArg PV.bool ?_) rfl
   cases hz:Qlg a m with
   |false=>rfl
   |true=>rw[Qjx]at hz;have:=hz i hi';rw[he]at this;exact absurd this hc
  ·simp+decide (disch:=try exact D1 h5) only[go_sem,h5]
   refine Qo (a.length-(i+1)) (by omega) ⟨i+1,rfl,by omega,fun j hj=> ?_,?_⟩
   ·by_cases hji:j=i
    ·subst hji;rw[he];exact Decidable.not_not.1 hc
    ·exact h1 j (by omega)
   ·simp+decide (disch:=try exact D0) only[go_sem]
 ·obtain rfl:i=a.length:=by omega
  simp+decide (disch:=try exact D0) only[go_sem]
  exact Qc (congrArg PV.bool (Qjx.2 h1).symm) rfl
theorem Q1e{l:List RTm}{k:Nat}(hb:∀t∈l,RB k t)(hk1:1<=k)(hk:k<=2^24)(hll:l.length<=100):Qd Tryz.prog 94 [PV.rpoly l] (· =PV.poly (Qgy l)):=by
 have hrs:∀t∈l,rs t.q<=k:=fun t ht=>(RB.raw (hb t ht) hk1).rs
 have hbnd:∀i,PB (i*(k+1)) 1048576 (Qgy (l.take i))/\(Qgy (l.take i)).length<=i:=fun i=>by
  have e:(l.take i).length<=i:=List.length_take_le _ _
  obtain⟨h1,h2⟩:=Qsd (l:=l.take i) (k:=k) (fun t ht=>hrs t (List.mem_of_mem_take ht))
  rw[Qxp]
  exact⟨h1.mono (Nat.mul_le_mul_right _ e) (Nat.le_refl _),by omega⟩
 refine Qf Qq Tryz.func94 rfl Qaps (by simp[c94]) fun C hP=> ?_;simp only[c94,Zo,Zg,Zm,Zc,Zf,Zl,Zh,Zs,Zi,Zb,Zk,Zn,Zu,Zq,Zr,Zz]
 simp+decide (disch:=try exact D0) only[go_sem]
 refine Qld 3 4 T0 ?_
 refine Qz (by repeat (first|exact Qn|exact Qi|exact Qj|exact Qk|exact Ql|apply Qh|apply Qm|apply Qt|apply Qx|apply Qy|apply Qg|apply Qr)) [(3,32)] [] (fun n J hp=>∃i,n=l.length-i/\i<=l.length/\J 3=PV.poly (Qgy (l.take i))/\J 4= .int .i64 (i:Nat)) l.length ?_ ?_
 ·refine⟨0,rfl,by omega,?_⟩
  simp+decide (disch:=try exact D0) only[go_sem]
  simp[Qgy,Qgc]
 rintro _ J h ⟨i,rfl,hi,h3,h4⟩
 simp+decide (disch:=try exact D2 h3 h4) only[go_sem,h3,h4]
 refine Qb (fun hg=> ?_) (fun hg=> ?_)
 ·have hi':i<l.length:=by omega
  have hbt:=hb _ (List.getElem_mem hi')
  have htk:=Q23 hi'
  obtain⟨hb1,hb2⟩:=hbnd i
  have hnr:=Quw (l.take i)
  have hik:i*(k+1)<=100*(2^24+1):=Nat.mul_le_mul (by omega) (by omega)
  generalize hx:l[i]=x at *
  have hml:=hbt.l
  have hz:=Q0v x.m
  have htl:=Qe1 x.m
  simp+decide (disch:=try exact D3 h3 h4 hx) only[go_sem,h3,h4,hx]
  refine Qa hP (Q1b (by omega)) rfl rfl rfl ?_
  simp+decide (disch:=try exact D3 h3 h4 hx) only[go_sem,h3,h4,hx]
  refine Qa hP (Qyn (m:=if Qaj (Qbb x.m)=true then Qbb x.m else []) (by omega) (by split<;>simp<;>omega)) rfl rfl rfl ?_
  rw[hz]
  simp+decide (disch:=try exact D3 h3 h4 hx) only[go_sem,h3,h4,hx]
  cases hmo:Qaj (Qbb x.m)
  ·rw[Qo5 hmo]at htk
   simp+decide (disch:=try exact D3 h3 h4 hx) only[go_sem,h3,h4,hx]
   refine Qo (l.length-(i+1)) (by omega) ⟨i+1,rfl,by omega,?_⟩
   rw[htk]
   simp+decide (disch:=try exact D1 h3) only[go_sem,h3]
   rfl
  ·rw[Qo4 hmo]at htk
   simp+decide (disch:=try exact D3 h3 h4 hx) only[go_sem,h3,h4,hx]
   refine Qa hP (Qna hb1 hnr.s hnr.z (RB.raw hbt hk1) (by omega) (MB.ofOk hmo) (Qdg hmo) (by omega) (by omega) (by omega)) rfl rfl rfl ?_
   simp+decide (disch:=try exact D3 h3 h4 hx) only[go_sem,h3,h4,hx]
   refine Qo (l.length-(i+1)) (by omega) ⟨i+1,rfl,by omega,?_⟩
   rw[htk]
   simp+decide (disch:=try exact D1 h3) only[go_sem,h3]
   rfl
 ·obtain rfl:i=l.length:=by omega
  rw[List.take_length]at h3
  simp+decide (disch:=try exact D1 h3) only[go_sem,h3]
  exact Qc rfl rfl
theorem Q6y{a:Rat}{k:Nat}(h:rs a<=k)(hk:k<=2^32):Qd Tryz.prog 70 [PV.rat a] (· =PV.poly (Qho a)):=by
 have:=Qym (Qbx h) hk
 rwa[Qca]at this
end Go.Proofs.YtkoclfmjlolkhaaGreat
namespace Go.FW
open Go
theorem Qu7(x y:Int)(hy:y≠0):mkRat (zv (decide (x<0) !=decide (y<0)) (dig x.natAbs)) y.natAbs=(x:Rat)/(y:Rat):=by
 rw[Rat.mkRat_eq_div,Qiv,<-Rat.intCast_natCast]
 have h3:(y:Rat)≠0:=by rw[Ne,Rat.intCast_eq_zero_iff];exact hy
 by_cases hy0:y<0
 ·have e2:(((y.natAbs:Nat):Int):Rat)= -(y:Rat):=by rw[<-Rat.intCast_neg];congr 1;omega
  have e1:(if(decide (x<0) !=decide (y<0))=true then -(x.natAbs:Int)else x.natAbs)= -x:=by
   by_cases hx:x<0<;>simp[hx,hy0]<;>omega
  rw[e1,e2,Rat.intCast_neg]
  grind
 ·have e2:(((y.natAbs:Nat):Int):Rat)=(y:Rat):=by congr 1;omega
  have e1:(if(decide (x<0) !=decide (y<0))=true then -(x.natAbs:Int)else x.natAbs)=x:=by
   by_cases hx:x<0<;>simp[hx,hy0]<;>omega
  rw[e1,e2]
theorem Qaqp{n m:Bool}{a d b c:List Nat}(hd:val d≠0)(hc:val c≠0)(hb:zv m b≠0):((zv n a*(val c:Int):Int):Rat)/((zv m b*(val d:Int):Int):Rat)=rv n a d/rv m b c:=by
 have h1:((val d:Int):Rat)≠0:=by rw[Ne,Rat.intCast_eq_zero_iff];omega
 have h2:((val c:Int):Rat)≠0:=by rw[Ne,Rat.intCast_eq_zero_iff];omega
 have h3:((zv m b:Int):Rat)≠0:=by rw[Ne,Rat.intCast_eq_zero_iff];exact hb
 unfold rv
 rw[Rat.mkRat_eq_div,Rat.mkRat_eq_div,Rat.intCast_mul,Rat.intCast_mul]
 rw[<-Rat.intCast_natCast,<-Rat.intCast_natCast]
 grind
theorem Qaaj(x y:Int)(hy:y≠0):rs ((x:Rat)/(y:Rat))<=max (nl x.natAbs) (max (nl y.natAbs) 1):=by
 rw[<-Qu7 x y hy]
 have:=Qok (zv (decide (x<0) !=decide (y<0)) (dig x.natAbs)) y.natAbs
 rwa[Qbu,Qag]at this
theorem Q1f(q:Rat)(h:q≠0):rs q⁻¹ <=rs q:=by
 have hn:q.num≠0:=fun e=>h (Rat.num_eq_zero.1 e)
 have e:q⁻¹ =(((q.den:Int):Int):Rat)/((q.num:Int):Rat):=by
  have d1:q=(q.num:Rat)/((q.den:Int):Rat):=by
   conv=>lhs;rw[<-Rat.mkRat_self q]
   rw[Rat.mkRat_eq_div,Rat.intCast_natCast]
  have k1:((q.den:Int):Rat)≠0:=by rw[Ne,Rat.intCast_eq_zero_iff];have:=q.den_nz;omega
  have k3:((q.num:Int):Rat)≠0:=by rw[Ne,Rat.intCast_eq_zero_iff];exact hn
  generalize(q.num:Rat)=A at *
  generalize((q.den:Int):Rat)=D at *
  rw[d1]
  grind
 have h2:=Qaaj (q.den:Int) q.num hn
 have h3:=Qz1 q
 rw[e]
 unfold rs at h3⊢
 unfold rs at h2
 rw[Int.natAbs_natCast]at h2
 have h4:1<=nl q.den:=by
  have:=q.den_nz
  apply Decidable.byContradiction;intro hc
  exact this (Qip.1 (by omega))
 omega
def hdT(p:List Tm):Tm:=p.headD (0,[])
theorem Qame{p:List Tm}(h:p≠[]):hdT p∈p:=by cases p with
 |nil=>exact absurd rfl h
 |cons t p=>simp[hdT]
def Qg1(c:Rat):Rat:=if c<0 then -c else c
theorem Qsu(c:Rat):0<=Qg1 c:=by unfold Qg1;grind
theorem Qago(a b:Rat):Qg1 (a*b)=Qg1 a*Qg1 b:=by
 have pos:∀x:Rat,0<=x->Qg1 x=x:=fun x h=>by unfold Qg1;grind
 have neg:∀x:Rat,x<=0->Qg1 x= -x:=fun x h=>by unfold Qg1;grind
 rcases Decidable.em (0<=a)with ha|ha<;>rcases Decidable.em (0<=b)with hb|hb
 ·rw[pos _ (Rat.mul_nonneg ha hb),pos _ ha,pos _ hb]
 ·have h:=Rat.mul_nonneg ha (show 0<= -b by grind)
  rw[neg (a*b) (by grind),pos _ ha,neg b (by grind)];grind
 ·have h:=Rat.mul_nonneg (show 0<= -a by grind) hb
  rw[neg (a*b) (by grind),neg a (by grind),pos _ hb];grind
 ·have h:=Rat.mul_nonneg (show 0<= -a by grind) (show 0<= -b by grind)
  rw[pos (a*b) (by grind),neg a (by grind),neg b (by grind)];grind
theorem Q1g(z:Int):Qg1 (z:Rat)=((z.natAbs:Nat):Rat):=by
 rw[<-Rat.intCast_natCast]
 unfold Qg1
 split
 ·rename_i h
  have h':z<0:=by have:=(Rat.intCast_lt_intCast (a:=z) (b:=0)).1 (by simpa using h);exact this
  rw[<-Rat.intCast_neg];congr 1;omega
 ·rename_i h
  have h':¬z<0:=fun hz=>h (by have:=(Rat.intCast_lt_intCast (a:=z) (b:=0)).2 hz;simpa using this)
  congr 1;omega
def psi(m:List Int):Nat:=(eN m 3).toNat*729+(eN m 2).toNat*81+(eN m 1).toNat*9+(eN m 0).toNat
theorem cmp4{a b:List Int}(ha:a.length<=4)(hb:b.length<=4):Qau a b=Qcw a b 4:=(Qji (by omega)).symm
theorem Qamf{a b:List Int}(ha:a.length<=4)(hb:b.length<=4)(h:Qau a b<0):
  eN a 3<eN b 3∨(eN a 3=eN b 3/\(eN a 2<eN b 2∨(eN a 2=eN b 2/\(eN a 1<eN b 1∨(eN a 1=eN b 1/\eN a 0<eN b 0))))):=by
 rw[cmp4 ha hb]at h
 simp only[Qcw]at h
 have z3:=Qlb (x:=eN a 3) (y:=eN b 3)
 have z2:=Qlb (x:=eN a 2) (y:=eN b 2)
 have z1:=Qlb (x:=eN a 1) (y:=eN b 1)
 have z0:=Qlb (x:=eN a 0) (y:=eN b 0)
 by_cases e3:eN a 3=eN b 3
 ·rw[if_pos e3]at h
  refine .inr ⟨e3,?_⟩
  by_cases e2:eN a 2=eN b 2
  ·rw[if_pos e2]at h
   refine .inr ⟨e2,?_⟩
   by_cases e1:eN a 1=eN b 1
   ·rw[if_pos e1]at h
    refine .inr ⟨e1,?_⟩
    by_cases e0:eN a 0=eN b 0
    ·rw[if_pos e0]at h;omega
    ·rw[if_neg e0]at h;exact z0.1 h
   ·rw[if_neg e1]at h;exact .inl (z1.1 h)
  ·rw[if_neg e2]at h;exact .inl (z2.1 h)
 ·rw[if_neg e3]at h;exact .inl (z3.1 h)
def nW(W:Rat):List Tm->Rat
 | []=>0
 |t::p=>Qg1 t.1*W^psi t.2+nW W p
theorem Qu8{W:Rat}(h:0<=W):∀n:Nat,0<=W^n
 |0=>by rw[Rat.pow_zero];decide
 |n+1=>by rw[Rat.pow_succ];exact Rat.mul_nonneg (Qu8 h n) h
theorem Qu9{W:Rat}(h:1<=W):∀n:Nat,1<=W^n
 |0=>by rw[Rat.pow_zero];decide
 |n+1=>by
  rw[Rat.pow_succ]
  have h1:=Qu9 h n
  have:=Rat.mul_le_mul_of_nonneg_right h1 (show(0:Rat)<=W by grind)
  grind
theorem Qsv{W:Rat}(h:0<=W)(c:Rat)(m:List Int):0<=Qg1 c*W^psi m:=Rat.mul_nonneg (Qsu c) (Qu8 h _)
theorem Qxy{W:Rat}(h:0<=W):∀p,0<=nW W p
 | []=>by simp only[nW];decide
 |t::p=>by
  have h1:=Qsv h t.1 t.2
  have h2:=Qxy h p
  simp only[nW];grind
def Pos(p:List Tm):Prop:=∀t∈p,∀i,0<=eN t.2 i
def IsI(c:Rat):Prop:=∃z:Int,c=(z:Rat)
theorem IsI.add{a b:Rat}:IsI a->IsI b->IsI (a+b):=fun⟨x,hx⟩ ⟨y,hy⟩=>⟨x+y,by rw[hx,hy,Rat.intCast_add]⟩
theorem IsI.neg{a:Rat}:IsI a->IsI (-a):=fun⟨x,hx⟩=>⟨-x,by rw[hx,Rat.intCast_neg]⟩
def IW(D F:Rat)(N:Nat)(p:List Tm):Prop:=∀t∈p,psi t.2<=N/\IsI (t.1*(D*F^(N-psi t.2)))
theorem IW.cons{D F:Rat}{N:Nat}{t:Tm}{p:List Tm}:IW D F N (t::p)↔(psi t.2<=N/\IsI (t.1*(D*F^(N-psi t.2))))/\IW D F N p:=by simp[IW]
def c4(m:List Int):Nat:=(((eN m 3).toNat*81+(eN m 2).toNat)*729+(eN m 1).toNat)*6561+(eN m 0).toNat
theorem Qar9{a b:List Int}(ha:∀i,0<=eN a i)(hb:∀i,0<=eN b i)(la:a.length<=4)(lb:b.length<=4)(pa:psi a<=6560)(pb:psi b<=6560)(h:Qau a b<0):c4 a<c4 b:=by
 have a0:=ha 0;have a1:=ha 1;have a2:=ha 2;have a3:=ha 3
 have b0:=hb 0;have b1:=hb 1;have b2:=hb 2;have b3:=hb 3
 have:=Qamf la lb h
 simp only[psi]at pa pb
 simp only[c4,Zo,Zg,Zm,Zc,Zf,Zl,Zh,Zs,Zi,Zb,Zk,Zn,Zu,Zq,Zr,Zz]
 omega
theorem Qasa{a:List Int}(pa:psi a<=6560):c4 a<2^32:=by
 simp only[psi]at pa
 simp only[c4,Zo,Zg,Zm,Zc,Zf,Zl,Zh,Zs,Zi,Zb,Zk,Zn,Zu,Zq,Zr,Zz]
 omega
structure ExI(D F W N0:Rat)(p:List Tm):Prop where
 i:IW D F 6560 p
 n:nW W p<=N0
 pos:Pos p
 ml:ML 4 p
 nrm:Nrm p
theorem Q6z{p:List Tm}:(∀t∈p,psi t.2<=6560)->Pos p->ML 4 p->Qcz p->p≠[]->p.length<=c4 (hdT p).2+1:=by
 induction p with
 |nil=>intro _ _ _ _ h;exact absurd rfl h
 | cons t p ih=>
  intro hp hP hM hs _
  cases p with
  |nil=>simp
  |cons s p=>
   have h1:=ih (fun x hx=>hp x (by simp[hx])) (fun x hx=>hP x (by simp[hx])) (fun x hx=>hM x (by simp[hx])) hs.2 (by simp)
   have h2:=hs.1 s (by simp)
   have h3:=Qjj t.2 s.2
   have h4:=Qar9 (hP s (by simp)) (hP t (by simp)) (hM s (by simp)) (hM t (by simp)) (hp s (by simp)) (hp t (by simp)) (by omega)
   simp only[hdT,List.headD_cons,List.length_cons]at h1⊢
   omega
theorem ExI.len{D F W N0:Rat}{p:List Tm}(h:ExI D F W N0 p):p.length<=2^32:=by
 by_cases h0:p=[]
 ·subst h0;simp
 ·have h1:=Q6z (fun t ht=>(h.i t ht).1) h.pos h.ml h.nrm.s h0
  have:=Qasa (h.i _ (Qame h0)).1
  omega
theorem Qaak{W:Rat}(h:1<=W):∀ {p:List Tm} {t:Tm},t∈p->Qg1 t.1<=nW W p
 | s::p,t,ht=>by
  have h0:(0:Rat)<=W:=by grind
  have h1:=Qxy h0 p
  have h2:=Qsv h0 s.1 s.2
  simp only[nW]
  rcases List.mem_cons.1 ht with rfl|ht
  ·have h3:=Rat.mul_le_mul_of_nonneg_left (Qu9 h (psi t.2)) (Qsu t.1)
   grind
  ·have:=Qaak h ht
   grind
theorem ExI.PB{d f w n0 L:Nat}{p:List Tm}(h:ExI d f w n0 p)(hd:0<d)(hf:0<f)(hw:0<w)(hn0:0<n0)(hL:nl (n0*(d*f^6560))<L):PB L 6560 p:=by
 intro t ht
 obtain⟨h1,z,hz⟩:=h.i t ht
 have hw1:(1:Rat)<=(w:Rat):=by
  rw[<-Rat.intCast_natCast,show(1:Rat)=((1:Int):Rat)from rfl,Rat.intCast_le_intCast];omega
 have hN:Qg1 t.1<=(n0:Rat):=by have:=Qaak hw1 ht;have:=h.n;grind
 have hX:(d:Rat)*(f:Rat)^(6560-psi t.2)=((d*f^(6560-psi t.2):Nat):Rat):=by
  rw[Rat.natCast_mul,Rat.natCast_pow]
 have hkey:∀N k:Nat,k<=N->d*f^k<=d*f^N:=fun N k h=>Nat.mul_le_mul_left _ (Nat.pow_le_pow_right hf h)
 have hXl:=hkey 6560 (6560-psi t.2) (Nat.sub_le _ _)
 have hX0:0<d*f^(6560-psi t.2):=Nat.mul_pos hd (Nat.pow_pos hf)
 rw[hX]at hz
 generalize d*f^(6560-psi t.2)=X at *
 generalize d*f^6560=Y at *
 have hXr:((X:Int):Rat)≠0:=by rw[Ne,Rat.intCast_eq_zero_iff];omega
 have e:t.1=(z:Rat)/((X:Int):Rat):=by rw[<-hz,Rat.intCast_natCast];rw[Rat.intCast_natCast]at hXr;grind
 have hzl:z.natAbs<=n0*Y:=by
  have h2:Qg1 (z:Rat)=Qg1 t.1*(X:Rat):=by
   rw[<-hz,Qago];congr 1
   rw[<-Rat.intCast_natCast,Q1g,Int.natAbs_natCast,Rat.intCast_natCast]
  rw[Q1g]at h2
  have h3:(0:Rat)<=(X:Rat):=by rw[<-Rat.intCast_natCast,show(0:Rat)=((0:Int):Rat)from rfl,Rat.intCast_le_intCast];omega
  have h4:=Rat.mul_le_mul_of_nonneg_right hN h3
  rw[<-h2,<-Rat.natCast_mul,<-Rat.intCast_natCast,<-Rat.intCast_natCast,Rat.intCast_le_intCast]at h4
  have h5:=Nat.mul_le_mul_left n0 hXl
  omega
 have hr:=Qaaj z (X:Int) (by omega)
 rw[<-e,Int.natAbs_natCast]at hr
 have g1:=Qb8 hzl
 have g2:nl X<=nl (n0*Y):=by
  exact Qb8 (Nat.le_trans hXl (Nat.le_mul_of_pos_left _ hn0))
 have g3:1<=nl X:=by
  apply Decidable.byContradiction;intro hc
  have:=Qip.1 (show nl X=0 by omega)
  omega
 refine⟨by omega,⟨by have:=h.ml t ht;omega,fun x hx=> ?_,fun x hx=> ?_⟩,h.nrm.c t ht⟩
 all_goals
  obtain⟨i,hi,rfl⟩:=List.getElem_of_mem hx
  have hp:=h.pos t ht i
  rw[Qde hi]at hp
 ·exact hp
 ·have hl:=h.ml t ht
  simp only[psi]at h1
  rw[<-Qde hi]
  rw[<-Qde hi]at hp
  have:i=0∨i=1∨i=2∨i=3:=by omega
  rcases this with rfl|rfl|rfl|rfl<;>omega
theorem Nrm.drop{p:List Tm}(h:Nrm p):∀k,Nrm (p.drop k)
 |0=>h
 |k+1=>by
  have:=Nrm.drop h k
  rw[<-List.drop_drop]
  cases hd:p.drop k with
  |nil=>simpa using Nrm.nil
  |cons t l=>rw[hd]at this;simpa using this.tail
structure RSq where
 n:Bool
 a:List Nat
 d:List Nat
 p:List RTm
instance : Inhabited RSq := ⟨⟨false, [], [], []⟩⟩
abbrev Sq:=Rat×List Tm
abbrev PV.sq(x:Sq):PV:= .agg [.bool (decide (x.1.num<0)),PV.num x.1.num.natAbs,PV.num x.1.den,PV.poly x.2]
def shQ(a d:List Nat):Bool:=decide (a.length<=2)&&decide (d.length<=2)
def ltT(t:RTm):Bool:=decide (t.m.length<=70)&&shQ t.a t.d
def Qfg(p:List RTm):Bool:=decide (p.length<=20)&&p.all ltT
end Go.FW
