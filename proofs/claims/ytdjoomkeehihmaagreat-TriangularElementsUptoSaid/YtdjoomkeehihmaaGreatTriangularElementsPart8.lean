/- Part 8 of the proof of TriangularElements: CL, U4, U7, U8, U10, W4, W5, FwUD. Own lemmas; no conditions. -/
import Derived.Test.YtdjoomkeehihmaaGreatTriangularElementsPart7
set_option maxHeartbeats 1000000
set_option linter.unusedSimpArgs false
set_option linter.unusedVariables false
set_option linter.unnecessarySimpa false
set_option maxRecDepth 100000
namespace Go.Proofs.YtdjoomkeehihmaaGreat
open Go Go.FW
theorem Gy{p:List Tm}{n:Bool}{a d:List Nat}{m:List Int}{K E k:Nat}(hp:PB K E p)(hs:e9 p)(ow:NZ p)(hr:Raw k n a d)(hk:k<=2^32)(hm:MB E m)(hl:m.getLast? ≠some 0)(hK:K<=2^32)(hE:E<=2^38)(bW:p.length<=2^36):
  Qc Tryz.prog 52 [PV.aj p,PV.rr n a d,PV.mono m] (· =PV.aj (jg p (rv n a d) m)):=by
 have Wp:=hr.rs;refine Qf Qj Tryz.func52 rfl aiE (by simp[KS]) fun C hP=>?_;simp only[KS,Zo,Zg,Zm,Zc,Zf,Zl,Zh,Zs,Zi,Zb,Zk,Zn,Zu,Zq,Zr,Zz];refine Sz0 ?_;refine Qz (by repeat (first|exact Qs|exact Ql|exact Qm|exact Qn|exact Qo|apply Qk|apply Qr|apply Qw|apply Q5|apply Q6|apply Qi|apply Q2)) [(7,7),(12,26)] [] (fun k J hp=>k<=p.length/\(∀t∈p.drop k,aR t.2 m<0)/\J 7= .int .i64 (k:Nat)/\hp 4=some ⟨3,43,[PV.rr n a d],false⟩) p.length ?_ ?_
 ·refine⟨by omega,by simp,?_⟩;exact Tz0
 rintro j J h ⟨hj,hd,h7,jr⟩;refine Sz1 h7 ?_;refine ga (fun hg=>?_) (fun hg=>?_)
 ·obtain⟨i,rfl⟩:∃i,j=i+1:=⟨j-1,by omega⟩
  have e:((i+1:Nat):Int)-1=i:=by omega
  have hi:i<p.length:=by omega
  have bc:=hp.get hi;have uh:p.drop i=p[i]::p.drop (i+1):=Kaz hi;have bk:p.take (i+1)=p.take i++[p[i]]:=Kah hi;have lA:=XZ hs hi;have cw:p=p.take i++p[i]::p.drop (i+1):=by rw[<-uh,Kbo]
  have c1:=bc.c;generalize hx:p[i]=x at *
  refine Sz3 h7 e hx ?_;refine Qa hP (At bc.m hm (by omega)) rfl rfl rfl ?_;refine Sz3 h7 e hx ?_;refine Qb (fun hc=>?_) (fun hc=>?_)
  ·refine Sz3 h7 e hx ?_;refine Qh i (by omega) ⟨by omega,?_,?_⟩
   ·rw[uh];intro t ht;rcases KaQ.1 ht with rfl|ht
    ·exact hc
    ·exact hd t ht
   ·exact Tz1 jr
  ·refine Sz3 h7 e hx ?_;refine ga (fun _=>?_) (fun h=>by omega);refine Sz3 h7 e hx ?_;refine Qa hP (At bc.m hm (by omega)) rfl rfl rfl ?_;refine Sz3 h7 e hx ?_;refine Qb (fun iT=>?_) (fun iT=>?_)
   ·have fj:x.2=m:=(Ii bc.l hl).1 iT;have bw:=ow _ (Kag hi);rw[hx]at bw;have jq:jg p (rv n a d) m=p.take i++(if x.1+rv n a d=0 then []else [(x.1+rv n a d,m)])++p.drop (i+1):=by
     have Vq:p=p.take i++(x.1,m)::p.drop (i+1):=by rw[<-fj];exact cw
     rw[jg];split
     ·rename_i h0;have e0:x.1+0=x.1:=Rat.add_zero _;rw[h0,kV,e0,if_neg bw];simpa using Vq
     ·conv=>lhs;rw[Vq]
      exact O8 (fun t ht=>by rw[<-fj];exact lA t ht)
    have qj:(p.take i).length<=p.length:=List.length_take_le' _ _;have fg:(p.drop (i+1)).length<=p.length:=by rw[Ka5];omega
    have hra:=Ej x.1 (rv n a d);have Ft:=iB (q:=x.1) (k:=2^32) (by omega);have gU:=Sf (k:=2^32) Ft (show Raw (2^32) n a d from⟨hr.la,hr.ld,by have:=hr.sa;omega,by have:=hr.sd;omega,by omega⟩) (by omega);rw[gN]at gU;refine Sz4 h7 e hx jr ?_;refine nI ?_ ?_
    all_goals
     refine Sz4 h7 e hx jr ?_;refine Qa hP gU rfl rfl rfl ?_;refine Sz4 h7 e hx jr ?_;refine Qa hP (Hr (a:=x.1+rv n a d) (by omega)) rfl rfl rfl ?_;refine Sz4 h7 e hx jr ?_;refine Qb (fun hz=>?_) (fun hz=>?_)
     ·rw[if_neg (fun h=>hz (ic.2 h))]at jq;refine Sz4 h7 e hx jr ?_;rw[Q9 (f:=PV.term) (y:=(x.1+rv n a d,m)) (xs:=p.take i) (ty':=54) (fz:=false) Tz0 cC (by omega) rfl (by omega) (by omega)];refine Sz4 h7 e hx jr ?_;rw[mG (f:=PV.term) (xs:=p.take i++[(x.1+rv n a d,m)]) (ys:=p.drop (i+1)) Tz0 (by simp<;>omega) (by omega) (by omega) (by omega)];refine eK ?_;refine Qd ?_ rfl;rw[Kae (by simp<;>omega),jq]
     ·rw[if_pos (ic.1 (Decidable.not_not.1 hz)),Kak]at jq;refine Sz4 h7 e hx jr ?_;rw[mG (f:=PV.term) (xs:=p.take i) (ys:=p.drop (i+1)) Tz0 (by simp<;>omega) (by omega) (by omega) (by omega)];refine eK ?_;refine Qd ?_ rfl;rw[Kae (by simp<;>omega),jq]
   ·have EW:Q8 p [(rv n a d,m)]=p.take (i+1)++(rv n a d,m)::p.drop (i+1):=by
     have:=IC (m:=m) (c:=rv n a d) (u:=p.take (i+1)) (v:=p.drop (i+1)) (fun t ht=>by
      rw[bk]at ht;rcases KaV.1 ht with ht|ht
      ·exact wT (lA t ht) (by omega)
      ·simp only[KaO]at ht;subst ht;omega) hd
     rwa[Kbo]at this
    have qj:(p.take (i+1)).length<=p.length:=List.length_take_le' _ _;have fg:(p.drop (i+1)).length<=p.length:=by rw[Ka5];omega
    refine Sz2 h7 jr ?_;refine Qa hP (CD hr (by omega)) rfl rfl rfl ?_;refine Sz2 h7 jr ?_;refine Qb (fun hz=>?_) (fun hz=>?_)
    ·have sQ:¬rv n a d=0:=fun h=>hz (ic.2 h);refine Sz2 h7 jr ?_;refine Qa hP (uX hr (by omega)) rfl rfl rfl ?_;refine Sz2 h7 jr ?_;rw[Q9 (f:=PV.term) (y:=(rv n a d,m)) (xs:=p.take (i+1)) (ty':=54) (fz:=false) Tz0 cC (by omega) rfl (by omega) (by omega)];refine Sz2 h7 jr ?_;rw[mG (f:=PV.term) (xs:=p.take (i+1)++[(rv n a d,m)]) (ys:=p.drop (i+1)) Tz0 (by simp<;>omega) (by omega) (by omega) (by omega)];refine eK ?_;refine Qd ?_ rfl;rw[Kae (by simp<;>omega),jg,if_neg sQ,EW];simp
    ·have sQ:rv n a d=0:=ic.1 (Decidable.not_not.1 hz);refine Sz2 h7 jr ?_;rw[mG (f:=PV.term) (xs:=p.take (i+1)) (ys:=p.drop (i+1)) Tz0 (by simp<;>omega) (by omega) (by omega) (by omega)];refine eK ?_;refine Qd ?_ rfl;rw[Kae (by simp<;>omega),jg,if_pos sQ,kV,Kbo]
 ·obtain rfl:j=0:=by omega
  have EW:Q8 p [(rv n a d,m)]=[]++(rv n a d,m)::p:=IC (m:=m) (c:=rv n a d) (u:=[]) (v:=p) (by simp) (by simpa using hd);refine Sz1 h7 ?_;rw[YO (by omega)];refine Sz2 h7 jr ?_;refine Qa hP (CD hr (by omega)) rfl rfl rfl ?_;refine Sz2 h7 jr ?_;refine Qb (fun hz=>?_) (fun hz=>?_)
  ·have sQ:¬rv n a d=0:=fun h=>hz (ic.2 h);refine Sz2 h7 jr ?_;refine Qa hP (uX hr (by omega)) rfl rfl rfl ?_;refine Sz2 h7 jr ?_;rw[Q9 (f:=PV.term) (y:=(rv n a d,m)) (xs:=([]:List Tm)) (ty':=54) (fz:=false) Tz0 cC (by omega) (n:=0) rfl (by omega) (by omega)];refine Sz2 h7 jr ?_;rw[mG (f:=PV.term) (xs:=([]:List Tm)++[(rv n a d,m)]) (ys:=p) Tz0 (by simp<;>omega) (by omega) (by omega) (by omega)];refine eK ?_;refine Qd ?_ rfl;rw[Kae (by simp<;>omega),jg,if_neg sQ,EW];simp
  ·have sQ:rv n a d=0:=ic.1 (Decidable.not_not.1 hz);refine Sz2 h7 jr ?_;rw[mG (f:=PV.term) (xs:=([]:List Tm)) (ys:=p) Tz0 (by simp<;>omega) (by omega) (by omega) (by omega)];refine eK ?_;refine Qd ?_ rfl;rw[Kae (by simp<;>omega),jg,if_pos sQ,kV]
theorem RW{n:Bool}{a d:List Nat}{k:Nat}(hr:Raw k n a d)(hk:k<=2^32):Qc Tryz.prog 25 [PV.rr n a d] (· =PV.aj (dk (rv n a d))):=by
 have gU:=(Gy (p:=[]) (m:=[]) (K:=1) (E:=1) (PB.nil _ _) trivial (by simp[NZ]) hr hk ⟨by simp,by simp,by simp⟩ (by simp) (by omega) (by omega) (by simp)).le (args':=[.aa,PV.rr n a d,.aa]) ⟨trivial,Qx _,trivial,trivial⟩;have e:jg [] (rv n a d) []=dk (rv n a d):=by rw[jg,pE];rfl
 rw[e]at gU;refine Qf Qj Tryz.func25 rfl ai5 (by simp[Ku]) fun C hP=>?_;simp only[Ku,Zo,Zg,Zm,Zc,Zf,Zl,Zh,Zs,Zi,Zb,Zk,Zn,Zu,Zq,Zr,Zz];refine Sz0 ?_;refine Qa hP gU rfl rfl rfl ?_;refine Sz0 ?_;exact Qd rfl rfl
theorem Xz{a m:List Int}(bu:a.length<2^42)(Bl:m.length<2^42):Qc Tryz.prog 182 [PV.mono a,PV.mono m] (· = .bool (xC a m)):=by
 refine Qf Qj Tryz.func182 rfl age (by simp[Km]) fun C hP=>?_;simp only[Km,Zo,Zg,Zm,Zc,Zf,Zl,Zh,Zs,Zi,Zb,Zk,Zn,Zu,Zq,Zr,Zz];refine Sz0 ?_;refine Qz (by repeat (first|exact Qs|exact Ql|exact Qm|exact Qn|exact Qo|apply Qk|apply Qr|apply Qw|apply Q5|apply Q6|apply Qi|apply Q2)) [(4,19)] [] (fun n J hp=>∃i,n=a.length-i/\i<=a.length/\(∀j,j<i->eN a j=eN m j)/\J 5= .int .i64 (i:Nat)) a.length ?_ ?_
 ·refine⟨0,rfl,by omega,by omega,?_⟩;refine Sz0 ?_;rfl
 rintro _ J h ⟨i,rfl,hi,h1,h5⟩;refine Sz1 h5 ?_;refine Qb (fun hg=>?_) (fun hg=>?_)
 ·have aC:i<a.length:=by omega
  have he:=fk aC;generalize hx:a[i]=x at *
  refine Sz2 h5 hx ?_;refine Qa hP (nG Bl) rfl rfl rfl ?_;refine Sz2 h5 hx ?_;refine Qb (fun hc=>?_) (fun hc=>?_)
  ·refine Sz0 ?_;refine Qd (congrArg PV.bool ?_) rfl;cases hz:xC a m with
   |false=>rfl
   |true=>rw[CJ]at hz;have:=hz i aC;rw[he]at this;exact absurd this hc
  ·refine Sz1 h5 ?_;refine Qh (a.length-(i+1)) (by omega) ⟨i+1,rfl,by omega,fun j hj=>?_,?_⟩
   ·by_cases eh:j=i
    ·subst eh;rw[he];exact Decidable.not_not.1 hc
    ·exact h1 j (by omega)
   ·exact Tz0
 ·obtain rfl:i=a.length:=by omega
  refine Sz0 ?_;exact Qd (congrArg PV.bool (CJ.2 h1).symm) rfl
theorem ze{p:List Tm}{E:Nat}(hp:∀t∈p,MB E t.2)(bW:p.length<=2^36):Qc Tryz.prog 135 [PV.aj p] (· = .bool (bh p)):=by
 have bad:(∃t∈p,∃x∈t.2,1048576<x)->bh p=true:=fun⟨t,ht,x,hx,h⟩=>by
  unfold bh;have:(p.any fun t=>t.2.any fun x=>decide (1048576<x))=true:=by rw[Ka4];exact⟨t,ht,by rw[Ka4];exact⟨x,hx,decide_eq_true h⟩⟩
  rw[this,Kda]
 refine Qf Qj Tryz.func135 rfl agc (by simp[Jw]) fun C hP=>?_;simp only[Jw,Zo,Zg,Zm,Zc,Zf,Zl,Zh,Zs,Zi,Zb,Zk,Zn,Zu,Zq,Zr,Zz];refine Sz0 ?_;refine Qz (by repeat (first|exact Qs|exact Ql|exact Qm|exact Qn|exact Qo|apply Qk|apply Qr|apply Qw|apply Q5|apply Q6|apply Qi|apply Q2)) [(2,29)] [] (fun n J hp=>∃i,n=p.length-i/\i<=p.length/\(∀t∈p.take i,∀x∈t.2,¬1048576<x)/\J 3= .int .i64 (i:Nat)) p.length ?_ ?_
 ·refine⟨0,rfl,by omega,by simp,?_⟩;refine Sz0 ?_;rfl
 rintro _ J h ⟨i,rfl,hi,h1,h3⟩;refine Sz1 h3 ?_;refine Qb (fun hg=>?_) (fun hg=>?_)
 ·have aC:i<p.length:=by omega
  have bc:=hp _ (Kag aC);have eC:=Kag aC;have bk:p.take (i+1)=p.take i++[p[i]]:=Kah aC;generalize hx:p[i]=x at *
  have ov:=bc.len;refine Sz2 h3 hx ?_;refine Qz (by repeat (first|exact Qs|exact Ql|exact Qm|exact Qn|exact Qo|apply Qk|apply Qr|apply Qw|apply Q5|apply Q6|apply Qi|apply Q2)) [(2,2),(4,4),(11,29)] [] (fun n J hp=>∃j,n=x.2.length-j/\j<=x.2.length/\(∀y∈x.2.take j,¬1048576<y)/\J 4= .int .i64 (j:Nat)) x.2.length ?_ ?_
  ·refine⟨0,rfl,by omega,by simp,?_⟩;refine Sz0 ?_;rfl
  rintro _ J2 h2 ⟨j,rfl,hj,h4,h5⟩;refine Sz3 h3 h5 hx ?_;refine Qb (fun fN=>?_) (fun fN=>?_)
  ·have fO:j<x.2.length:=by omega
   have nh:=Kag fO;have By:x.2.take (j+1)=x.2.take j++[x.2[j]]:=Kah fO;generalize hy:x.2[j]=y at *
   refine Sz4 h3 h5 hx hy ?_;refine Qb (fun hc=>?_) (fun hc=>?_)
   ·refine Sz0 ?_;exact Qd (congrArg PV.bool (bad ⟨x,eC,y,nh,hc⟩).symm) rfl
   ·refine Sz1 h5 ?_;refine Qh (x.2.length-(j+1)) (by omega) ⟨j+1,rfl,by omega,?_,?_⟩
    ·rw[By];intro z hz;rcases KaV.1 hz with hz|hz
     ·exact h4 z hz
     ·simp only[KaO]at hz;subst hz;exact hc
    ·exact Tz0
  ·rw[Kae (by omega)]at h4;refine Sz2 h3 h5 ?_;simp (disch:=decide) only[ks,nN];refine Qh (p.length-(i+1)) (by omega) ⟨i+1,rfl,by omega,?_,?_⟩
   ·rw[bk];intro z hz;rcases KaV.1 hz with hz|hz
    ·exact h1 z hz
    ·simp only[KaO]at hz;subst hz;exact h4
   ·exact Tz0
 ·obtain rfl:i=p.length:=by omega
  rw[Kar]at h1;refine Sz0 ?_;refine Qd (congrArg PV.bool ?_) rfl;have:(p.any fun t=>t.2.any fun x=>decide (1048576<x))=false:=by rw[KbC];intro t ht;rw[Bool.not_eq_true,KbC];intro x hx;simpa using h1 t ht x hx
  rw[bh,this,Bool.or_false];exact decide_eq_decide.2 ⟨fun h=>by omega,fun h=>by omega⟩
theorem GS{a:Rat}{k:Nat}(h:rs a<=k)(hk:k<=2^32):Qc Tryz.prog 25 [PV.rat a] (· =PV.aj (dk a)):=by
 have:=RW (iB h) hk
 rwa[gN]at this
theorem Ta{p:List Tm}{K E:Nat}(hp:PB K E p)(hn:au p)(hK:K<=2^32)(hE:E<=1048576)(hl:p.length<=2^36):Qc Tryz.prog 168 [PV.aj p] (· =PV.aj p):=by
 refine Qf Qj Tryz.func168 rfl agd (by simp[J6]) fun C hP=>?_;simp only[J6,Zo,Zg,Zm,Zc,Zf,Zl,Zh,Zs,Zi,Zb,Zk,Zn,Zu,Zq,Zr,Zz];refine Sz0 ?_;refine qK 3 4 Tz0 ?_;refine Qz (by repeat (first|exact Qs|exact Ql|exact Qm|exact Qn|exact Qo|apply Qk|apply Qr|apply Qw|apply Q5|apply Q6|apply Qi|apply Q2)) [(3,32)] [] (fun n J hp=>∃i,n=p.length-i/\i<=p.length/\J 3=PV.aj (p.take i)/\J 4= .int .i64 (i:Nat)) p.length ?_ ?_
 ·refine⟨0,rfl,by omega,?_⟩;refine Sz0 ?_;simp
 rintro _ J h ⟨i,rfl,hi,h3,h4⟩;refine Sz2 h3 h4 ?_;refine Qb (fun hg=>?_) (fun hg=>?_)
 ·have aC:i<p.length:=by omega
  have bc:=hp.get aC;have bk:=Q8t hn aC;have Wa:=hn.take i;have yx:=hp.take i;have ri:(p.take i).length<=p.length:=List.length_take_le' _ _;generalize hx:p[i]=x at *
  have ov:=bc.m.len;have cz:fy x.2=true:=Ho bc.m hE bc.l;have WB:gO x.2=x.2:=HX bc.l;have hz:=X1 x.2;rw[WB,cz,if_pos rfl]at hz;have hcx:=bc.c;refine Sz3 h3 h4 hx ?_;refine Qa hP (R5 (by omega)) rfl rfl rfl ?_;rw[WB,if_pos cz];refine Sz3 h3 h4 hx ?_;refine Qa hP (Xz (m:=x.2) (by omega) (by omega)) rfl rfl rfl ?_;rw[hz];refine Sz3 h3 h4 hx ?_;have gU:=Gy (K:=K) (E:=E) (k:=K) yx Wa.s Wa.z (iB (q:=x.1) (k:=K) (by omega)) (by omega) bc.m bc.l (by omega) (by omega) (by omega);rw[gN,bk]at gU;refine Qa hP gU rfl rfl rfl ?_;refine Sz3 h3 h4 hx ?_;refine Qh (p.length-(i+1)) (by omega) ⟨i+1,rfl,by omega,?_⟩;exact Tz0
 ·obtain rfl:i=p.length:=by omega
  rw[Kar]at h3;refine Sz1 h3 ?_;exact Qd rfl rfl
theorem OP{a:List Int}{v:Int}{E:Nat}(h:MB E a):Qc Tryz.prog 99 [PV.mono a,.int .i64 v] (· = .int .i64 (eN a (cS v))):=by
 have hl:=h.len;have:=Sg (a:=a) (v:=v) (by omega);have e:(if v<0 then 0 else eN a v.toNat)=eN a (cS v):=by
  unfold cS;split
  ·rw[fB (by omega)]
  ·rfl
 rwa[e]at this
theorem wR{p:List Tm}{v:Int}{K E:Nat}(hp:PB K E p)(bW:p.length<=2^36):Qc Tryz.prog 76 [PV.aj p,.int .i64 v] (· = .int .i64 (Q3 p (cS v))):=by
 refine Qf Qj Tryz.func76 rfl aiK (by simp[Lg]) fun C hP=>?_;simp only[Lg,Zo,Zg,Zm,Zc,Zf,Zl,Zh,Zs,Zi,Zb,Zk,Zn,Zu,Zq,Zr,Zz];refine Sz0 ?_;refine Qz (by repeat (first|exact Qs|exact Ql|exact Qm|exact Qn|exact Qo|apply Qk|apply Qr|apply Qw|apply Q5|apply Q6|apply Qi|apply Q2)) [(5,21)] [] (fun n J hp=>∃i,n=p.length-i/\i<=p.length/\J 5= .int .i64 (Q3 (p.take i) (cS v))/\J 6= .int .i64 (i:Nat)) p.length ?_ ?_
 ·refine⟨0,rfl,by omega,?_⟩;refine Sz0 ?_;exact⟨rfl,rfl⟩
 rintro _ J h ⟨i,rfl,hi,h5,h6⟩;refine Sz2 h5 h6 ?_;refine Qb (fun hg=>?_) (fun hg=>?_)
 ·have aC:i<p.length:=by omega
  have bc:=hp.get aC;have bk:=NH (v:=cS v) aC;generalize hx:p[i]=x at *
  have ov:=bc.m.len;refine Sz3 h5 h6 hx ?_;refine Qa hP (OP bc.m) rfl rfl rfl ?_;refine Sz3 h5 h6 hx ?_;refine Qh (p.length-(i+1)) (by omega) ⟨i+1,rfl,by omega,?_⟩;rw[bk];exact Tz0
 ·obtain rfl:i=p.length:=by omega
  rw[Kar]at h5;refine Sz1 h5 ?_;exact Qd rfl rfl
theorem ag4{v:Int}{i:Nat}(h:i<64):((i:Int)=v)↔cS v=i:=by unfold cS;split<;>omega
theorem Qw4{a:List Int}{v:Int}{E:Nat}(ha:MB E a)(hE:E<=1048576):Qc Tryz.prog 167 [PV.mono a,.int .i64 v] (· =PV.mono (eG a (cS v))):=by
 have ov:=ha.len;have cz:=adN ha hE (cS v);have cJ:(a.set (cS v) 0).length=a.length:=by simp
 refine Qf Qj Tryz.func167 rfl agl (by simp[J5]) fun C hP=>?_;simp only[J5,Zo,Zg,Zm,Zc,Zf,Zl,Zh,Zs,Zi,Zb,Zk,Zn,Zu,Zq,Zr,Zz];refine Sz0 ?_;refine kt 5 900 1 3 (by omega) Tz0 ?_;refine Qz (by repeat (first|exact Qs|exact Ql|exact Qm|exact Qn|exact Qo|apply Qk|apply Qr|apply Qw|apply Q5|apply Q6|apply Qi|apply Q2)) [(5,25)] [17,18,24,25,900] (fun n J hp=>∃i out,n=a.length-i/\i<=a.length/\out=(a.set (cS v) 0).take i/\J 5= .ms 900 out.length/\J 6= .int .i64 (i:Nat)/\hp 900=some ⟨1,3,iP out,false⟩) a.length ?_ ?_
 ·refine⟨0,[],rfl,by omega,rfl,?_⟩;refine Sz0 ?_;rfl
 rintro _ J h ⟨i,out,rfl,hi,iY,h5,h6,hh⟩;have fE:out.length=i:=by rw[iY,KaF];omega
 refine Sz2 h5 h6 ?_;refine Qb (fun hg=>?_) (fun hg=>?_)
 ·have aC:i<a.length:=by omega
  have bk:(a.set (cS v) 0).take (i+1)=(a.set (cS v) 0).take i++[if cS v=i then 0 else a[i]]:=by rw[Kah (by omega),Kdf]
  have rf:=ag4 (v:=v) (i:=i) (by omega);generalize hx:a[i]=x at *
  refine Sz3 h5 h6 hx ?_;refine Qb (fun hc=>?_) (fun hc=>?_)
  ·rw[if_pos (rf.1 hc)]at bk;refine Sz3 h5 h6 hx ?_;rw[Q9 (f:=fun(x:Int)=>.int .i64 x) (y:=(0:Int)) (xs:=out) (ty':=3) (fz:=false) (Tz1 hh) cC (by omega) rfl (by omega) (by omega)];refine Sz3 h5 h6 hx ?_;refine Qh (a.length-(i+1)) (by omega) ⟨i+1,out++[(0:Int)],rfl,by omega,by rw[bk,iY],?_⟩;simp+decide (disch:=first|omega|rfl|(simp+decide only[go_sem,Kan]<;>rfl)|fail) only[go_sem,Kan]
  ·rw[if_neg (fun h=>hc (rf.2 h))]at bk;refine Sz3 h5 h6 hx ?_;rw[Q9 (f:=fun(x:Int)=>.int .i64 x) (y:=x) (xs:=out) (ty':=3) (fz:=false) (Tz1 hh) cC (by omega) rfl (by omega) (by omega)];refine Sz3 h5 h6 hx ?_;refine Qh (a.length-(i+1)) (by omega) ⟨i+1,out++[x],rfl,by omega,by rw[bk,iY],?_⟩;simp+decide (disch:=first|omega|rfl|(simp+decide only[go_sem,Kan]<;>rfl)|fail) only[go_sem,Kan]
 ·obtain rfl:i=a.length:=by omega
  rw[Kae (by omega)]at iY;subst iY;refine Sz2 h5 hh ?_;refine ig hP (R5 (a:=a.set (cS v) 0) (by omega)) (by simp+decide (disch:=try exact E1 hh) only[go_sem,hh,ee,Kav,KaC,Kau,KaA,Kak];simp[Kae]) rfl ?_;rw[show gO (a.set (cS v) 0)=eG a (cS v)from rfl,if_pos cz];refine Sz0 ?_;exact Qd rfl rfl
theorem Gw{p:List Tm}{v n:Int}{K E:Nat}(hp:PB K E p)(np:au p)(bW:p.length<=2^36)(hE:E<=1048576)(hK:K<=2^32):Qc Tryz.prog 136 [PV.aj p,.int .i64 v,.int .i64 n] (· =PV.aj (aW p (cS v) n)):=by
 have aqd:=qx p (cS v) n;refine Qf Qj Tryz.func136 rfl agk (by simp[Jx]) fun C hP=>?_;simp only[Jx,Zo,Zg,Zm,Zc,Zf,Zl,Zh,Zs,Zi,Zb,Zk,Zn,Zu,Zq,Zr,Zz];refine Sz0 ?_;refine kt 7 900 4 54 (by omega) Tz0 ?_;refine Qz (by repeat (first|exact Qs|exact Ql|exact Qm|exact Qn|exact Qo|apply Qk|apply Qr|apply Qw|apply Q5|apply Q6|apply Qi|apply Q2)) [(7,39)] [38,39,900] (fun m J hp=>∃i,m=p.length-i/\i<=p.length/\J 7= .ms 900 (aW (p.take i) (cS v) n).length/\J 8= .int .i64 (i:Nat)/\hp 900=some ⟨4,54,(aW (p.take i) (cS v) n).map PV.term,false⟩) p.length ?_ ?_
 ·refine⟨0,rfl,by omega,?_⟩;refine Sz0 ?_;exact⟨rfl,rfl,rfl⟩
 rintro _ J h ⟨i,rfl,hi,h7,h8,hh⟩;refine Sz2 h7 h8 ?_;refine Qb (fun hg=>?_) (fun hg=>?_)
 ·have aC:i<p.length:=by omega
  have bc:=hp.get aC;have sw:=TA (v:=cS v) (n:=n) aC;have ff:=qx (p.take i) (cS v) n;rw[KaF]at ff;generalize hx:p[i]=x at *
  have ov:=bc.m.len;refine Sz3 h7 h8 hx ?_;refine Qa hP (OP bc.m) rfl rfl rfl ?_;refine Sz3 h7 h8 hx ?_;refine Qb (fun hc=>?_) (fun hc=>?_)
  ·rw[if_pos hc]at sw;refine Sz3 h7 h8 hx ?_;refine Qa hP (Qw4 bc.m hE) rfl rfl rfl ?_;refine Sz3 h7 h8 hx ?_;rw[Q9 (f:=PV.term) (y:=(x.1,eG x.2 (cS v))) (xs:=aW (p.take i) (cS v) n) (ty':=54) (fz:=false) (Tz1 hh) cC (by omega) rfl (by omega) (by omega)];refine Sz3 h7 h8 hx ?_;refine Qh (p.length-(i+1)) (by omega) ⟨i+1,rfl,by omega,?_⟩;rw[sw];simp+decide (disch:=first|omega|rfl|(simp+decide only[go_sem,Kan]<;>rfl)|fail) only[go_sem,Kan]
  ·rw[if_neg hc,Kak]at sw;refine Sz3 h7 h8 hx ?_;refine Qh (p.length-(i+1)) (by omega) ⟨i+1,rfl,by omega,?_⟩;rw[sw];exact Tz2 h7 hh
 ·obtain rfl:i=p.length:=by omega
  rw[Kar]at h7 hh;refine Sz2 h7 hh ?_;refine ig hP (Ta (qI hp (cS v) n) (jO np (cS v) n) hK hE (by omega)) (by simp+decide (disch:=try exact E1 hh) only[go_sem,hh,ee,Kav,KaC,Kau,KaA,Kak];simp[Kae]) rfl ?_;refine Sz0 ?_;exact Qd rfl rfl
theorem XA{v n:Nat}(hv:v<64)(hn:n<=1048576):Qc Tryz.prog 137 [.int .i64 v,.int .i64 n] (· =PV.aj (o8 v n)):=by
 have rj:v<(List.replicate (v+1) (0:Int)).length:=by simp
 have jJ:=ob;refine Qf Qj Tryz.func137 rfl agm (by simp[Jy]) fun C hP=>?_;simp only[Jy,Zo,Zg,Zm,Zc,Zf,Zl,Zh,Zs,Zi,Zb,Zk,Zn,Zu,Zq,Zr,Zz];refine Sz0 ?_;refine dI (fun h0=>?_) (fun h0=>?_)
 ·obtain rfl:n=0:=by omega
  refine Sz0 ?_;refine Qa hP (u5 (by omega) (by omega)) rfl rfl rfl ?_;have hC:=RW (k:=4) (iB (q:=((1:Int):Rat)) (k:=4) (by rw[show((1:Int):Rat)=1 from rfl];omega)) (by omega);rw[gN]at hC;refine Sz0 ?_;refine Qa hP hC rfl rfl rfl ?_;refine Sz0 ?_;exact Qd rfl rfl
 refine Sz0 ?_;refine Qb (fun h1=>by omega) (fun _=>?_);refine Sz0 ?_;rw[Hz v n (by omega),KbM];have eo:(cM v n).length=v+1:=by simp[cM]
 refine Qa hP (u5 (by omega) (by omega)) rfl rfl rfl ?_;generalize hc:((1:Int):Rat)=c;have oT:c=1:=hc.symm;refine Sz0 ?_;rw[Ru (p:=PV.rat c) (e:=1) (ty:=3) (fz:=false) (xs:=iP (cM v n)) rfl Tz0 (by simp[eo,iP])];have iZ:o8 v n=[(c,cM v n)]:=by rw[o8,if_neg (by omega),oT]
 have oS:=QX (v:=v) (n:=n) hv;have lu:=PG v n;rw[iZ]at oS lu⊢;refine Sz0 ?_;refine ig hP (Ta oS lu (by omega) hn (by simp)) Cg rfl ?_;refine Sz0 ?_;exact Qd rfl rfl
theorem Qyq{f g:List Tm}{v d N K E M:Nat}(nf:au f)(ng:au g)(bg:PB K E g)(hv:v<64)(im:g≠[])(hd:Q3 g v=d)(hN:Q3 f v<N)(pV:bh f=false)
  (hb:∀k,k<N->PB K E (aD g v d f k).1/\PB K E (aD g v d f k).2) (yA:g.length<=M) (hM:M<=2^12) (hK:M*(K+K+2)+(M*(K+K+2)+(K+2))<=2^31) (U':4000*(K+K)+(K+K)<=2^32) (l4:2<=K) (L5:1<=M) (hE:E<=1048576) (AO:0<N) (hN2:N<=2^30):
  Qc Tryz.prog 78 [PV.aj f,PV.aj g,.int .i64 v] (· =jD g v d N [] f 0):=by
 have hlen:∀ {p:List Tm},bh p=false->p.length<=4000:=fun {p} h=>by unfold bh at h;simp only[Kcf,decide_eq_false_iff_not]at h;omega
 have hKM:K+K+2<=M*(K+K+2):=by have:=Kaf (K+K+2) L5;omega
 have amG:M*(K+K)<=M*(K+K+2):=Ka7 _ (by omega);have AX:PB K E f:=(hb 0 AO).2;have Mv:∀t∈f,MB E t.2:=fun t ht=>(AX t ht).m;have anE:=hlen pV;have ff:(aW g v d).length<=M:=Kaw (qx _ _ _) yA;have iF:=qI bg v (d:Int);have EP:=jO ng v (d:Int);refine Qf Qj Tryz.func78 rfl aiM (by simp[Lj]) fun C hP=>?_;simp only[Lj,Zo,Zg,Zm,Zc,Zf,Zl,Zh,Zs,Zi,Zb,Zk,Zn,Zu,Zq,Zr,Zz];simp+decide (disch:=first|omega|rfl|(simp+decide only[go_sem]<;>rfl)|fail) only[go_sem,b9,bN];refine dI (fun h1=>by omega) (fun _=>?_);simp+decide (disch:=first|omega|rfl|(simp+decide only[go_sem]<;>rfl)|fail) only[go_sem,b9,bN];refine Qb (fun h1=>by omega) (fun _=>?_);simp+decide (disch:=first|omega|rfl|(simp+decide only[go_sem]<;>rfl)|fail) only[go_sem,b9,bN];refine Qb (fun h1=>absurd (Kas.1 (by omega)) im) (fun _=>?_);simp+decide (disch:=first|omega|rfl|(simp+decide only[go_sem]<;>rfl)|fail) only[go_sem,b9,bN];refine Qa hP (ze Mv (by omega)) rfl rfl rfl ?_;rw[pV];simp+decide (disch:=first|omega|rfl|(simp+decide only[go_sem]<;>rfl)|fail) only[go_sem,b9,bN];refine Qa hP (wR bg (by omega)) rfl rfl rfl ?_;rw[mH,hd];simp+decide (disch:=first|omega|rfl|(simp+decide only[go_sem]<;>rfl)|fail) only[go_sem,b9,bN];refine Qa hP (Gw bg ng (by omega) hE (by omega)) rfl rfl rfl ?_;rw[mH];simp+decide (disch:=first|omega|rfl|(simp+decide only[go_sem]<;>rfl)|fail) only[go_sem,b9,bN];refine qK 12 4 (by simp+decide (disch:=first|omega|rfl|(simp+decide only[go_sem]<;>rfl)|fail) only[go_sem,b9,bN]) ?_;refine Qz (by repeat (first|exact Qs|exact Ql|exact Qm|exact Qn|exact Qo|apply Qk|apply Qr|apply Qw|apply Q5|apply Q6|apply Qi|apply Q2)) [(6,9),(12,16),(36,78)] [] (fun m J hp=>∃k,m=N-k/\k<=N/\((aD g v d f k).2≠[]->Q3 (aD g v d f k).2 v<N-k)/\(∃K' E',PB K' E' (aD g v d f k).2/\E'<=2^30)/\bh (aD g v d f k).1=false/\bh (aD g v d f k).2=false/\jD g v d (N-k) (aD g v d f k).1 (aD g v d f k).2 k=jD g v d N [] f 0/\
  J 12=PV.aj (aD g v d f k).1/\J 13=PV.aj (aD g v d f k).2/\J 14= .int .i64 (k:Nat)) N ?_ ?_
 ·refine⟨0,rfl,by omega,fun _=>by simpa[aD]using hN,⟨K,E,AX,by omega⟩,rfl,pV,rfl,?_⟩;simp+decide (disch:=first|omega|rfl|(simp+decide only[go_sem]<;>rfl)|fail) only[go_sem,b9,bN];exact⟨rfl,rfl,rfl⟩
 rintro _ J h ⟨k,rfl,hk,Mr,⟨K',E',AZ,hE'⟩,l7,gm,dw,bO,bV,cI⟩;obtain⟨n1,n2⟩:=rU (v:=v) (d:=d) nf ng k;have aG:aD g v d f (k+1)=(gA (aD g v d f k).1 (aD g v d f k).2 g v (Q3 (aD g v d f k).2 v).toNat d,dX (aD g v d f k).2 g v (Q3 (aD g v d f k).2 v).toNat d):=rfl;have Mh:=hb k;generalize(aD g v d f k).1=q at *
 generalize(aD g v d f k).2=r at *
 have sJ:=hlen l7;have lz:=hlen gm;simp+decide (disch:=first|omega|rfl|(simp+decide only[go_sem,bO,bV,cI]<;>rfl)|fail) only[go_sem,b9,bN,bO,bV,cI];refine ga (fun hg=>?_) (fun hg=>?_)
 ·have ja:r≠[]:=fun h=>by rw[h]at hg;simp at hg
  have qf:=oG AZ ja v;have anm:=Mr ja;have ME:k<N:=by omega
  obtain⟨b1,b2⟩:=Mh ME;obtain⟨n,hn⟩:∃n:Nat,Q3 r v=n:=⟨(Q3 r v).toNat,by omega⟩
  have MN:n<=E:=by have:=(oG b2 ja v).2;omega
  simp+decide (disch:=first|omega|rfl|(simp+decide only[go_sem,bO,bV,cI]<;>rfl)|fail) only[go_sem,b9,bN,bO,bV,cI];refine Qa hP (wR b2 (by omega)) rfl rfl rfl ?_;rw[mH,hn];simp+decide (disch:=first|omega|rfl|(simp+decide only[go_sem,bO,bV,cI]<;>rfl)|fail) only[go_sem,b9,bN,bO,bV,cI];refine Qb (fun hc=>?_) (fun hc=>?_)
  ·have hdn:d<=n:=by omega
   have e1:(n:Int)-(d:Int)=((n-d:Nat):Int):=by omega
   have ES:=FZ n2 ng b2 ja hd (by omega);rw[hn,KbM]at aG ES;obtain⟨q1,q2,q3,q4,q5,q6,q7,q8⟩:=OL (n:=n) (d:=d) b1 b2 bg yA hv MN;have ns:=jO n2 v (n:Int);have hpb:=qI b2 v (n:Int);have gH:=qx r v (n:Int);have nb:au (cZ r v n d):=rL ns v (n-d);have hKr:r.length*(K+K)<=4000*(K+K):=Kaf _ lz;have hKq:q.length*(K+K)<=4000*(K+K):=Kaf _ sJ;have EE:g.length*(K+2+(K+2))<=M*(K+K+2)+M*2:=by
    have:=Kaf (K+2+(K+2)) yA;have e:K+2+(K+2)=K+K+2+2:=by omega
    rw[e]at this⊢;rw[<-Nat.mul_add];exact this
   have l7:r.length*(aW g v d).length<=4000*2^12:=KaJ lz (by omega);have gm:q.length*(aW g v d).length<=4000*2^12:=KaJ sJ (by omega);have Bj:g.length*(cZ r v n d).length<=2^12*4000:=KaJ (by omega) (by omega);have hl4:M*r.length<=2^12*4000:=KaJ (by omega) lz;have hl5:M*q.length<=2^12*4000:=KaJ (by omega) sJ;have hl6:r.length*M<=4000*2^12:=KaJ lz hM;have hB:gy (aW r v n) v (n-d)=cZ r v n d:=rfl;have pl:=ags v (n-d);have pb:=QX (v:=v) (n:=n-d) hv;have pn:=PG v (n-d);have Br:=ab1 ns v (n-d);have aot:=XA hv (n:=n-d) (by omega);generalize o8 v (n-d)=y at *
   simp+decide (disch:=first|omega|rfl|(simp+decide only[go_sem,bO,bV,cI]<;>rfl)|fail) only[go_sem,b9,bN,bO,bV,cI];refine Qa hP (wR b2 (by omega)) rfl rfl rfl ?_;rw[mH,hn];simp+decide (disch:=first|omega|rfl|(simp+decide only[go_sem,bO,bV,cI]<;>rfl)|fail) only[go_sem,b9,bN,bO,bV,cI];refine Qa hP (Gw b2 n2 (by omega) hE (by omega)) rfl rfl rfl ?_;rw[mH];simp+decide (disch:=first|omega|rfl|(simp+decide only[go_sem,bO,bV,cI,e1]<;>rfl)|fail) only[go_sem,b9,bN,bO,bV,cI,e1];refine Qa hP aot rfl rfl rfl ?_;simp+decide (disch:=first|omega|rfl|(simp+decide only[go_sem,bO,bV,cI]<;>rfl)|fail) only[go_sem,b9,bN,bO,bV,cI];refine Qa hP (qy hpb (pb.mono l4 (by omega)) ns.z pn.z (by omega) (by omega) (by omega) (by rw[pl];omega) (by rw[pl];omega)) rfl rfl rfl ?_;rw[tw ns pn,Br,hB];simp+decide (disch:=first|omega|rfl|(simp+decide only[go_sem,bO,bV,cI]<;>rfl)|fail) only[go_sem,b9,bN,bO,bV,cI];refine Qa hP (qy iF b1 EP.z n1.z (by omega) (by omega) (by omega) (by omega) (by omega)) rfl rfl rfl ?_;rw[tw EP n1];simp+decide (disch:=first|omega|rfl|(simp+decide only[go_sem,bO,bV,cI]<;>rfl)|fail) only[go_sem,b9,bN,bO,bV,cI];refine Qa hP (zk (K:=M*(K+K+2)) (E:=E+E) (q3.mono (by omega) (Kac _)) (q1.mono (by omega) (Kac _)) (by omega) (by omega) (by omega) (by omega)) rfl rfl rfl ?_;rw[show Q8 (Q4 (aW g v d) q) (cZ r v n d)=gA q r g v n d from rfl];simp+decide (disch:=first|omega|rfl|(simp+decide only[go_sem,bO,bV,cI]<;>rfl)|fail) only[go_sem,b9,bN,bO,bV,cI];refine Qa hP (qy iF b2 EP.z n2.z (by omega) (by omega) (by omega) (by omega) (by omega)) rfl rfl rfl ?_;rw[tw EP n2];simp+decide (disch:=first|omega|rfl|(simp+decide only[go_sem,bO,bV,cI]<;>rfl)|fail) only[go_sem,b9,bN,bO,bV,cI];refine Qa hP (qy (q1.mono (Kac _) (by omega)) (bg.mono (K':=K+2) (E':=E+E) (by omega) (by omega)) nb.z ng.z (by omega) (by omega) (by omega) (by omega) (by omega)) rfl rfl rfl ?_;rw[tw nb ng];simp+decide (disch:=first|omega|rfl|(simp+decide only[go_sem,bO,bV,cI]<;>rfl)|fail) only[go_sem,b9,bN,bO,bV,cI];refine Qa hP (CL (K:=M*(K+K+2)) (E:=E+E+E) (q5.mono (by omega) (by omega)) q7 (dC nb.s ng.s).z (by omega) (by omega) (by omega) (by omega) (by omega)) rfl rfl rfl ?_;rw[show fM (Q4 (aW g v d) r) (Q4 (cZ r v n d) g)=dX r g v n d from rfl];have bQ:PB (M*(K+K)+(K+2)) (E+E) (gA q r g v n d):=tE _ _ q3 q1;have lQ:(gA q r g v n d).length<=2^33:=Kaw (s9 _ _) (by omega);have bR:PB (M*(K+K)+(M*(K+K+2)+2)) (E+E+E) (dX r g v n d):=tE _ _ (q5.mono (Kac _) (by omega)) (xA q7);have lR:(dX r g v n d).length<=2^33:=Kaw (s9 _ _) (by have:=uU (Q4 (cZ r v n d) g) (-1);have e:(kZ (Q4 (cZ r v n d) g)).length=(b8 (Q4 (cZ r v n d) g) (-1)).length:=rfl;omega);have rp:¬(r=[]∨Q3 r v<d):=fun h=>h.elim ja (fun h=>by omega);have fD:=G7 (g:=g) (k:=k) (q:=q) (fuel:=N-(k+1)) rp;have gl:=GH (g:=g) (k:=k) (q:=q) (fuel:=N-(k+1)) rp;rw[show N-(k+1)+1=N-k by omega,hn,KbM,dw]at fD gl;generalize gA q r g v n d=q' at *
   generalize dX r g v n d=r' at *
   simp+decide (disch:=first|omega|rfl|(simp+decide only[go_sem,bO,bV,cI]<;>rfl)|fail) only[go_sem,b9,bN,bO,bV,cI];refine Qa hP (ze (fun t ht=>(bQ t ht).m) (by omega)) rfl rfl rfl ?_;cases ir:bh q'
   ·simp+decide (disch:=first|omega|rfl|(simp+decide only[go_sem,bO,bV,cI]<;>rfl)|fail) only[go_sem,b9,bN,bO,bV,cI];refine Qa hP (ze (fun t ht=>(bR t ht).m) (by omega)) rfl rfl rfl ?_;cases rj:bh r'
    ·have Mp:=fD (by simp[ir,rj]);simp+decide (disch:=first|omega|rfl|(simp+decide only[go_sem,bO,bV,cI]<;>rfl)|fail) only[go_sem,b9,bN,bO,bV,cI];refine Qh (N-(k+1)) (by omega) ⟨k+1,rfl,by omega,?_⟩;rw[aG];refine⟨fun _=>?_,⟨_,_,bR,by omega⟩,ir,rj,Mp.symm,?_⟩
     ·show Q3 r' v<(N:Int)-((k+1:Nat):Int)
      omega
     simp+decide (disch:=first|omega|rfl|(simp+decide only[go_sem]<;>rfl)|fail) only[go_sem,b9,bN]
    ·have v3:=gl (.inr rj);simp+decide (disch:=first|omega|rfl|(simp+decide only[go_sem]<;>rfl)|fail) only[go_sem,b9,bN];exact tR v3 rfl rfl rfl rfl pF pF (Qx _) (Qx _)
   ·have v3:=gl (.inl ir);simp+decide (disch:=first|omega|rfl|(simp+decide only[go_sem]<;>rfl)|fail) only[go_sem,b9,bN];exact tR v3 rfl rfl rfl rfl pF pF (Qx _) (Qx _)
  ·have fD:=zq (g:=g) (q:=q) (k:=k) (show r=[]∨Q3 r v<d from .inr (by omega)) (N-k);rw[dw]at fD;simp+decide (disch:=first|omega|rfl|(simp+decide only[go_sem,bO,bV,cI]<;>rfl)|fail) only[go_sem,b9,bN,bO,bV,cI];exact tR fD rfl rfl rfl rfl (Qx _) (Qx _) (Qx _) (Qx _)
 ·have ja:r=[]:=Kas.1 (by omega);have fD:=zq (g:=g) (q:=q) (k:=k) (show r=[]∨Q3 r v<d from .inl ja) (N-k);rw[dw]at fD;simp+decide (disch:=first|omega|rfl|(simp+decide only[go_sem,bO,bV,cI]<;>rfl)|fail) only[go_sem,b9,bN,bO,bV,cI];exact tR fD rfl rfl rfl rfl (Qx _) (Qx _) (Qx _) (Qx _)
end Go.Proofs.YtdjoomkeehihmaaGreat
namespace Go.FW
open Go
theorem Tb(x y:Int)(hy:y≠0):mkRat (zv (decide (x<0) !=decide (y<0)) (ah x.natAbs)) y.natAbs=(x:Rat)/(y:Rat):=by
 rw[Kb2,rV,<-Rat.intCast_natCast];have h3:(y:Rat)≠0:=by rw[Ne,Ka6];exact hy
 by_cases cX:y<0
 ·have e2:(((y.natAbs:Nat):Int):Rat)= -(y:Rat):=by rw[<-Rat.intCast_neg];congr 1;omega
  have e1:(if(decide (x<0) !=decide (y<0))=true then -(x.natAbs:Int)else x.natAbs)= -x:=by by_cases hx:x<0<;>simp[hx,cX]<;>omega
  rw[e1,e2,Kc3];grind
 ·have e2:(((y.natAbs:Nat):Int):Rat)=(y:Rat):=by congr 1;omega
  have e1:(if(decide (x<0) !=decide (y<0))=true then -(x.natAbs:Int)else x.natAbs)=x:=by by_cases hx:x<0<;>simp[hx,cX]<;>omega
  rw[e1,e2]
end Go.FW
