/- Part 8 of the proof of TriangularMakes: CL, U4, U7, U8, U10, W4, W5, FwUD. Own lemmas; no conditions. -/
import Derived.Test.YtdjoomkeehihmaaGreatTriangularMakesPart7
set_option maxHeartbeats 1000000
set_option linter.unusedSimpArgs false
set_option linter.unusedVariables false
set_option linter.unnecessarySimpa false
set_option maxRecDepth 100000
namespace Go.Proofs.YtdjoomkeehihmaaGreat
open Go Go.FW
theorem Gj{p:List Tm}{n:Bool}{a d:List Nat}{m:List Int}{K E k:Nat}(hp:PB K E p)(hs:eR p)(nZ:NZ p)(hr:Raw k n a d)(hk:k<=2^32)(hm:MB E m)(hl:m.getLast? ≠some 0)(hK:K<=2^32)(hE:E<=2^38)(bV:p.length<=2^36):
  Qc Tryz.prog 52 [PV.aj p,PV.rr n a d,PV.mono m] (· =PV.aj (ja p (rv n a d) m)):=by
 have VA:=hr.rs;refine Qf Qj Tryz.func52 rfl aiB (by simp[Km]) fun C hP=>?_;simp only[Km,Zo,Zg,Zm,Zc,Zf,Zl,Zh,Zs,Zi,Zb,Zk,Zn,Zu,Zq,Zr,Zz];refine Sz0 ?_;refine Qz (by repeat (first|exact Qs|exact Ql|exact Qm|exact Qn|exact Qo|apply Qk|apply Qr|apply Qx|apply Q4|apply Q5|apply Qi|apply Q2)) [(7,7),(12,26)] [] (fun k J hp=>k<=p.length/\(∀t∈p.drop k,aR t.2 m<0)/\J 7= .int .i64 (k:Nat)/\hp 4=some ⟨3,43,[PV.rr n a d],false⟩) p.length ?_ ?_
 ·refine⟨by omega,by simp,?_⟩;exact Tz0
 rintro j J h ⟨hj,hd,h7,ji⟩;refine Sz1 h7 ?_;refine fX (fun hg=>?_) (fun hg=>?_)
 ·obtain⟨i,rfl⟩:∃i,j=i+1:=⟨j-1,by omega⟩
  have e:((i+1:Nat):Int)-1=i:=by omega
  have hi:i<p.length:=by omega
  have ba:=hp.get hi;have tO:p.drop i=p[i]::p.drop (i+1):=Kaz hi;have bn:p.take (i+1)=p.take i++[p[i]]:=Kag hi;have lf:=Xw hs hi;have cu:p=p.take i++p[i]::p.drop (i+1):=by rw[<-tO,Kbn]
  have c1:=ba.c;generalize hx:p[i]=x at *
  refine Sz3 h7 e hx ?_;refine Qa hP (zZ ba.m hm (by omega)) rfl rfl rfl ?_;refine Sz3 h7 e hx ?_;refine Qb (fun hc=>?_) (fun hc=>?_)
  ·refine Sz3 h7 e hx ?_;refine Qh i (by omega) ⟨by omega,?_,?_⟩
   ·rw[tO];intro t ht;rcases KaO.1 ht with rfl|ht
    ·exact hc
    ·exact hd t ht
   ·exact Tz1 ji
  ·refine Sz3 h7 e hx ?_;refine fX (fun _=>?_) (fun h=>by omega);refine Sz3 h7 e hx ?_;refine Qa hP (zZ ba.m hm (by omega)) rfl rfl rfl ?_;refine Sz3 h7 e hx ?_;refine Qb (fun iM=>?_) (fun iM=>?_)
   ·have eZ:x.2=m:=(HW ba.l hl).1 iM;have bp:=nZ _ (Kah hi);rw[hx]at bp;have kU:ja p (rv n a d) m=p.take i++(if x.1+rv n a d=0 then []else [(x.1+rv n a d,m)])++p.drop (i+1):=by
     have UD:p=p.take i++(x.1,m)::p.drop (i+1):=by rw[<-eZ];exact cu
     rw[ja];split
     ·rename_i h0;have e0:x.1+0=x.1:=Rat.add_zero _;rw[h0,kK,e0,if_neg bp];simpa using UD
     ·conv=>lhs;rw[UD]
      exact O0 (fun t ht=>by rw[<-eZ];exact lf t ht)
    have qU:(p.take i).length<=p.length:=List.length_take_le' _ _;have eW:(p.drop (i+1)).length<=p.length:=by rw[Ka5];omega
    have hra:=DD x.1 (rv n a d);have EV:=ir (q:=x.1) (k:=2^32) (by omega);have gR:=RH (k:=2^32) EV (show Raw (2^32) n a d from⟨hr.la,hr.ld,by have:=hr.sa;omega,by have:=hr.sd;omega,by omega⟩) (by omega);rw[gK]at gR;refine Sz4 h7 e hx ji ?_;refine ns ?_ ?_
    all_goals
     refine Sz4 h7 e hx ji ?_;refine Qa hP gR rfl rfl rfl ?_;refine Sz4 h7 e hx ji ?_;refine Qa hP (G0 (a:=x.1+rv n a d) (by omega)) rfl rfl rfl ?_;refine Sz4 h7 e hx ji ?_;refine Qb (fun hz=>?_) (fun hz=>?_)
     ·rw[if_neg (fun h=>hz (gY.2 h))]at kU;refine Sz4 h7 e hx ji ?_;rw[Q9 (f:=PV.term) (y:=(x.1+rv n a d,m)) (xs:=p.take i) (ty':=54) (fz:=false) Tz0 cE (by omega) rfl (by omega) (by omega)];refine Sz4 h7 e hx ji ?_;rw[mz (f:=PV.term) (xs:=p.take i++[(x.1+rv n a d,m)]) (ys:=p.drop (i+1)) Tz0 (by simp<;>omega) (by omega) (by omega) (by omega)];refine eC ?_;refine Qd ?_ rfl;rw[Kae (by simp<;>omega),kU]
     ·rw[if_pos (gY.1 (Decidable.not_not.1 hz)),Kak]at kU;refine Sz4 h7 e hx ji ?_;rw[mz (f:=PV.term) (xs:=p.take i) (ys:=p.drop (i+1)) Tz0 (by simp<;>omega) (by omega) (by omega) (by omega)];refine eC ?_;refine Qd ?_ rfl;rw[Kae (by simp<;>omega),kU]
   ·have EA:Q7 p [(rv n a d,m)]=p.take (i+1)++(rv n a d,m)::p.drop (i+1):=by
     have:=Hy (m:=m) (c:=rv n a d) (u:=p.take (i+1)) (v:=p.drop (i+1)) (fun t ht=>by
      rw[bn]at ht;rcases KaU.1 ht with ht|ht
      ·exact wz (lf t ht) (by omega)
      ·simp only[KaP]at ht;subst ht;omega) hd
     rwa[Kbn]at this
    have qU:(p.take (i+1)).length<=p.length:=List.length_take_le' _ _;have eW:(p.drop (i+1)).length<=p.length:=by rw[Ka5];omega
    refine Sz2 h7 ji ?_;refine Qa hP (Ce hr (by omega)) rfl rfl rfl ?_;refine Sz2 h7 ji ?_;refine Qb (fun hz=>?_) (fun hz=>?_)
    ·have sv:¬rv n a d=0:=fun h=>hz (gY.2 h);refine Sz2 h7 ji ?_;refine Qa hP (uE hr (by omega)) rfl rfl rfl ?_;refine Sz2 h7 ji ?_;rw[Q9 (f:=PV.term) (y:=(rv n a d,m)) (xs:=p.take (i+1)) (ty':=54) (fz:=false) Tz0 cE (by omega) rfl (by omega) (by omega)];refine Sz2 h7 ji ?_;rw[mz (f:=PV.term) (xs:=p.take (i+1)++[(rv n a d,m)]) (ys:=p.drop (i+1)) Tz0 (by simp<;>omega) (by omega) (by omega) (by omega)];refine eC ?_;refine Qd ?_ rfl;rw[Kae (by simp<;>omega),ja,if_neg sv,EA];simp
    ·have sv:rv n a d=0:=gY.1 (Decidable.not_not.1 hz);refine Sz2 h7 ji ?_;rw[mz (f:=PV.term) (xs:=p.take (i+1)) (ys:=p.drop (i+1)) Tz0 (by simp<;>omega) (by omega) (by omega) (by omega)];refine eC ?_;refine Qd ?_ rfl;rw[Kae (by simp<;>omega),ja,if_pos sv,kK,Kbn]
 ·obtain rfl:j=0:=by omega
  have EA:Q7 p [(rv n a d,m)]=[]++(rv n a d,m)::p:=Hy (m:=m) (c:=rv n a d) (u:=[]) (v:=p) (by simp) (by simpa using hd);refine Sz1 h7 ?_;rw[XZ (by omega)];refine Sz2 h7 ji ?_;refine Qa hP (Ce hr (by omega)) rfl rfl rfl ?_;refine Sz2 h7 ji ?_;refine Qb (fun hz=>?_) (fun hz=>?_)
  ·have sv:¬rv n a d=0:=fun h=>hz (gY.2 h);refine Sz2 h7 ji ?_;refine Qa hP (uE hr (by omega)) rfl rfl rfl ?_;refine Sz2 h7 ji ?_;rw[Q9 (f:=PV.term) (y:=(rv n a d,m)) (xs:=([]:List Tm)) (ty':=54) (fz:=false) Tz0 cE (by omega) (n:=0) rfl (by omega) (by omega)];refine Sz2 h7 ji ?_;rw[mz (f:=PV.term) (xs:=([]:List Tm)++[(rv n a d,m)]) (ys:=p) Tz0 (by simp<;>omega) (by omega) (by omega) (by omega)];refine eC ?_;refine Qd ?_ rfl;rw[Kae (by simp<;>omega),ja,if_neg sv,EA];simp
  ·have sv:rv n a d=0:=gY.1 (Decidable.not_not.1 hz);refine Sz2 h7 ji ?_;rw[mz (f:=PV.term) (xs:=([]:List Tm)) (ys:=p) Tz0 (by simp<;>omega) (by omega) (by omega) (by omega)];refine eC ?_;refine Qd ?_ rfl;rw[Kae (by simp<;>omega),ja,if_pos sv,kK]
theorem QT{n:Bool}{a d:List Nat}{k:Nat}(hr:Raw k n a d)(hk:k<=2^32):Qc Tryz.prog 25 [PV.rr n a d] (· =PV.aj (dQ (rv n a d))):=by
 have gR:=(Gj (p:=[]) (m:=[]) (K:=1) (E:=1) (PB.nil _ _) trivial (by simp[NZ]) hr hk ⟨by simp,by simp,by simp⟩ (by simp) (by omega) (by omega) (by simp)).le (args':=[.aa,PV.rr n a d,.aa]) ⟨trivial,Qw _,trivial,trivial⟩;have e:ja [] (rv n a d) []=dQ (rv n a d):=by rw[ja,qi];rfl
 rw[e]at gR;refine Qf Qj Tryz.func25 rfl ahR (by simp[JU]) fun C hP=>?_;simp only[JU,Zo,Zg,Zm,Zc,Zf,Zl,Zh,Zs,Zi,Zb,Zk,Zn,Zu,Zq,Zr,Zz];refine Sz0 ?_;refine Qa hP gR rfl rfl rfl ?_;refine Sz0 ?_;exact Qd rfl rfl
theorem W9{a m:List Int}(bu:a.length<2^42)(AT:m.length<2^42):Qc Tryz.prog 182 [PV.mono a,PV.mono m] (· = .bool (xe a m)):=by
 refine Qf Qj Tryz.func182 rfl afA (by simp[JM]) fun C hP=>?_;simp only[JM,Zo,Zg,Zm,Zc,Zf,Zl,Zh,Zs,Zi,Zb,Zk,Zn,Zu,Zq,Zr,Zz];refine Sz0 ?_;refine Qz (by repeat (first|exact Qs|exact Ql|exact Qm|exact Qn|exact Qo|apply Qk|apply Qr|apply Qx|apply Q4|apply Q5|apply Qi|apply Q2)) [(4,19)] [] (fun n J hp=>∃i,n=a.length-i/\i<=a.length/\(∀j,j<i->eN a j=eN m j)/\J 5= .int .i64 (i:Nat)) a.length ?_ ?_
 ·refine⟨0,rfl,by omega,by omega,?_⟩;refine Sz0 ?_;rfl
 rintro _ J h ⟨i,rfl,hi,h1,h5⟩;refine Sz1 h5 ?_;refine Qb (fun hg=>?_) (fun hg=>?_)
 ·have aA:i<a.length:=by omega
  have he:=e9 aA;generalize hx:a[i]=x at *
  refine Sz2 h5 hx ?_;refine Qa hP (nd AT) rfl rfl rfl ?_;refine Sz2 h5 hx ?_;refine Qb (fun hc=>?_) (fun hc=>?_)
  ·refine Sz0 ?_;refine Qd (congrArg PV.bool ?_) rfl;cases hz:xe a m with
   |false=>rfl
   |true=>rw[Ch]at hz;have:=hz i aA;rw[he]at this;exact absurd this hc
  ·refine Sz1 h5 ?_;refine Qh (a.length-(i+1)) (by omega) ⟨i+1,rfl,by omega,fun j hj=>?_,?_⟩
   ·by_cases dW:j=i
    ·subst dW;rw[he];exact Decidable.not_not.1 hc
    ·exact h1 j (by omega)
   ·exact Tz0
 ·obtain rfl:i=a.length:=by omega
  refine Sz0 ?_;exact Qd (congrArg PV.bool (Ch.2 h1).symm) rfl
theorem yJ{p:List Tm}{E:Nat}(hp:∀t∈p,MB E t.2)(bV:p.length<=2^36):Qc Tryz.prog 135 [PV.aj p] (· = .bool (bf p)):=by
 have bad:(∃t∈p,∃x∈t.2,1048576<x)->bf p=true:=fun⟨t,ht,x,hx,h⟩=>by
  unfold bf;have:(p.any fun t=>t.2.any fun x=>decide (1048576<x))=true:=by rw[Ka4];exact⟨t,ht,by rw[Ka4];exact⟨x,hx,decide_eq_true h⟩⟩
  rw[this,Kc9]
 refine Qf Qj Tryz.func135 rfl afy (by simp[I1]) fun C hP=>?_;simp only[I1,Zo,Zg,Zm,Zc,Zf,Zl,Zh,Zs,Zi,Zb,Zk,Zn,Zu,Zq,Zr,Zz];refine Sz0 ?_;refine Qz (by repeat (first|exact Qs|exact Ql|exact Qm|exact Qn|exact Qo|apply Qk|apply Qr|apply Qx|apply Q4|apply Q5|apply Qi|apply Q2)) [(2,29)] [] (fun n J hp=>∃i,n=p.length-i/\i<=p.length/\(∀t∈p.take i,∀x∈t.2,¬1048576<x)/\J 3= .int .i64 (i:Nat)) p.length ?_ ?_
 ·refine⟨0,rfl,by omega,by simp,?_⟩;refine Sz0 ?_;rfl
 rintro _ J h ⟨i,rfl,hi,h1,h3⟩;refine Sz1 h3 ?_;refine Qb (fun hg=>?_) (fun hg=>?_)
 ·have aA:i<p.length:=by omega
  have ba:=hp _ (Kah aA);have eo:=Kah aA;have bn:p.take (i+1)=p.take i++[p[i]]:=Kag aA;generalize hx:p[i]=x at *
  have nY:=ba.len;refine Sz2 h3 hx ?_;refine Qz (by repeat (first|exact Qs|exact Ql|exact Qm|exact Qn|exact Qo|apply Qk|apply Qr|apply Qx|apply Q4|apply Q5|apply Qi|apply Q2)) [(2,2),(4,4),(11,29)] [] (fun n J hp=>∃j,n=x.2.length-j/\j<=x.2.length/\(∀y∈x.2.take j,¬1048576<y)/\J 4= .int .i64 (j:Nat)) x.2.length ?_ ?_
  ·refine⟨0,rfl,by omega,by simp,?_⟩;refine Sz0 ?_;rfl
  rintro _ J2 h2 ⟨j,rfl,hj,h4,h5⟩;refine Sz3 h3 h5 hx ?_;refine Qb (fun fI=>?_) (fun fI=>?_)
  ·have fJ:j<x.2.length:=by omega
   have mX:=Kah fJ;have Bf:x.2.take (j+1)=x.2.take j++[x.2[j]]:=Kag fJ;generalize hy:x.2[j]=y at *
   refine Sz4 h3 h5 hx hy ?_;refine Qb (fun hc=>?_) (fun hc=>?_)
   ·refine Sz0 ?_;exact Qd (congrArg PV.bool (bad ⟨x,eo,y,mX,hc⟩).symm) rfl
   ·refine Sz1 h5 ?_;refine Qh (x.2.length-(j+1)) (by omega) ⟨j+1,rfl,by omega,?_,?_⟩
    ·rw[Bf];intro z hz;rcases KaU.1 hz with hz|hz
     ·exact h4 z hz
     ·simp only[KaP]at hz;subst hz;exact hc
    ·exact Tz0
  ·rw[Kae (by omega)]at h4;refine Sz2 h3 h5 ?_;simp (disch:=decide) only[kb,nw];refine Qh (p.length-(i+1)) (by omega) ⟨i+1,rfl,by omega,?_,?_⟩
   ·rw[bn];intro z hz;rcases KaU.1 hz with hz|hz
    ·exact h1 z hz
    ·simp only[KaP]at hz;subst hz;exact h4
   ·exact Tz0
 ·obtain rfl:i=p.length:=by omega
  rw[Kas]at h1;refine Sz0 ?_;refine Qd (congrArg PV.bool ?_) rfl;have:(p.any fun t=>t.2.any fun x=>decide (1048576<x))=false:=by rw[KbB];intro t ht;rw[Bool.not_eq_true,KbB];intro x hx;simpa using h1 t ht x hx
  rw[bf,this,Bool.or_false];exact decide_eq_decide.2 ⟨fun h=>by omega,fun h=>by omega⟩
theorem GH{a:Rat}{k:Nat}(h:rs a<=k)(hk:k<=2^32):Qc Tryz.prog 25 [PV.rat a] (· =PV.aj (dQ a)):=by
 have:=QT (ir h) hk
 rwa[gK]at this
theorem Sy{p:List Tm}{K E:Nat}(hp:PB K E p)(hn:aC p)(hK:K<=2^32)(hE:E<=1048576)(hl:p.length<=2^36):Qc Tryz.prog 168 [PV.aj p] (· =PV.aj p):=by
 refine Qf Qj Tryz.func168 rfl afz (by simp[Jw]) fun C hP=>?_;simp only[Jw,Zo,Zg,Zm,Zc,Zf,Zl,Zh,Zs,Zi,Zb,Zk,Zn,Zu,Zq,Zr,Zz];refine Sz0 ?_;refine rE 3 4 Tz0 ?_;refine Qz (by repeat (first|exact Qs|exact Ql|exact Qm|exact Qn|exact Qo|apply Qk|apply Qr|apply Qx|apply Q4|apply Q5|apply Qi|apply Q2)) [(3,32)] [] (fun n J hp=>∃i,n=p.length-i/\i<=p.length/\J 3=PV.aj (p.take i)/\J 4= .int .i64 (i:Nat)) p.length ?_ ?_
 ·refine⟨0,rfl,by omega,?_⟩;refine Sz0 ?_;simp
 rintro _ J h ⟨i,rfl,hi,h3,h4⟩;refine Sz2 h3 h4 ?_;refine Qb (fun hg=>?_) (fun hg=>?_)
 ·have aA:i<p.length:=by omega
  have ba:=hp.get aA;have bn:=ZF hn aA;have Vn:=hn.take i;have xV:=hp.take i;have pI:(p.take i).length<=p.length:=List.length_take_le' _ _;generalize hx:p[i]=x at *
  have nY:=ba.m.len;have cA:fo x.2=true:=GO ba.m hE ba.l;have VM:gL x.2=x.2:=Hf ba.l;have hz:=Xx x.2;rw[VM,cA,if_pos rfl]at hz;have hcx:=ba.c;refine Sz3 h3 h4 hx ?_;refine Qa hP (Rf (by omega)) rfl rfl rfl ?_;rw[VM,if_pos cA];refine Sz3 h3 h4 hx ?_;refine Qa hP (W9 (m:=x.2) (by omega) (by omega)) rfl rfl rfl ?_;rw[hz];refine Sz3 h3 h4 hx ?_;have gR:=Gj (K:=K) (E:=E) (k:=K) xV Vn.s Vn.z (ir (q:=x.1) (k:=K) (by omega)) (by omega) ba.m ba.l (by omega) (by omega) (by omega);rw[gK,bn]at gR;refine Qa hP gR rfl rfl rfl ?_;refine Sz3 h3 h4 hx ?_;refine Qh (p.length-(i+1)) (by omega) ⟨i+1,rfl,by omega,?_⟩;exact Tz0
 ·obtain rfl:i=p.length:=by omega
  rw[Kas]at h3;refine Sz1 h3 ?_;exact Qd rfl rfl
theorem N3{a:List Int}{v:Int}{E:Nat}(h:MB E a):Qc Tryz.prog 99 [PV.mono a,.int .i64 v] (· = .int .i64 (eN a (cP v))):=by
 have hl:=h.len;have:=RI (a:=a) (v:=v) (by omega);have e:(if v<0 then 0 else eN a v.toNat)=eN a (cP v):=by
  unfold cP;split
  ·rw[fq (by omega)]
  ·rfl
 rwa[e]at this
theorem wv{p:List Tm}{v:Int}{K E:Nat}(hp:PB K E p)(bV:p.length<=2^36):Qc Tryz.prog 76 [PV.aj p,.int .i64 v] (· = .int .i64 (Q3 p (cP v))):=by
 refine Qf Qj Tryz.func76 rfl aiH (by simp[KH]) fun C hP=>?_;simp only[KH,Zo,Zg,Zm,Zc,Zf,Zl,Zh,Zs,Zi,Zb,Zk,Zn,Zu,Zq,Zr,Zz];refine Sz0 ?_;refine Qz (by repeat (first|exact Qs|exact Ql|exact Qm|exact Qn|exact Qo|apply Qk|apply Qr|apply Qx|apply Q4|apply Q5|apply Qi|apply Q2)) [(5,21)] [] (fun n J hp=>∃i,n=p.length-i/\i<=p.length/\J 5= .int .i64 (Q3 (p.take i) (cP v))/\J 6= .int .i64 (i:Nat)) p.length ?_ ?_
 ·refine⟨0,rfl,by omega,?_⟩;refine Sz0 ?_;exact⟨rfl,rfl⟩
 rintro _ J h ⟨i,rfl,hi,h5,h6⟩;refine Sz2 h5 h6 ?_;refine Qb (fun hg=>?_) (fun hg=>?_)
 ·have aA:i<p.length:=by omega
  have ba:=hp.get aA;have bn:=TM (v:=cP v) aA;generalize hx:p[i]=x at *
  have nY:=ba.m.len;refine Sz3 h5 h6 hx ?_;refine Qa hP (N3 ba.m) rfl rfl rfl ?_;refine Sz3 h5 h6 hx ?_;refine Qh (p.length-(i+1)) (by omega) ⟨i+1,rfl,by omega,?_⟩;rw[bn];exact Tz0
 ·obtain rfl:i=p.length:=by omega
  rw[Kas]at h5;refine Sz1 h5 ?_;exact Qd rfl rfl
theorem agr{v:Int}{i:Nat}(h:i<64):((i:Int)=v)↔cP v=i:=by unfold cP;split<;>omega
theorem Qwq{a:List Int}{v:Int}{E:Nat}(ha:MB E a)(hE:E<=1048576):Qc Tryz.prog 167 [PV.mono a,.int .i64 v] (· =PV.mono (ew a (cP v))):=by
 have nY:=ha.len;have cA:=ac5 ha hE (cP v);have cH:(a.set (cP v) 0).length=a.length:=by simp
 refine Qf Qj Tryz.func167 rfl ae6 (by simp[Jv]) fun C hP=>?_;simp only[Jv,Zo,Zg,Zm,Zc,Zf,Zl,Zh,Zs,Zi,Zb,Zk,Zn,Zu,Zq,Zr,Zz];refine Sz0 ?_;refine kM 5 900 1 3 (by omega) Tz0 ?_;refine Qz (by repeat (first|exact Qs|exact Ql|exact Qm|exact Qn|exact Qo|apply Qk|apply Qr|apply Qx|apply Q4|apply Q5|apply Qi|apply Q2)) [(5,25)] [17,18,24,25,900] (fun n J hp=>∃i out,n=a.length-i/\i<=a.length/\out=(a.set (cP v) 0).take i/\J 5= .ms 900 out.length/\J 6= .int .i64 (i:Nat)/\hp 900=some ⟨1,3,iI out,false⟩) a.length ?_ ?_
 ·refine⟨0,[],rfl,by omega,rfl,?_⟩;refine Sz0 ?_;rfl
 rintro _ J h ⟨i,out,rfl,hi,iS,h5,h6,hh⟩;have fy:out.length=i:=by rw[iS,KaF];omega
 refine Sz2 h5 h6 ?_;refine Qb (fun hg=>?_) (fun hg=>?_)
 ·have aA:i<a.length:=by omega
  have bn:(a.set (cP v) 0).take (i+1)=(a.set (cP v) 0).take i++[if cP v=i then 0 else a[i]]:=by rw[Kag (by omega),Kde]
  have qL:=agr (v:=v) (i:=i) (by omega);generalize hx:a[i]=x at *
  refine Sz3 h5 h6 hx ?_;refine Qb (fun hc=>?_) (fun hc=>?_)
  ·rw[if_pos (qL.1 hc)]at bn;refine Sz3 h5 h6 hx ?_;rw[Q9 (f:=fun(x:Int)=>.int .i64 x) (y:=(0:Int)) (xs:=out) (ty':=3) (fz:=false) (Tz1 hh) cE (by omega) rfl (by omega) (by omega)];refine Sz3 h5 h6 hx ?_;refine Qh (a.length-(i+1)) (by omega) ⟨i+1,out++[(0:Int)],rfl,by omega,by rw[bn,iS],?_⟩;simp+decide (disch:=first|omega|rfl|(simp+decide only[go_sem,Kap]<;>rfl)|fail) only[go_sem,Kap]
  ·rw[if_neg (fun h=>hc (qL.2 h))]at bn;refine Sz3 h5 h6 hx ?_;rw[Q9 (f:=fun(x:Int)=>.int .i64 x) (y:=x) (xs:=out) (ty':=3) (fz:=false) (Tz1 hh) cE (by omega) rfl (by omega) (by omega)];refine Sz3 h5 h6 hx ?_;refine Qh (a.length-(i+1)) (by omega) ⟨i+1,out++[x],rfl,by omega,by rw[bn,iS],?_⟩;simp+decide (disch:=first|omega|rfl|(simp+decide only[go_sem,Kap]<;>rfl)|fail) only[go_sem,Kap]
 ·obtain rfl:i=a.length:=by omega
  rw[Kae (by omega)]at iS;subst iS;refine Sz2 h5 hh ?_;refine iE hP (Rf (a:=a.set (cP v) 0) (by omega)) (by simp+decide (disch:=try exact E1 hh) only[go_sem,hh,dV,Kav,KaC,Kau,KaA,Kak];simp[Kae]) rfl ?_;rw[show gL (a.set (cP v) 0)=ew a (cP v)from rfl,if_pos cA];refine Sz0 ?_;exact Qd rfl rfl
theorem F7{p:List Tm}{v n:Int}{K E:Nat}(hp:PB K E p)(np:aC p)(bV:p.length<=2^36)(hE:E<=1048576)(hK:K<=2^32):Qc Tryz.prog 136 [PV.aj p,.int .i64 v,.int .i64 n] (· =PV.aj (aX p (cP v) n)):=by
 have apF:=pZ p (cP v) n;refine Qf Qj Tryz.func136 rfl ae5 (by simp[I2]) fun C hP=>?_;simp only[I2,Zo,Zg,Zm,Zc,Zf,Zl,Zh,Zs,Zi,Zb,Zk,Zn,Zu,Zq,Zr,Zz];refine Sz0 ?_;refine kM 7 900 4 54 (by omega) Tz0 ?_;refine Qz (by repeat (first|exact Qs|exact Ql|exact Qm|exact Qn|exact Qo|apply Qk|apply Qr|apply Qx|apply Q4|apply Q5|apply Qi|apply Q2)) [(7,39)] [38,39,900] (fun m J hp=>∃i,m=p.length-i/\i<=p.length/\J 7= .ms 900 (aX (p.take i) (cP v) n).length/\J 8= .int .i64 (i:Nat)/\hp 900=some ⟨4,54,(aX (p.take i) (cP v) n).map PV.term,false⟩) p.length ?_ ?_
 ·refine⟨0,rfl,by omega,?_⟩;refine Sz0 ?_;exact⟨rfl,rfl,rfl⟩
 rintro _ J h ⟨i,rfl,hi,h7,h8,hh⟩;refine Sz2 h7 h8 ?_;refine Qb (fun hg=>?_) (fun hg=>?_)
 ·have aA:i<p.length:=by omega
  have ba:=hp.get aA;have rW:=St (v:=cP v) (n:=n) aA;have eV:=pZ (p.take i) (cP v) n;rw[KaF]at eV;generalize hx:p[i]=x at *
  have nY:=ba.m.len;refine Sz3 h7 h8 hx ?_;refine Qa hP (N3 ba.m) rfl rfl rfl ?_;refine Sz3 h7 h8 hx ?_;refine Qb (fun hc=>?_) (fun hc=>?_)
  ·rw[if_pos hc]at rW;refine Sz3 h7 h8 hx ?_;refine Qa hP (Qwq ba.m hE) rfl rfl rfl ?_;refine Sz3 h7 h8 hx ?_;rw[Q9 (f:=PV.term) (y:=(x.1,ew x.2 (cP v))) (xs:=aX (p.take i) (cP v) n) (ty':=54) (fz:=false) (Tz1 hh) cE (by omega) rfl (by omega) (by omega)];refine Sz3 h7 h8 hx ?_;refine Qh (p.length-(i+1)) (by omega) ⟨i+1,rfl,by omega,?_⟩;rw[rW];simp+decide (disch:=first|omega|rfl|(simp+decide only[go_sem,Kap]<;>rfl)|fail) only[go_sem,Kap]
  ·rw[if_neg hc,Kak]at rW;refine Sz3 h7 h8 hx ?_;refine Qh (p.length-(i+1)) (by omega) ⟨i+1,rfl,by omega,?_⟩;rw[rW];exact Tz2 h7 hh
 ·obtain rfl:i=p.length:=by omega
  rw[Kas]at h7 hh;refine Sz2 h7 hh ?_;refine iE hP (Sy (ql hp (cP v) n) (kJ np (cP v) n) hK hE (by omega)) (by simp+decide (disch:=try exact E1 hh) only[go_sem,hh,dV,Kav,KaC,Kau,KaA,Kak];simp[Kae]) rfl ?_;refine Sz0 ?_;exact Qd rfl rfl
theorem Xa{v n:Nat}(hv:v<64)(hn:n<=1048576):Qc Tryz.prog 137 [.int .i64 v,.int .i64 n] (· =PV.aj (oP v n)):=by
 have qN:v<(List.replicate (v+1) (0:Int)).length:=by simp
 have jB:=nK;refine Qf Qj Tryz.func137 rfl ae7 (by simp[I3]) fun C hP=>?_;simp only[I3,Zo,Zg,Zm,Zc,Zf,Zl,Zh,Zs,Zi,Zb,Zk,Zn,Zu,Zq,Zr,Zz];refine Sz0 ?_;refine dF (fun h0=>?_) (fun h0=>?_)
 ·obtain rfl:n=0:=by omega
  refine Sz0 ?_;refine Qa hP (uH (by omega) (by omega)) rfl rfl rfl ?_;have hC:=QT (k:=4) (ir (q:=((1:Int):Rat)) (k:=4) (by rw[show((1:Int):Rat)=1 from rfl];omega)) (by omega);rw[gK]at hC;refine Sz0 ?_;refine Qa hP hC rfl rfl rfl ?_;refine Sz0 ?_;exact Qd rfl rfl
 refine Sz0 ?_;refine Qb (fun h1=>by omega) (fun _=>?_);refine Sz0 ?_;rw[Hm v n (by omega),KbM];have dZ:(cJ v n).length=v+1:=by simp[cJ]
 refine Qa hP (uH (by omega) (by omega)) rfl rfl rfl ?_;generalize hc:((1:Int):Rat)=c;have oE:c=1:=hc.symm;refine Sz0 ?_;rw[P5 (p:=PV.rat c) (e:=1) (ty:=3) (fz:=false) (xs:=iI (cJ v n)) rfl Tz0 (by simp[dZ,iI])];have iT:oP v n=[(c,cJ v n)]:=by rw[oP,if_neg (by omega),oE]
 have oD:=PK (v:=v) (n:=n) hv;have kX:=O6 v n;rw[iT]at oD kX⊢;refine Sz0 ?_;refine iE hP (Sy oD kX (by omega) hn (by simp)) BT rfl ?_;refine Sz0 ?_;exact Qd rfl rfl
theorem Qyd{f g:List Tm}{v d N K E M:Nat}(nf:aC f)(ng:aC g)(bg:PB K E g)(hv:v<64)(ia:g≠[])(hd:Q3 g v=d)(hN:Q3 f v<N)(pA:bf f=false)
  (hb:∀k,k<N->PB K E (aG g v d f k).1/\PB K E (aG g v d f k).2) (xX:g.length<=M) (hM:M<=2^12) (hK:M*(K+K+2)+(M*(K+K+2)+(K+2))<=2^31) (Ul:4000*(K+K)+(K+K)<=2^32) (lO:2<=K) (Lr:1<=M) (hE:E<=1048576) (At:0<N) (hN2:N<=2^30):
  Qc Tryz.prog 78 [PV.aj f,PV.aj g,.int .i64 v] (· =js g v d N [] f 0):=by
 have hlen:∀ {p:List Tm},bf p=false->p.length<=4000:=fun {p} h=>by unfold bf at h;simp only[Kcf,decide_eq_false_iff_not]at h;omega
 have hKM:K+K+2<=M*(K+K+2):=by have:=Kaf (K+K+2) Lr;omega
 have al5:M*(K+K)<=M*(K+K+2):=Ka7 _ (by omega);have AD:PB K E f:=(hb 0 At).2;have LW:∀t∈f,MB E t.2:=fun t ht=>(AD t ht).m;have am5:=hlen pA;have eV:(aX g v d).length<=M:=Kay (pZ _ _ _) xX;have ix:=ql bg v (d:Int);have Et:=kJ ng v (d:Int);refine Qf Qj Tryz.func78 rfl aiJ (by simp[KJ]) fun C hP=>?_;simp only[KJ,Zo,Zg,Zm,Zc,Zf,Zl,Zh,Zs,Zi,Zb,Zk,Zn,Zu,Zq,Zr,Zz];simp+decide (disch:=first|omega|rfl|(simp+decide only[go_sem]<;>rfl)|fail) only[go_sem,b8,bI];refine dF (fun h1=>by omega) (fun _=>?_);simp+decide (disch:=first|omega|rfl|(simp+decide only[go_sem]<;>rfl)|fail) only[go_sem,b8,bI];refine Qb (fun h1=>by omega) (fun _=>?_);simp+decide (disch:=first|omega|rfl|(simp+decide only[go_sem]<;>rfl)|fail) only[go_sem,b8,bI];refine Qb (fun h1=>absurd (Kar.1 (by omega)) ia) (fun _=>?_);simp+decide (disch:=first|omega|rfl|(simp+decide only[go_sem]<;>rfl)|fail) only[go_sem,b8,bI];refine Qa hP (yJ LW (by omega)) rfl rfl rfl ?_;rw[pA];simp+decide (disch:=first|omega|rfl|(simp+decide only[go_sem]<;>rfl)|fail) only[go_sem,b8,bI];refine Qa hP (wv bg (by omega)) rfl rfl rfl ?_;rw[mA,hd];simp+decide (disch:=first|omega|rfl|(simp+decide only[go_sem]<;>rfl)|fail) only[go_sem,b8,bI];refine Qa hP (F7 bg ng (by omega) hE (by omega)) rfl rfl rfl ?_;rw[mA];simp+decide (disch:=first|omega|rfl|(simp+decide only[go_sem]<;>rfl)|fail) only[go_sem,b8,bI];refine rE 12 4 (by simp+decide (disch:=first|omega|rfl|(simp+decide only[go_sem]<;>rfl)|fail) only[go_sem,b8,bI]) ?_;refine Qz (by repeat (first|exact Qs|exact Ql|exact Qm|exact Qn|exact Qo|apply Qk|apply Qr|apply Qx|apply Q4|apply Q5|apply Qi|apply Q2)) [(6,9),(12,16),(36,78)] [] (fun m J hp=>∃k,m=N-k/\k<=N/\((aG g v d f k).2≠[]->Q3 (aG g v d f k).2 v<N-k)/\(∃K' E',PB K' E' (aG g v d f k).2/\E'<=2^30)/\bf (aG g v d f k).1=false/\bf (aG g v d f k).2=false/\js g v d (N-k) (aG g v d f k).1 (aG g v d f k).2 k=js g v d N [] f 0/\
  J 12=PV.aj (aG g v d f k).1/\J 13=PV.aj (aG g v d f k).2/\J 14= .int .i64 (k:Nat)) N ?_ ?_
 ·refine⟨0,rfl,by omega,fun _=>by simpa[aG]using hN,⟨K,E,AD,by omega⟩,rfl,pA,rfl,?_⟩;simp+decide (disch:=first|omega|rfl|(simp+decide only[go_sem]<;>rfl)|fail) only[go_sem,b8,bI];exact⟨rfl,rfl,rfl⟩
 rintro _ J h ⟨k,rfl,hk,LR,⟨K',E',AF,hE'⟩,lU,gh,dq,bK,bU,cG⟩;obtain⟨n1,n2⟩:=sZ (v:=v) (d:=d) nf ng k;have aF:aG g v d f (k+1)=(iw (aG g v d f k).1 (aG g v d f k).2 g v (Q3 (aG g v d f k).2 v).toNat d,eD (aG g v d f k).2 g v (Q3 (aG g v d f k).2 v).toNat d):=rfl;have LJ:=hb k;generalize(aG g v d f k).1=q at *
 generalize(aG g v d f k).2=r at *
 have sh:=hlen lU;have kZ:=hlen gh;simp+decide (disch:=first|omega|rfl|(simp+decide only[go_sem,bK,bU,cG]<;>rfl)|fail) only[go_sem,b8,bI,bK,bU,cG];refine fX (fun hg=>?_) (fun hg=>?_)
 ·have iU:r≠[]:=fun h=>by rw[h]at hg;simp at hg
  have pM:=oq AF iU v;have amO:=LR iU;have L8:k<N:=by omega
  obtain⟨b1,b2⟩:=LJ L8;obtain⟨n,hn⟩:∃n:Nat,Q3 r v=n:=⟨(Q3 r v).toNat,by omega⟩
  have Mf:n<=E:=by have:=(oq b2 iU v).2;omega
  simp+decide (disch:=first|omega|rfl|(simp+decide only[go_sem,bK,bU,cG]<;>rfl)|fail) only[go_sem,b8,bI,bK,bU,cG];refine Qa hP (wv b2 (by omega)) rfl rfl rfl ?_;rw[mA,hn];simp+decide (disch:=first|omega|rfl|(simp+decide only[go_sem,bK,bU,cG]<;>rfl)|fail) only[go_sem,b8,bI,bK,bU,cG];refine Qb (fun hc=>?_) (fun hc=>?_)
  ·have hdn:d<=n:=by omega
   have e1:(n:Int)-(d:Int)=((n-d:Nat):Int):=by omega
   have Ev:=Fy n2 ng b2 iU hd (by omega);rw[hn,KbM]at aF Ev;obtain⟨q1,q2,q3,q4,q5,q6,q7,q8⟩:=NL (n:=n) (d:=d) b1 b2 bg xX hv Mf;have qS:=kJ n2 v (n:Int);have hpb:=ql b2 v (n:Int);have gE:=pZ r v (n:Int);have nb:aC (de r v n d):=sK qS v (n-d);have hKr:r.length*(K+K)<=4000*(K+K):=Kaf _ kZ;have hKq:q.length*(K+K)<=4000*(K+K):=Kaf _ sh;have Ei:g.length*(K+2+(K+2))<=M*(K+K+2)+M*2:=by
    have:=Kaf (K+2+(K+2)) xX;have e:K+2+(K+2)=K+K+2+2:=by omega
    rw[e]at this⊢;rw[<-Nat.mul_add];exact this
   have lU:r.length*(aX g v d).length<=4000*2^12:=KaM kZ (by omega);have gh:q.length*(aX g v d).length<=4000*2^12:=KaM sh (by omega);have AR:g.length*(de r v n d).length<=2^12*4000:=KaM (by omega) (by omega);have hl4:M*r.length<=2^12*4000:=KaM (by omega) kZ;have hl5:M*q.length<=2^12*4000:=KaM (by omega) sh;have hl6:r.length*M<=4000*2^12:=KaM kZ hM;have hB:gr (aX r v n) v (n-d)=de r v n d:=rfl;have pl:=afO v (n-d);have pb:=PK (v:=v) (n:=n-d) hv;have pn:=O6 v (n-d);have AZ:=abl qS v (n-d);have anW:=Xa hv (n:=n-d) (by omega);generalize oP v (n-d)=y at *
   simp+decide (disch:=first|omega|rfl|(simp+decide only[go_sem,bK,bU,cG]<;>rfl)|fail) only[go_sem,b8,bI,bK,bU,cG];refine Qa hP (wv b2 (by omega)) rfl rfl rfl ?_;rw[mA,hn];simp+decide (disch:=first|omega|rfl|(simp+decide only[go_sem,bK,bU,cG]<;>rfl)|fail) only[go_sem,b8,bI,bK,bU,cG];refine Qa hP (F7 b2 n2 (by omega) hE (by omega)) rfl rfl rfl ?_;rw[mA];simp+decide (disch:=first|omega|rfl|(simp+decide only[go_sem,bK,bU,cG,e1]<;>rfl)|fail) only[go_sem,b8,bI,bK,bU,cG,e1];refine Qa hP anW rfl rfl rfl ?_;simp+decide (disch:=first|omega|rfl|(simp+decide only[go_sem,bK,bU,cG]<;>rfl)|fail) only[go_sem,b8,bI,bK,bU,cG];refine Qa hP (rj hpb (pb.mono lO (by omega)) qS.z pn.z (by omega) (by omega) (by omega) (by rw[pl];omega) (by rw[pl];omega)) rfl rfl rfl ?_;rw[uQ qS pn,AZ,hB];simp+decide (disch:=first|omega|rfl|(simp+decide only[go_sem,bK,bU,cG]<;>rfl)|fail) only[go_sem,b8,bI,bK,bU,cG];refine Qa hP (rj ix b1 Et.z n1.z (by omega) (by omega) (by omega) (by omega) (by omega)) rfl rfl rfl ?_;rw[uQ Et n1];simp+decide (disch:=first|omega|rfl|(simp+decide only[go_sem,bK,bU,cG]<;>rfl)|fail) only[go_sem,b8,bI,bK,bU,cG];refine Qa hP (Cj (K:=M*(K+K+2)) (E:=E+E) (q3.mono (by omega) (Kac _)) (q1.mono (by omega) (Kac _)) (by omega) (by omega) (by omega) (by omega)) rfl rfl rfl ?_;rw[show Q7 (Q8 (aX g v d) q) (de r v n d)=iw q r g v n d from rfl];simp+decide (disch:=first|omega|rfl|(simp+decide only[go_sem,bK,bU,cG]<;>rfl)|fail) only[go_sem,b8,bI,bK,bU,cG];refine Qa hP (rj ix b2 Et.z n2.z (by omega) (by omega) (by omega) (by omega) (by omega)) rfl rfl rfl ?_;rw[uQ Et n2];simp+decide (disch:=first|omega|rfl|(simp+decide only[go_sem,bK,bU,cG]<;>rfl)|fail) only[go_sem,b8,bI,bK,bU,cG];refine Qa hP (rj (q1.mono (Kac _) (by omega)) (bg.mono (K':=K+2) (E':=E+E) (by omega) (by omega)) nb.z ng.z (by omega) (by omega) (by omega) (by omega) (by omega)) rfl rfl rfl ?_;rw[uQ nb ng];simp+decide (disch:=first|omega|rfl|(simp+decide only[go_sem,bK,bU,cG]<;>rfl)|fail) only[go_sem,b8,bI,bK,bU,cG];refine Qa hP (Ck (K:=M*(K+K+2)) (E:=E+E+E) (q5.mono (by omega) (by omega)) q7 (kd nb.s ng.s).z (by omega) (by omega) (by omega) (by omega) (by omega)) rfl rfl rfl ?_;rw[show fY (Q8 (aX g v d) r) (Q8 (de r v n d) g)=eD r g v n d from rfl];have bQ:PB (M*(K+K)+(K+2)) (E+E) (iw q r g v n d):=uT _ _ q3 q1;have lQ:(iw q r g v n d).length<=2^33:=Kay (uC _ _) (by omega);have bR:PB (M*(K+K)+(M*(K+K+2)+2)) (E+E+E) (eD r g v n d):=uT _ _ (q5.mono (Kac _) (by omega)) (xc q7);have lR:(eD r g v n d).length<=2^33:=Kay (uC _ _) (by have:=uA (Q8 (de r v n d) g) (-1);have e:(kP (Q8 (de r v n d) g)).length=(ch (Q8 (de r v n d) g) (-1)).length:=rfl;omega);have qR:¬(r=[]∨Q3 r v<d):=fun h=>h.elim iU (fun h=>by omega);have fw:=GF (g:=g) (k:=k) (q:=q) (fuel:=N-(k+1)) qR;have gf:=Ge (g:=g) (k:=k) (q:=q) (fuel:=N-(k+1)) qR;rw[show N-(k+1)+1=N-k by omega,hn,KbM,dq]at fw gf;generalize iw q r g v n d=q' at *
   generalize eD r g v n d=r' at *
   simp+decide (disch:=first|omega|rfl|(simp+decide only[go_sem,bK,bU,cG]<;>rfl)|fail) only[go_sem,b8,bI,bK,bU,cG];refine Qa hP (yJ (fun t ht=>(bQ t ht).m) (by omega)) rfl rfl rfl ?_;cases ie:bf q'
   ·simp+decide (disch:=first|omega|rfl|(simp+decide only[go_sem,bK,bU,cG]<;>rfl)|fail) only[go_sem,b8,bI,bK,bU,cG];refine Qa hP (yJ (fun t ht=>(bR t ht).m) (by omega)) rfl rfl rfl ?_;cases qN:bf r'
    ·have LP:=fw (by simp[ie,qN]);simp+decide (disch:=first|omega|rfl|(simp+decide only[go_sem,bK,bU,cG]<;>rfl)|fail) only[go_sem,b8,bI,bK,bU,cG];refine Qh (N-(k+1)) (by omega) ⟨k+1,rfl,by omega,?_⟩;rw[aF];refine⟨fun _=>?_,⟨_,_,bR,by omega⟩,ie,qN,LP.symm,?_⟩
     ·show Q3 r' v<(N:Int)-((k+1:Nat):Int)
      omega
     simp+decide (disch:=first|omega|rfl|(simp+decide only[go_sem]<;>rfl)|fail) only[go_sem,b8,bI]
    ·have vJ:=gf (.inr qN);simp+decide (disch:=first|omega|rfl|(simp+decide only[go_sem]<;>rfl)|fail) only[go_sem,b8,bI];exact tv vJ rfl rfl rfl rfl oZ oZ (Qw _) (Qw _)
   ·have vJ:=gf (.inl ie);simp+decide (disch:=first|omega|rfl|(simp+decide only[go_sem]<;>rfl)|fail) only[go_sem,b8,bI];exact tv vJ rfl rfl rfl rfl oZ oZ (Qw _) (Qw _)
  ·have fw:=yU (g:=g) (q:=q) (k:=k) (show r=[]∨Q3 r v<d from .inr (by omega)) (N-k);rw[dq]at fw;simp+decide (disch:=first|omega|rfl|(simp+decide only[go_sem,bK,bU,cG]<;>rfl)|fail) only[go_sem,b8,bI,bK,bU,cG];exact tv fw rfl rfl rfl rfl (Qw _) (Qw _) (Qw _) (Qw _)
 ·have iU:r=[]:=Kar.1 (by omega);have fw:=yU (g:=g) (q:=q) (k:=k) (show r=[]∨Q3 r v<d from .inl iU) (N-k);rw[dq]at fw;simp+decide (disch:=first|omega|rfl|(simp+decide only[go_sem,bK,bU,cG]<;>rfl)|fail) only[go_sem,b8,bI,bK,bU,cG];exact tv fw rfl rfl rfl rfl (Qw _) (Qw _) (Qw _) (Qw _)
end Go.Proofs.YtdjoomkeehihmaaGreat
namespace Go.FW
open Go
theorem SA(x y:Int)(hy:y≠0):mkRat (zv (decide (x<0) !=decide (y<0)) (ah x.natAbs)) y.natAbs=(x:Rat)/(y:Rat):=by
 rw[Kb1,rG,<-Rat.intCast_natCast];have h3:(y:Rat)≠0:=by rw[Ne,Ka6];exact hy
 by_cases cV:y<0
 ·have e2:(((y.natAbs:Nat):Int):Rat)= -(y:Rat):=by rw[<-Rat.intCast_neg];congr 1;omega
  have e1:(if(decide (x<0) !=decide (y<0))=true then -(x.natAbs:Int)else x.natAbs)= -x:=by by_cases hx:x<0<;>simp[hx,cV]<;>omega
  rw[e1,e2,Kc2];grind
 ·have e2:(((y.natAbs:Nat):Int):Rat)=(y:Rat):=by congr 1;omega
  have e1:(if(decide (x<0) !=decide (y<0))=true then -(x.natAbs:Int)else x.natAbs)=x:=by by_cases hx:x<0<;>simp[hx,cV]<;>omega
  rw[e1,e2]
end Go.FW
