/- Part 8 of the proof of TriangularZeros: CL, U4, U7, U8, U10, W4, W5, FwUD. Own lemmas; no conditions. -/
import Derived.Test.YtdjoomkeehihmaaGreatTriangularZerosPart7
set_option maxHeartbeats 1000000
set_option linter.unusedSimpArgs false
set_option linter.unusedVariables false
set_option linter.unnecessarySimpa false
set_option maxRecDepth 100000
namespace Go.Proofs.YtdjoomkeehihmaaGreat
open Go Go.FW
theorem GX{p:List Tm}{n:Bool}{a d:List Nat}{m:List Int}{K E k:Nat}(hp:PB K E p)(hs:fi p)(oy:NZ p)(hr:Raw k n a d)(hk:k<=2^32)(hm:MB E m)(hl:m.getLast? ≠some 0)(hK:K<=2^32)(hE:E<=2^38)(bV:p.length<=2^36):
  Qc Tryz.prog 52 [PV.aj p,PV.rr n a d,PV.mono m] (· =PV.aj (jq p (rv n a d) m)):=by
 have W9:=hr.rs;refine Qf Qo Tryz.func52 rfl aj1 (by simp[Lg]) fun C hP=>?_;simp only[Lg,Zo,Zg,Zm,Zc,Zf,Zl,Zh,Zs,Zi,Zb,Zk,Zn,Zu,Zq,Zr,Zz];refine Sz0 ?_;refine Qw (by repeat (first|exact Qr|exact Qk|exact Ql|exact Qm|exact Qn|apply Qj|apply Qq|apply Qx|apply Q5|apply Q6|apply Qi|apply Q2)) [(7,7),(12,26)] [] (fun k J hp=>k<=p.length/\(∀t∈p.drop k,aS t.2 m<0)/\J 7= .int .i64 (k:Nat)/\hp 4=some ⟨3,43,[PV.rr n a d],false⟩) p.length ?_ ?_
 ·refine⟨by omega,by simp,?_⟩;exact Tz0
 rintro j J h ⟨hj,hd,h7,fa⟩;refine Sz1 h7 ?_;refine gw (fun hg=>?_) (fun hg=>?_)
 ·obtain⟨i,rfl⟩:∃i,j=i+1:=⟨j-1,by omega⟩
  have e:((i+1:Nat):Int)-1=i:=by omega
  have hi:i<p.length:=by omega
  have aV:=hp.get hi;have uu:p.drop i=p[i]::p.drop (i+1):=Kaz hi;have bj:p.take (i+1)=p.take i++[p[i]]:=Kah hi;have lF:=YS hs hi;have bz:p=p.take i++p[i]::p.drop (i+1):=by rw[<-uu,Kbo]
  have c1:=aV.c;generalize hx:p[i]=x at *
  refine Sz3 h7 e hx ?_;refine Qa hP (AG aV.m hm (by omega)) rfl rfl rfl ?_;refine Sz3 h7 e hx ?_;refine Qb (fun hc=>?_) (fun hc=>?_)
  ·refine Sz3 h7 e hx ?_;refine Qg i (by omega) ⟨by omega,?_,?_⟩
   ·rw[uu];intro t ht;rcases KaP.1 ht with rfl|ht
    ·exact hc
    ·exact hd t ht
   ·exact Tz1 fa
  ·refine Sz3 h7 e hx ?_;refine gw (fun _=>?_) (fun h=>by omega);refine Sz3 h7 e hx ?_;refine Qa hP (AG aV.m hm (by omega)) rfl rfl rfl ?_;refine Sz3 h7 e hx ?_;refine Qb (fun iZ=>?_) (fun iZ=>?_)
   ·have fy:x.2=m:=(IM aV.l hl).1 iZ;have bw:=oy _ (Kag hi);rw[hx]at bw;have ki:jq p (rv n a d) m=p.take i++(if x.1+rv n a d=0 then []else [(x.1+rv n a d,m)])++p.drop (i+1):=by
     have Wa:p=p.take i++(x.1,m)::p.drop (i+1):=by rw[<-fy];exact bz
     rw[jq];split
     ·rename_i h0;have e0:x.1+0=x.1:=Rat.add_zero _;rw[h0,lf,e0,if_neg bw];simpa using Wa
     ·conv=>lhs;rw[Wa]
      exact QU (fun t ht=>by rw[<-fy];exact lF t ht)
    have ry:(p.take i).length<=p.length:=List.length_take_le' _ _;have fq:(p.drop (i+1)).length<=p.length:=by rw[Ka5];omega
    have W3:=xS x.1 (rv n a d);have FP:=iG (q:=x.1) (k:=2^32) (by omega);have fE:=Tv (k:=2^32) FP (show Raw (2^32) n a d from⟨hr.la,hr.ld,by have:=hr.sa;omega,by have:=hr.sd;omega,by omega⟩) (by omega);rw[gY]at fE;refine Sz4 h7 e hx fa ?_;refine nP ?_ ?_
    all_goals
     refine Sz4 h7 e hx fa ?_;refine Qa hP fE rfl rfl rfl ?_;refine Sz4 h7 e hx fa ?_;refine Qa hP (Hy (a:=x.1+rv n a d) (by omega)) rfl rfl rfl ?_;refine Sz4 h7 e hx fa ?_;refine Qb (fun hz=>?_) (fun hz=>?_)
     ·rw[if_neg (fun h=>hz (gG.2 h))]at ki;refine Sz4 h7 e hx fa ?_;rw[Q9 (f:=PV.term) (y:=(x.1+rv n a d,m)) (xs:=p.take i) (ty':=54) (fz:=false) Tz0 cH (by omega) rfl (by omega) (by omega)];refine Sz4 h7 e hx fa ?_;rw[mN (f:=PV.term) (xs:=p.take i++[(x.1+rv n a d,m)]) (ys:=p.drop (i+1)) Tz0 (by simp<;>omega) (by omega) (by omega) (by omega)];refine eQ ?_;refine Qd ?_ rfl;rw[Kae (by simp<;>omega),ki]
     ·rw[if_pos (gG.1 (Decidable.not_not.1 hz)),Kak]at ki;refine Sz4 h7 e hx fa ?_;rw[mN (f:=PV.term) (xs:=p.take i) (ys:=p.drop (i+1)) Tz0 (by simp<;>omega) (by omega) (by omega) (by omega)];refine eQ ?_;refine Qd ?_ rfl;rw[Kae (by simp<;>omega),ki]
   ·have Fu:Q8 p [(rv n a d,m)]=p.take (i+1)++(rv n a d,m)::p.drop (i+1):=by
     have:=IY (m:=m) (c:=rv n a d) (u:=p.take (i+1)) (v:=p.drop (i+1)) (fun t ht=>by
      rw[bj]at ht;rcases KaT.1 ht with ht|ht
      ·exact xd (lF t ht) (by omega)
      ·simp only[KaL]at ht;subst ht;omega) hd
     rwa[Kbo]at this
    have ry:(p.take (i+1)).length<=p.length:=List.length_take_le' _ _;have fq:(p.drop (i+1)).length<=p.length:=by rw[Ka5];omega
    refine Sz2 h7 fa ?_;refine Qa hP (CV hr (by omega)) rfl rfl rfl ?_;refine Sz2 h7 fa ?_;refine Qb (fun hz=>?_) (fun hz=>?_)
    ·have sX:¬rv n a d=0:=fun h=>hz (gG.2 h);refine Sz2 h7 fa ?_;refine Qa hP (u5 hr (by omega)) rfl rfl rfl ?_;refine Sz2 h7 fa ?_;rw[Q9 (f:=PV.term) (y:=(rv n a d,m)) (xs:=p.take (i+1)) (ty':=54) (fz:=false) Tz0 cH (by omega) rfl (by omega) (by omega)];refine Sz2 h7 fa ?_;rw[mN (f:=PV.term) (xs:=p.take (i+1)++[(rv n a d,m)]) (ys:=p.drop (i+1)) Tz0 (by simp<;>omega) (by omega) (by omega) (by omega)];refine eQ ?_;refine Qd ?_ rfl;rw[Kae (by simp<;>omega),jq,if_neg sX,Fu];simp
    ·have sX:rv n a d=0:=gG.1 (Decidable.not_not.1 hz);refine Sz2 h7 fa ?_;rw[mN (f:=PV.term) (xs:=p.take (i+1)) (ys:=p.drop (i+1)) Tz0 (by simp<;>omega) (by omega) (by omega) (by omega)];refine eQ ?_;refine Qd ?_ rfl;rw[Kae (by simp<;>omega),jq,if_pos sX,lf,Kbo]
 ·obtain rfl:j=0:=by omega
  have Fu:Q8 p [(rv n a d,m)]=[]++(rv n a d,m)::p:=IY (m:=m) (c:=rv n a d) (u:=[]) (v:=p) (by simp) (by simpa using hd);refine Sz1 h7 ?_;rw[Zp (by omega)];refine Sz2 h7 fa ?_;refine Qa hP (CV hr (by omega)) rfl rfl rfl ?_;refine Sz2 h7 fa ?_;refine Qb (fun hz=>?_) (fun hz=>?_)
  ·have sX:¬rv n a d=0:=fun h=>hz (gG.2 h);refine Sz2 h7 fa ?_;refine Qa hP (u5 hr (by omega)) rfl rfl rfl ?_;refine Sz2 h7 fa ?_;rw[Q9 (f:=PV.term) (y:=(rv n a d,m)) (xs:=([]:List Tm)) (ty':=54) (fz:=false) Tz0 cH (by omega) (n:=0) rfl (by omega) (by omega)];refine Sz2 h7 fa ?_;rw[mN (f:=PV.term) (xs:=([]:List Tm)++[(rv n a d,m)]) (ys:=p) Tz0 (by simp<;>omega) (by omega) (by omega) (by omega)];refine eQ ?_;refine Qd ?_ rfl;rw[Kae (by simp<;>omega),jq,if_neg sX,Fu];simp
  ·have sX:rv n a d=0:=gG.1 (Decidable.not_not.1 hz);refine Sz2 h7 fa ?_;rw[mN (f:=PV.term) (xs:=([]:List Tm)) (ys:=p) Tz0 (by simp<;>omega) (by omega) (by omega) (by omega)];refine eQ ?_;refine Qd ?_ rfl;rw[Kae (by simp<;>omega),jq,if_pos sX,lf]
theorem SK{n:Bool}{a d:List Nat}{k:Nat}(hr:Raw k n a d)(hk:k<=2^32):Qc Tryz.prog 25 [PV.rr n a d] (· =PV.aj (dm (rv n a d))):=by
 have fE:=(GX (p:=[]) (m:=[]) (K:=1) (E:=1) (PB.nil _ _) trivial (by simp[NZ]) hr hk ⟨by simp,by simp,by simp⟩ (by simp) (by omega) (by omega) (by simp)).le (args':=[.aa,PV.rr n a d,.aa]) ⟨trivial,Qy _,trivial,trivial⟩;have e:jq [] (rv n a d) []=dm (rv n a d):=by rw[jq,pG];rfl
 rw[e]at fE;refine Qf Qo Tryz.func25 rfl ajS (by simp[KP]) fun C hP=>?_;simp only[KP,Zo,Zg,Zm,Zc,Zf,Zl,Zh,Zs,Zi,Zb,Zk,Zn,Zu,Zq,Zr,Zz];refine Sz0 ?_;refine Qa hP fE rfl rfl rfl ?_;refine Sz0 ?_;exact Qd rfl rfl
theorem Yw{a m:List Int}(bC:a.length<2^42)(wy:m.length<2^42):Qc Tryz.prog 182 [PV.mono a,PV.mono m] (· = .bool (xM a m)):=by
 refine Qf Qo Tryz.func182 rfl agn (by simp[KG]) fun C hP=>?_;simp only[KG,Zo,Zg,Zm,Zc,Zf,Zl,Zh,Zs,Zi,Zb,Zk,Zn,Zu,Zq,Zr,Zz];refine Sz0 ?_;refine Qw (by repeat (first|exact Qr|exact Qk|exact Ql|exact Qm|exact Qn|apply Qj|apply Qq|apply Qx|apply Q5|apply Q6|apply Qi|apply Q2)) [(4,19)] [] (fun n J hp=>∃i,n=a.length-i/\i<=a.length/\(∀j,j<i->eN a j=eN m j)/\J 5= .int .i64 (i:Nat)) a.length ?_ ?_
 ·refine⟨0,rfl,by omega,by omega,?_⟩;refine Sz0 ?_;rfl
 rintro _ J h ⟨i,rfl,hi,h1,h5⟩;refine Sz1 h5 ?_;refine Qb (fun hg=>?_) (fun hg=>?_)
 ·have aB:i<a.length:=by omega
  have he:=fj aB;generalize hx:a[i]=x at *
  refine Sz2 h5 hx ?_;refine Qa hP (nN wy) rfl rfl rfl ?_;refine Sz2 h5 hx ?_;refine Qb (fun hc=>?_) (fun hc=>?_)
  ·refine Sz0 ?_;refine Qd (congrArg PV.bool ?_) rfl;cases hz:xM a m with
   |false=>rfl
   |true=>rw[C0]at hz;have:=hz i aB;rw[he]at this;exact absurd this hc
  ·refine Sz1 h5 ?_;refine Qg (a.length-(i+1)) (by omega) ⟨i+1,rfl,by omega,fun j hj=>?_,?_⟩
   ·by_cases dW:j=i
    ·subst dW;rw[he];exact Decidable.not_not.1 hc
    ·exact h1 j (by omega)
   ·exact Tz0
 ·obtain rfl:i=a.length:=by omega
  refine Sz0 ?_;exact Qd (congrArg PV.bool (C0.2 h1).symm) rfl
theorem zw{p:List Tm}{E:Nat}(hp:∀t∈p,MB E t.2)(bV:p.length<=2^36):Qc Tryz.prog 135 [PV.aj p] (· = .bool (bh p)):=by
 have bad:(∃t∈p,∃x∈t.2,1048576<x)->bh p=true:=fun⟨t,ht,x,hx,h⟩=>by
  unfold bh;have:(p.any fun t=>t.2.any fun x=>decide (1048576<x))=true:=by rw[Ka2];exact⟨t,ht,by rw[Ka2];exact⟨x,hx,decide_eq_true h⟩⟩
  rw[this,Kdb]
 refine Qf Qo Tryz.func135 rfl agl (by simp[JP]) fun C hP=>?_;simp only[JP,Zo,Zg,Zm,Zc,Zf,Zl,Zh,Zs,Zi,Zb,Zk,Zn,Zu,Zq,Zr,Zz];refine Sz0 ?_;refine Qw (by repeat (first|exact Qr|exact Qk|exact Ql|exact Qm|exact Qn|apply Qj|apply Qq|apply Qx|apply Q5|apply Q6|apply Qi|apply Q2)) [(2,29)] [] (fun n J hp=>∃i,n=p.length-i/\i<=p.length/\(∀t∈p.take i,∀x∈t.2,¬1048576<x)/\J 3= .int .i64 (i:Nat)) p.length ?_ ?_
 ·refine⟨0,rfl,by omega,by simp,?_⟩;refine Sz0 ?_;rfl
 rintro _ J h ⟨i,rfl,hi,h1,h3⟩;refine Sz1 h3 ?_;refine Qb (fun hg=>?_) (fun hg=>?_)
 ·have aB:i<p.length:=by omega
  have aV:=hp _ (Kag aB);have eo:=Kag aB;have bj:p.take (i+1)=p.take i++[p[i]]:=Kah aB;generalize hx:p[i]=x at *
  have mh:=aV.len;refine Sz2 h3 hx ?_;refine Qw (by repeat (first|exact Qr|exact Qk|exact Ql|exact Qm|exact Qn|apply Qj|apply Qq|apply Qx|apply Q5|apply Q6|apply Qi|apply Q2)) [(2,2),(4,4),(11,29)] [] (fun n J hp=>∃j,n=x.2.length-j/\j<=x.2.length/\(∀y∈x.2.take j,¬1048576<y)/\J 4= .int .i64 (j:Nat)) x.2.length ?_ ?_
  ·refine⟨0,rfl,by omega,by simp,?_⟩;refine Sz0 ?_;rfl
  rintro _ J2 h2 ⟨j,rfl,hj,h4,h5⟩;refine Sz3 h3 h5 hx ?_;refine Qb (fun fF=>?_) (fun fF=>?_)
  ·have fG:j<x.2.length:=by omega
   have ko:=Kag fG;have BO:x.2.take (j+1)=x.2.take j++[x.2[j]]:=Kah fG;generalize hy:x.2[j]=y at *
   refine Sz4 h3 h5 hx hy ?_;refine Qb (fun hc=>?_) (fun hc=>?_)
   ·refine Sz0 ?_;exact Qd (congrArg PV.bool (bad ⟨x,eo,y,ko,hc⟩).symm) rfl
   ·refine Sz1 h5 ?_;refine Qg (x.2.length-(j+1)) (by omega) ⟨j+1,rfl,by omega,?_,?_⟩
    ·rw[BO];intro z hz;rcases KaT.1 hz with hz|hz
     ·exact h4 z hz
     ·simp only[KaL]at hz;subst hz;exact hc
    ·exact Tz0
  ·rw[Kae (by omega)]at h4;refine Sz2 h3 h5 ?_;simp (disch:=decide) only[jR,mM];refine Qg (p.length-(i+1)) (by omega) ⟨i+1,rfl,by omega,?_,?_⟩
   ·rw[bj];intro z hz;rcases KaT.1 hz with hz|hz
    ·exact h1 z hz
    ·simp only[KaL]at hz;subst hz;exact h4
   ·exact Tz0
 ·obtain rfl:i=p.length:=by omega
  rw[Kar]at h1;refine Sz0 ?_;refine Qd (congrArg PV.bool ?_) rfl;have:(p.any fun t=>t.2.any fun x=>decide (1048576<x))=false:=by rw[Kbs];intro t ht;rw[Bool.not_eq_true,Kbs];intro x hx;simpa using h1 t ht x hx
  rw[bh,this,Bool.or_false];exact decide_eq_decide.2 ⟨fun h=>by omega,fun h=>by omega⟩
theorem Hi{a:Rat}{k:Nat}(h:rs a<=k)(hk:k<=2^32):Qc Tryz.prog 25 [PV.rat a] (· =PV.aj (dm a)):=by
 have:=SK (iG h) hk
 rwa[gY]at this
theorem Ux{p:List Tm}{K E:Nat}(hp:PB K E p)(hn:az p)(hK:K<=2^32)(hE:E<=1048576)(hl:p.length<=2^36):Qc Tryz.prog 168 [PV.aj p] (· =PV.aj p):=by
 refine Qf Qo Tryz.func168 rfl agm (by simp[Kq]) fun C hP=>?_;simp only[Kq,Zo,Zg,Zm,Zc,Zf,Zl,Zh,Zs,Zi,Zb,Zk,Zn,Zu,Zq,Zr,Zz];refine Sz0 ?_;refine rZ 3 4 Tz0 ?_;refine Qw (by repeat (first|exact Qr|exact Qk|exact Ql|exact Qm|exact Qn|apply Qj|apply Qq|apply Qx|apply Q5|apply Q6|apply Qi|apply Q2)) [(3,32)] [] (fun n J hp=>∃i,n=p.length-i/\i<=p.length/\J 3=PV.aj (p.take i)/\J 4= .int .i64 (i:Nat)) p.length ?_ ?_
 ·refine⟨0,rfl,by omega,?_⟩;refine Sz0 ?_;simp
 rintro _ J h ⟨i,rfl,hi,h3,h4⟩;refine Sz2 h3 h4 ?_;refine Qb (fun hg=>?_) (fun hg=>?_)
 ·have aB:i<p.length:=by omega
  have aV:=hp.get aB;have bj:=Q88 hn aB;have WU:=hn.take i;have yK:=hp.take i;have rh:(p.take i).length<=p.length:=List.length_take_le' _ _;generalize hx:p[i]=x at *
  have mh:=aV.m.len;have cx:fK x.2=true:=HX aV.m hE aV.l;have FL:gZ x.2=x.2:=DP aV.l;have hz:=YT x.2;rw[FL,cx,if_pos rfl]at hz;have hcx:=aV.c;refine Sz3 h3 h4 hx ?_;refine Qa hP (SQ (by omega)) rfl rfl rfl ?_;rw[FL,if_pos cx];refine Sz3 h3 h4 hx ?_;refine Qa hP (Yw (m:=x.2) (by omega) (by omega)) rfl rfl rfl ?_;rw[hz];refine Sz3 h3 h4 hx ?_;have fE:=GX (K:=K) (E:=E) (k:=K) yK WU.s WU.z (iG (q:=x.1) (k:=K) (by omega)) (by omega) aV.m aV.l (by omega) (by omega) (by omega);rw[gY,bj]at fE;refine Qa hP fE rfl rfl rfl ?_;refine Sz3 h3 h4 hx ?_;refine Qg (p.length-(i+1)) (by omega) ⟨i+1,rfl,by omega,?_⟩;exact Tz0
 ·obtain rfl:i=p.length:=by omega
  rw[Kar]at h3;refine Sz1 h3 ?_;exact Qd rfl rfl
theorem Pf{a:List Int}{v:Int}{E:Nat}(h:MB E a):Qc Tryz.prog 99 [PV.mono a,.int .i64 v] (· = .int .i64 (eN a (cS v))):=by
 have hl:=h.len;have:=Tw (a:=a) (v:=v) (by omega);have e:(if v<0 then 0 else eN a v.toNat)=eN a (cS v):=by
  unfold cS;split
  ·rw[fA (by omega)]
  ·rfl
 rwa[e]at this
theorem xa{p:List Tm}{v:Int}{K E:Nat}(hp:PB K E p)(bV:p.length<=2^36):Qc Tryz.prog 76 [PV.aj p,.int .i64 v] (· = .int .i64 (Q3 p (cS v))):=by
 refine Qf Qo Tryz.func76 rfl aj7 (by simp[LG]) fun C hP=>?_;simp only[LG,Zo,Zg,Zm,Zc,Zf,Zl,Zh,Zs,Zi,Zb,Zk,Zn,Zu,Zq,Zr,Zz];refine Sz0 ?_;refine Qw (by repeat (first|exact Qr|exact Qk|exact Ql|exact Qm|exact Qn|apply Qj|apply Qq|apply Qx|apply Q5|apply Q6|apply Qi|apply Q2)) [(5,21)] [] (fun n J hp=>∃i,n=p.length-i/\i<=p.length/\J 5= .int .i64 (Q3 (p.take i) (cS v))/\J 6= .int .i64 (i:Nat)) p.length ?_ ?_
 ·refine⟨0,rfl,by omega,?_⟩;refine Sz0 ?_;exact⟨rfl,rfl⟩
 rintro _ J h ⟨i,rfl,hi,h5,h6⟩;refine Sz2 h5 h6 ?_;refine Qb (fun hg=>?_) (fun hg=>?_)
 ·have aB:i<p.length:=by omega
  have aV:=hp.get aB;have bj:=Ov (v:=cS v) aB;generalize hx:p[i]=x at *
  have mh:=aV.m.len;refine Sz3 h5 h6 hx ?_;refine Qa hP (Pf aV.m) rfl rfl rfl ?_;refine Sz3 h5 h6 hx ?_;refine Qg (p.length-(i+1)) (by omega) ⟨i+1,rfl,by omega,?_⟩;rw[bj];exact Tz0
 ·obtain rfl:i=p.length:=by omega
  rw[Kar]at h5;refine Sz1 h5 ?_;exact Qd rfl rfl
theorem ahO{v:Int}{i:Nat}(h:i<64):((i:Int)=v)↔cS v=i:=by unfold cS;split<;>omega
theorem Qxd{a:List Int}{v:Int}{E:Nat}(ha:MB E a)(hE:E<=1048576):Qc Tryz.prog 167 [PV.mono a,.int .i64 v] (· =PV.mono (eO a (cS v))):=by
 have mh:=ha.len;have cx:=aes ha hE (cS v);have cJ:(a.set (cS v) 0).length=a.length:=by simp
 refine Qf Qo Tryz.func167 rfl agt (by simp[Kp]) fun C hP=>?_;simp only[Kp,Zo,Zg,Zm,Zc,Zf,Zl,Zh,Zs,Zi,Zb,Zk,Zn,Zu,Zq,Zr,Zz];refine Sz0 ?_;refine kZ 5 900 1 3 (by omega) Tz0 ?_;refine Qw (by repeat (first|exact Qr|exact Qk|exact Ql|exact Qm|exact Qn|apply Qj|apply Qq|apply Qx|apply Q5|apply Q6|apply Qi|apply Q2)) [(5,25)] [17,18,24,25,900] (fun n J hp=>∃i out,n=a.length-i/\i<=a.length/\out=(a.set (cS v) 0).take i/\J 5= .ms 900 out.length/\J 6= .int .i64 (i:Nat)/\hp 900=some ⟨1,3,iV out,false⟩) a.length ?_ ?_
 ·refine⟨0,[],rfl,by omega,rfl,?_⟩;refine Sz0 ?_;rfl
 rintro _ J h ⟨i,out,rfl,hi,je,h5,h6,hh⟩;have fN:out.length=i:=by rw[je,KaH];omega
 refine Sz2 h5 h6 ?_;refine Qb (fun hg=>?_) (fun hg=>?_)
 ·have aB:i<a.length:=by omega
  have bj:(a.set (cS v) 0).take (i+1)=(a.set (cS v) 0).take i++[if cS v=i then 0 else a[i]]:=by rw[Kah (by omega),Kdg]
  have re:=ahO (v:=v) (i:=i) (by omega);generalize hx:a[i]=x at *
  refine Sz3 h5 h6 hx ?_;refine Qb (fun hc=>?_) (fun hc=>?_)
  ·rw[if_pos (re.1 hc)]at bj;refine Sz3 h5 h6 hx ?_;rw[Q9 (f:=fun(x:Int)=>.int .i64 x) (y:=(0:Int)) (xs:=out) (ty':=3) (fz:=false) (Tz1 hh) cH (by omega) rfl (by omega) (by omega)];refine Sz3 h5 h6 hx ?_;refine Qg (a.length-(i+1)) (by omega) ⟨i+1,out++[(0:Int)],rfl,by omega,by rw[bj,je],?_⟩;simp+decide (disch:=first|omega|rfl|(simp+decide only[go_sem,Kap]<;>rfl)|fail) only[go_sem,Kap]
  ·rw[if_neg (fun h=>hc (re.2 h))]at bj;refine Sz3 h5 h6 hx ?_;rw[Q9 (f:=fun(x:Int)=>.int .i64 x) (y:=x) (xs:=out) (ty':=3) (fz:=false) (Tz1 hh) cH (by omega) rfl (by omega) (by omega)];refine Sz3 h5 h6 hx ?_;refine Qg (a.length-(i+1)) (by omega) ⟨i+1,out++[x],rfl,by omega,by rw[bj,je],?_⟩;simp+decide (disch:=first|omega|rfl|(simp+decide only[go_sem,Kap]<;>rfl)|fail) only[go_sem,Kap]
 ·obtain rfl:i=a.length:=by omega
  rw[Kae (by omega)]at je;subst je;refine Sz2 h5 hh ?_;refine iQ hP (SQ (a:=a.set (cS v) 0) (by omega)) (by simp+decide (disch:=try exact E1 hh) only[go_sem,hh,et,Kax,KaC,Kau,KaA,Kak];simp[Kae]) rfl ?_;rw[show gZ (a.set (cS v) 0)=eO a (cS v)from rfl,if_pos cx];refine Sz0 ?_;exact Qd rfl rfl
theorem GV{p:List Tm}{v n:Int}{K E:Nat}(hp:PB K E p)(np:az p)(bV:p.length<=2^36)(hE:E<=1048576)(hK:K<=2^32):Qc Tryz.prog 136 [PV.aj p,.int .i64 v,.int .i64 n] (· =PV.aj (aZ p (cS v) n)):=by
 have aq3:=qA p (cS v) n;refine Qf Qo Tryz.func136 rfl ags (by simp[JQ]) fun C hP=>?_;simp only[JQ,Zo,Zg,Zm,Zc,Zf,Zl,Zh,Zs,Zi,Zb,Zk,Zn,Zu,Zq,Zr,Zz];refine Sz0 ?_;refine kZ 7 900 4 54 (by omega) Tz0 ?_;refine Qw (by repeat (first|exact Qr|exact Qk|exact Ql|exact Qm|exact Qn|apply Qj|apply Qq|apply Qx|apply Q5|apply Q6|apply Qi|apply Q2)) [(7,39)] [38,39,900] (fun m J hp=>∃i,m=p.length-i/\i<=p.length/\J 7= .ms 900 (aZ (p.take i) (cS v) n).length/\J 8= .int .i64 (i:Nat)/\hp 900=some ⟨4,54,(aZ (p.take i) (cS v) n).map PV.term,false⟩) p.length ?_ ?_
 ·refine⟨0,rfl,by omega,?_⟩;refine Sz0 ?_;exact⟨rfl,rfl,rfl⟩
 rintro _ J h ⟨i,rfl,hi,h7,h8,hh⟩;refine Sz2 h7 h8 ?_;refine Qb (fun hg=>?_) (fun hg=>?_)
 ·have aB:i<p.length:=by omega
  have aV:=hp.get aB;have sF:=TY (v:=cS v) (n:=n) aB;have fo:=qA (p.take i) (cS v) n;rw[KaH]at fo;generalize hx:p[i]=x at *
  have mh:=aV.m.len;refine Sz3 h7 h8 hx ?_;refine Qa hP (Pf aV.m) rfl rfl rfl ?_;refine Sz3 h7 h8 hx ?_;refine Qb (fun hc=>?_) (fun hc=>?_)
  ·rw[if_pos hc]at sF;refine Sz3 h7 h8 hx ?_;refine Qa hP (Qxd aV.m hE) rfl rfl rfl ?_;refine Sz3 h7 h8 hx ?_;rw[Q9 (f:=PV.term) (y:=(x.1,eO x.2 (cS v))) (xs:=aZ (p.take i) (cS v) n) (ty':=54) (fz:=false) (Tz1 hh) cH (by omega) rfl (by omega) (by omega)];refine Sz3 h7 h8 hx ?_;refine Qg (p.length-(i+1)) (by omega) ⟨i+1,rfl,by omega,?_⟩;rw[sF];simp+decide (disch:=first|omega|rfl|(simp+decide only[go_sem,Kap]<;>rfl)|fail) only[go_sem,Kap]
  ·rw[if_neg hc,Kak]at sF;refine Sz3 h7 h8 hx ?_;refine Qg (p.length-(i+1)) (by omega) ⟨i+1,rfl,by omega,?_⟩;rw[sF];exact Tz2 h7 hh
 ·obtain rfl:i=p.length:=by omega
  rw[Kar]at h7 hh;refine Sz2 h7 hh ?_;refine iQ hP (Ux (qJ hp (cS v) n) (jU np (cS v) n) hK hE (by omega)) (by simp+decide (disch:=try exact E1 hh) only[go_sem,hh,et,Kax,KaC,Kau,KaA,Kak];simp[Kae]) rfl ?_;refine Sz0 ?_;exact Qd rfl rfl
theorem Yx{v n:Nat}(hv:v<64)(hn:n<=1048576):Qc Tryz.prog 137 [.int .i64 v,.int .i64 n] (· =PV.aj (pg v n)):=by
 have ri:v<(List.replicate (v+1) (0:Int)).length:=by simp
 have jM:=l4;refine Qf Qo Tryz.func137 rfl agu (by simp[JR]) fun C hP=>?_;simp only[JR,Zo,Zg,Zm,Zc,Zf,Zl,Zh,Zs,Zi,Zb,Zk,Zn,Zu,Zq,Zr,Zz];refine Sz0 ?_;refine dM (fun h0=>?_) (fun h0=>?_)
 ·obtain rfl:n=0:=by omega
  refine Sz0 ?_;refine Qa hP (vb (by omega) (by omega)) rfl rfl rfl ?_;have hC:=SK (k:=4) (iG (q:=((1:Int):Rat)) (k:=4) (by rw[show((1:Int):Rat)=1 from rfl];omega)) (by omega);rw[gY]at hC;refine Sz0 ?_;refine Qa hP hC rfl rfl rfl ?_;refine Sz0 ?_;exact Qd rfl rfl
 refine Sz0 ?_;refine Qb (fun h1=>by omega) (fun _=>?_);refine Sz0 ?_;rw[Il v n (by omega),KbD];have dX:(cM v n).length=v+1:=by simp[cM]
 refine Qa hP (vb (by omega) (by omega)) rfl rfl rfl ?_;generalize hc:((1:Int):Rat)=c;have oV:c=1:=hc.symm;refine Sz0 ?_;rw[Sg (p:=PV.rat c) (e:=1) (ty:=3) (fz:=false) (xs:=iV (cM v n)) rfl Tz0 (by simp[dX,iV])];have jf:pg v n=[(c,cM v n)]:=by rw[pg,if_neg (by omega),oV]
 have oU:=RS (v:=v) (n:=n) hv;have lD:=Ra v n;rw[jf]at oU lD⊢;refine Sz0 ?_;refine iQ hP (Ux oU lD (by omega) hn (by simp)) Cy rfl ?_;refine Sz0 ?_;exact Qd rfl rfl
theorem Qy2{f g:List Tm}{v d N K E M:Nat}(nf:az f)(ng:az g)(bg:PB K E g)(hv:v<64)(iw:g≠[])(hd:Q3 g v=d)(hN:Q3 f v<N)(pX:bh f=false)
  (hb:∀k,k<N->PB K E (aD g v d f k).1/\PB K E (aD g v d f k).2) (yM:g.length<=M) (hM:M<=2^12) (hK:M*(K+K+2)+(M*(K+K+2)+(K+2))<=2^31) (VK:4000*(K+K)+(K+K)<=2^32) (l9:2<=K) (Mr:1<=M) (hE:E<=1048576) (Bc:0<N) (hN2:N<=2^30):
  Qc Tryz.prog 78 [PV.aj f,PV.aj g,.int .i64 v] (· =jG g v d N [] f 0):=by
 have hlen:∀ {p:List Tm},bh p=false->p.length<=4000:=fun {p} h=>by unfold bh at h;simp only[Kcf,decide_eq_false_iff_not]at h;omega
 have hKM:K+K+2<=M*(K+K+2):=by have:=Kaf (K+K+2) Mr;omega
 have ans:M*(K+K)<=M*(K+K+2):=Ka7 _ (by omega);have Bl:PB K E f:=(hb 0 Bc).2;have MV:∀t∈f,MB E t.2:=fun t ht=>(Bl t ht).m;have aor:=hlen pX;have fo:(aZ g v d).length<=M:=Kaw (qA _ _ _) yM;have iK:=qJ bg v (d:Int);have Fm:=jU ng v (d:Int);refine Qf Qo Tryz.func78 rfl aj9 (by simp[LI]) fun C hP=>?_;simp only[LI,Zo,Zg,Zm,Zc,Zf,Zl,Zh,Zs,Zi,Zb,Zk,Zn,Zu,Zq,Zr,Zz];simp+decide (disch:=first|omega|rfl|(simp+decide only[go_sem]<;>rfl)|fail) only[go_sem,b9,bO];refine dM (fun h1=>by omega) (fun _=>?_);simp+decide (disch:=first|omega|rfl|(simp+decide only[go_sem]<;>rfl)|fail) only[go_sem,b9,bO];refine Qb (fun h1=>by omega) (fun _=>?_);simp+decide (disch:=first|omega|rfl|(simp+decide only[go_sem]<;>rfl)|fail) only[go_sem,b9,bO];refine Qb (fun h1=>absurd (Kas.1 (by omega)) iw) (fun _=>?_);simp+decide (disch:=first|omega|rfl|(simp+decide only[go_sem]<;>rfl)|fail) only[go_sem,b9,bO];refine Qa hP (zw MV (by omega)) rfl rfl rfl ?_;rw[pX];simp+decide (disch:=first|omega|rfl|(simp+decide only[go_sem]<;>rfl)|fail) only[go_sem,b9,bO];refine Qa hP (xa bg (by omega)) rfl rfl rfl ?_;rw[mO,hd];simp+decide (disch:=first|omega|rfl|(simp+decide only[go_sem]<;>rfl)|fail) only[go_sem,b9,bO];refine Qa hP (GV bg ng (by omega) hE (by omega)) rfl rfl rfl ?_;rw[mO];simp+decide (disch:=first|omega|rfl|(simp+decide only[go_sem]<;>rfl)|fail) only[go_sem,b9,bO];refine rZ 12 4 (by simp+decide (disch:=first|omega|rfl|(simp+decide only[go_sem]<;>rfl)|fail) only[go_sem,b9,bO]) ?_;refine Qw (by repeat (first|exact Qr|exact Qk|exact Ql|exact Qm|exact Qn|apply Qj|apply Qq|apply Qx|apply Q5|apply Q6|apply Qi|apply Q2)) [(6,9),(12,16),(36,78)] [] (fun m J hp=>∃k,m=N-k/\k<=N/\((aD g v d f k).2≠[]->Q3 (aD g v d f k).2 v<N-k)/\(∃K' E',PB K' E' (aD g v d f k).2/\E'<=2^30)/\bh (aD g v d f k).1=false/\bh (aD g v d f k).2=false/\jG g v d (N-k) (aD g v d f k).1 (aD g v d f k).2 k=jG g v d N [] f 0/\
  J 12=PV.aj (aD g v d f k).1/\J 13=PV.aj (aD g v d f k).2/\J 14= .int .i64 (k:Nat)) N ?_ ?_
 ·refine⟨0,rfl,by omega,fun _=>by simpa[aD]using hN,⟨K,E,Bl,by omega⟩,rfl,pX,rfl,?_⟩;simp+decide (disch:=first|omega|rfl|(simp+decide only[go_sem]<;>rfl)|fail) only[go_sem,b9,bO];exact⟨rfl,rfl,rfl⟩
 rintro _ J h ⟨k,rfl,hk,MR,⟨K',E',Bn,hE'⟩,me,gB,dz,bP,bX,cI⟩;obtain⟨n1,n2⟩:=r7 (v:=v) (d:=d) nf ng k;have aG:aD g v d f (k+1)=(gJ (aD g v d f k).1 (aD g v d f k).2 g v (Q3 (aD g v d f k).2 v).toNat d,ej (aD g v d f k).2 g v (Q3 (aD g v d f k).2 v).toNat d):=rfl;have MH:=hb k;generalize(aD g v d f k).1=q at *
 generalize(aD g v d f k).2=r at *
 have sQ:=hlen me;have lE:=hlen gB;simp+decide (disch:=first|omega|rfl|(simp+decide only[go_sem,bP,bX,cI]<;>rfl)|fail) only[go_sem,b9,bO,bP,bX,cI];refine gw (fun hg=>?_) (fun hg=>?_)
 ·have jg:r≠[]:=fun h=>by rw[h]at hg;simp at hg
  have qi:=oI Bn jg v;have an9:=MR jg;have M5:k<N:=by omega
  obtain⟨b1,b2⟩:=MH M5;obtain⟨n,hn⟩:∃n:Nat,Q3 r v=n:=⟨(Q3 r v).toNat,by omega⟩
  have Nb:n<=E:=by have:=(oI b2 jg v).2;omega
  simp+decide (disch:=first|omega|rfl|(simp+decide only[go_sem,bP,bX,cI]<;>rfl)|fail) only[go_sem,b9,bO,bP,bX,cI];refine Qa hP (xa b2 (by omega)) rfl rfl rfl ?_;rw[mO,hn];simp+decide (disch:=first|omega|rfl|(simp+decide only[go_sem,bP,bX,cI]<;>rfl)|fail) only[go_sem,b9,bO,bP,bX,cI];refine Qb (fun hc=>?_) (fun hc=>?_)
  ·have hdn:d<=n:=by omega
   have e1:(n:Int)-(d:Int)=((n-d:Nat):Int):=by omega
   have Fp:=Gp n2 ng b2 jg hd (by omega);rw[hn,KbD]at aG Fp;obtain⟨q1,q2,q3,q4,q5,q6,q7,q8⟩:=Py (n:=n) (d:=d) b1 b2 bg yM hv Nb;have o5:=jU n2 v (n:Int);have hpb:=qJ b2 v (n:Int);have gS:=qA r v (n:Int);have nb:az (c8 r v n d):=rQ o5 v (n-d);have hKr:r.length*(K+K)<=4000*(K+K):=Kaf _ lE;have hKq:q.length*(K+K)<=4000*(K+K):=Kaf _ sQ;have Fa:g.length*(K+2+(K+2))<=M*(K+K+2)+M*2:=by
    have:=Kaf (K+2+(K+2)) yM;have e:K+2+(K+2)=K+K+2+2:=by omega
    rw[e]at this⊢;rw[<-Nat.mul_add];exact this
   have me:r.length*(aZ g v d).length<=4000*2^12:=KaK lE (by omega);have gB:q.length*(aZ g v d).length<=4000*2^12:=KaK sQ (by omega);have Bz:g.length*(c8 r v n d).length<=2^12*4000:=KaK (by omega) (by omega);have BA:M*r.length<=2^12*4000:=KaK (by omega) lE;have hl5:M*q.length<=2^12*4000:=KaK (by omega) sQ;have hl6:r.length*M<=4000*2^12:=KaK lE hM;have hB:gH (aZ r v n) v (n-d)=c8 r v n d:=rfl;have pl:=ahc v (n-d);have pb:=RS (v:=v) (n:=n-d) hv;have pn:=Ra v (n-d);have BH:=acH o5 v (n-d);have api:=Yx hv (n:=n-d) (by omega);generalize pg v (n-d)=y at *
   simp+decide (disch:=first|omega|rfl|(simp+decide only[go_sem,bP,bX,cI]<;>rfl)|fail) only[go_sem,b9,bO,bP,bX,cI];refine Qa hP (xa b2 (by omega)) rfl rfl rfl ?_;rw[mO,hn];simp+decide (disch:=first|omega|rfl|(simp+decide only[go_sem,bP,bX,cI]<;>rfl)|fail) only[go_sem,b9,bO,bP,bX,cI];refine Qa hP (GV b2 n2 (by omega) hE (by omega)) rfl rfl rfl ?_;rw[mO];simp+decide (disch:=first|omega|rfl|(simp+decide only[go_sem,bP,bX,cI,e1]<;>rfl)|fail) only[go_sem,b9,bO,bP,bX,cI,e1];refine Qa hP api rfl rfl rfl ?_;simp+decide (disch:=first|omega|rfl|(simp+decide only[go_sem,bP,bX,cI]<;>rfl)|fail) only[go_sem,b9,bO,bP,bX,cI];refine Qa hP (rK hpb (pb.mono l9 (by omega)) o5.z pn.z (by omega) (by omega) (by omega) (by rw[pl];omega) (by rw[pl];omega)) rfl rfl rfl ?_;rw[vr o5 pn,BH,hB];simp+decide (disch:=first|omega|rfl|(simp+decide only[go_sem,bP,bX,cI]<;>rfl)|fail) only[go_sem,b9,bO,bP,bX,cI];refine Qa hP (rK iK b1 Fm.z n1.z (by omega) (by omega) (by omega) (by omega) (by omega)) rfl rfl rfl ?_;rw[vr Fm n1];simp+decide (disch:=first|omega|rfl|(simp+decide only[go_sem,bP,bX,cI]<;>rfl)|fail) only[go_sem,b9,bO,bP,bX,cI];refine Qa hP (C2 (K:=M*(K+K+2)) (E:=E+E) (q3.mono (by omega) (Kac _)) (q1.mono (by omega) (Kac _)) (by omega) (by omega) (by omega) (by omega)) rfl rfl rfl ?_;rw[show Q8 (Q4 (aZ g v d) q) (c8 r v n d)=gJ q r g v n d from rfl];simp+decide (disch:=first|omega|rfl|(simp+decide only[go_sem,bP,bX,cI]<;>rfl)|fail) only[go_sem,b9,bO,bP,bX,cI];refine Qa hP (rK iK b2 Fm.z n2.z (by omega) (by omega) (by omega) (by omega) (by omega)) rfl rfl rfl ?_;rw[vr Fm n2];simp+decide (disch:=first|omega|rfl|(simp+decide only[go_sem,bP,bX,cI]<;>rfl)|fail) only[go_sem,b9,bO,bP,bX,cI];refine Qa hP (rK (q1.mono (Kac _) (by omega)) (bg.mono (K':=K+2) (E':=E+E) (by omega) (by omega)) nb.z ng.z (by omega) (by omega) (by omega) (by omega) (by omega)) rfl rfl rfl ?_;rw[vr nb ng];simp+decide (disch:=first|omega|rfl|(simp+decide only[go_sem,bP,bX,cI]<;>rfl)|fail) only[go_sem,b9,bO,bP,bX,cI];refine Qa hP (C3 (K:=M*(K+K+2)) (E:=E+E+E) (q5.mono (by omega) (by omega)) q7 (dN nb.s ng.s).z (by omega) (by omega) (by omega) (by omega) (by omega)) rfl rfl rfl ?_;rw[show fV (Q4 (aZ g v d) r) (Q4 (c8 r v n d) g)=ej r g v n d from rfl];have bQ:PB (M*(K+K)+(K+2)) (E+E) (gJ q r g v n d):=tI _ _ q3 q1;have lQ:(gJ q r g v n d).length<=2^33:=Kaw (tk _ _) (by omega);have bR:PB (M*(K+K)+(M*(K+K+2)+2)) (E+E+E) (ej r g v n d):=tI _ _ (q5.mono (Kac _) (by omega)) (xK q7);have lR:(ej r g v n d).length<=2^33:=Kaw (tk _ _) (by have:=uW (Q4 (c8 r v n d) g) (-1);have e:(lj (Q4 (c8 r v n d) g)).length=(b8 (Q4 (c8 r v n d) g) (-1)).length:=rfl;omega);have rm:¬(r=[]∨Q3 r v<d):=fun h=>h.elim jg (fun h=>by omega);have fM:=Hg (g:=g) (k:=k) (q:=q) (fuel:=N-(k+1)) rm;have gl:=G5 (g:=g) (k:=k) (q:=q) (fuel:=N-(k+1)) rm;rw[show N-(k+1)+1=N-k by omega,hn,KbD,dz]at fM gl;generalize gJ q r g v n d=q' at *
   generalize ej r g v n d=r' at *
   simp+decide (disch:=first|omega|rfl|(simp+decide only[go_sem,bP,bX,cI]<;>rfl)|fail) only[go_sem,b9,bO,bP,bX,cI];refine Qa hP (zw (fun t ht=>(bQ t ht).m) (by omega)) rfl rfl rfl ?_;cases iy:bh q'
   ·simp+decide (disch:=first|omega|rfl|(simp+decide only[go_sem,bP,bX,cI]<;>rfl)|fail) only[go_sem,b9,bO,bP,bX,cI];refine Qa hP (zw (fun t ht=>(bR t ht).m) (by omega)) rfl rfl rfl ?_;cases ri:bh r'
    ·have MP:=fM (by simp[iy,ri]);simp+decide (disch:=first|omega|rfl|(simp+decide only[go_sem,bP,bX,cI]<;>rfl)|fail) only[go_sem,b9,bO,bP,bX,cI];refine Qg (N-(k+1)) (by omega) ⟨k+1,rfl,by omega,?_⟩;rw[aG];refine⟨fun _=>?_,⟨_,_,bR,by omega⟩,iy,ri,MP.symm,?_⟩
     ·show Q3 r' v<(N:Int)-((k+1:Nat):Int)
      omega
     simp+decide (disch:=first|omega|rfl|(simp+decide only[go_sem]<;>rfl)|fail) only[go_sem,b9,bO]
    ·have wb:=gl (.inr ri);simp+decide (disch:=first|omega|rfl|(simp+decide only[go_sem]<;>rfl)|fail) only[go_sem,b9,bO];exact tW wb rfl rfl rfl rfl pH pH (Qy _) (Qy _)
   ·have wb:=gl (.inl iy);simp+decide (disch:=first|omega|rfl|(simp+decide only[go_sem]<;>rfl)|fail) only[go_sem,b9,bO];exact tW wb rfl rfl rfl rfl pH pH (Qy _) (Qy _)
  ·have fM:=zE (g:=g) (q:=q) (k:=k) (show r=[]∨Q3 r v<d from .inr (by omega)) (N-k);rw[dz]at fM;simp+decide (disch:=first|omega|rfl|(simp+decide only[go_sem,bP,bX,cI]<;>rfl)|fail) only[go_sem,b9,bO,bP,bX,cI];exact tW fM rfl rfl rfl rfl (Qy _) (Qy _) (Qy _) (Qy _)
 ·have jg:r=[]:=Kas.1 (by omega);have fM:=zE (g:=g) (q:=q) (k:=k) (show r=[]∨Q3 r v<d from .inl jg) (N-k);rw[dz]at fM;simp+decide (disch:=first|omega|rfl|(simp+decide only[go_sem,bP,bX,cI]<;>rfl)|fail) only[go_sem,b9,bO,bP,bX,cI];exact tW fM rfl rfl rfl rfl (Qy _) (Qy _) (Qy _) (Qy _)
end Go.Proofs.YtdjoomkeehihmaaGreat
namespace Go.FW
open Go
theorem Uy(x y:Int)(hy:y≠0):mkRat (zv (decide (x<0) !=decide (y<0)) (ah x.natAbs)) y.natAbs=(x:Rat)/(y:Rat):=by
 rw[Kb2,r9,<-Rat.intCast_natCast];have h3:(y:Rat)≠0:=by rw[Ne,Ka6];exact hy
 by_cases cX:y<0
 ·have e2:(((y.natAbs:Nat):Int):Rat)= -(y:Rat):=by rw[<-Rat.intCast_neg];congr 1;omega
  have e1:(if(decide (x<0) !=decide (y<0))=true then -(x.natAbs:Int)else x.natAbs)= -x:=by by_cases hx:x<0<;>simp[hx,cX]<;>omega
  rw[e1,e2,Kc5];grind
 ·have e2:(((y.natAbs:Nat):Int):Rat)=(y:Rat):=by congr 1;omega
  have e1:(if(decide (x<0) !=decide (y<0))=true then -(x.natAbs:Int)else x.natAbs)=x:=by by_cases hx:x<0<;>simp[hx,cX]<;>omega
  rw[e1,e2]
end Go.FW
