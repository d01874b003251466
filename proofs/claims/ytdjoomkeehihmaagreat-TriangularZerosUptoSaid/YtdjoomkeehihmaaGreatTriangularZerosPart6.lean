/- Part 6 of the proof of TriangularZeros: W1, FwSM, FwUC. Own lemmas; no conditions. -/
import Derived.Test.YtdjoomkeehihmaaGreatTriangularZerosPart5
set_option maxHeartbeats 1000000
set_option linter.unusedSimpArgs false
set_option linter.unusedVariables false
set_option linter.unnecessarySimpa false
set_option maxRecDepth 100000
namespace Go.Proofs.YtdjoomkeehihmaaGreat
open Go Go.FW
def cS(v:Int):Nat:=if v<0 then 64 else v.toNat
theorem mO(n:Nat):cS n=n:=by unfold cS;rw[if_neg (by omega)];omega
theorem I4{a:List Int}{v:Int}{E:Nat}(h:MB E a):Qc Tryz.prog 124 [PV.mono a,.int .i64 v] (· = .int .i64 (eN a (cS v))):=by
 have hl:=h.len;have:=Ur (a:=a) (v:=v) (by omega);have e:(if v<0 then 0 else eN a v.toNat)=eN a (cS v):=by
  unfold cS;split
  ·rw[fA (by omega)]
  ·rfl
 rwa[e]at this
theorem Q85{m:List Int}{v:Nat}(hl:m.getLast? ≠some 0)(h:eN m v=0):eO m v=m:=
 pF (De m v) hl fun i=>by
  rw[vt];split
  ·rename_i e;rw[e,h]
  ·rfl
theorem uU{p:List Tm}{v:Int}{K E:Nat}(hp:PB K E p)(bV:p.length<=2^36):Qc Tryz.prog 67 [PV.aj p,.int .i64 v] (· = .int .i64 (Q3 p (cS v))):=by
 refine Qf Qo Tryz.func67 rfl aj4 (by simp[Lx]) fun C hP=>?_;simp only[Lx,Zo,Zg,Zm,Zc,Zf,Zl,Zh,Zs,Zi,Zb,Zk,Zn,Zu,Zq,Zr,Zz];refine Sz0 ?_;refine Qw (by repeat (first|exact Qr|exact Qk|exact Ql|exact Qm|exact Qn|apply Qj|apply Qq|apply Qx|apply Q5|apply Q6|apply Qi)) [(5,5),(7,7),(10,20)] [7] (fun n J hp=>∃i,n=p.length-i/\i<=p.length/\J 5= .int .i64 (Q3 (p.take i) (cS v))/\J 10= .int .i64 (i:Nat)) p.length ?_ ?_
 ·refine⟨0,rfl,by omega,?_⟩;refine Sz0 ?_;exact⟨rfl,rfl⟩
 rintro _ J h ⟨i,rfl,hi,h5,bK⟩;refine Sz2 h5 bK ?_;refine Qb (fun hg=>?_) (fun hg=>?_)
 ·have aB:i<p.length:=by omega
  have aV:=hp.get aB;have bj:=Ov (v:=cS v) aB;generalize hx:p[i]=x at *
  have mh:=aV.m.len;refine Sz3 h5 bK hx ?_;refine Qa hP (I4 aV.m) rfl rfl rfl ?_;refine Sz3 h5 bK hx ?_;refine Qg (p.length-(i+1)) (by omega) ⟨i+1,rfl,by omega,?_⟩;rw[bj];exact Tz0
 ·obtain rfl:i=p.length:=by omega
  rw[Kar]at h5;refine Sz1 h5 ?_;exact Qd rfl rfl
theorem Qw7{m:List Int}{v:Int}{E:Nat}(hm:MB E m)(hl:m.getLast? ≠some 0):Qc Tryz.prog 154 [PV.mono m,.int .i64 v] (· =PV.mono (eO m (cS v))):=by
 have mh:=hm.len;refine Qf Qo Tryz.func154 rfl agp (by simp[Kb]) fun C hP=>?_;simp only[Kb,Zo,Zg,Zm,Zc,Zf,Zl,Zh,Zs,Zi,Zb,Zk,Zn,Zu,Zq,Zr,Zz];refine Sz0 ?_;refine Qa hP (I4 hm) rfl rfl rfl ?_;refine Sz0 ?_;refine Qb (fun h0=>?_) (fun h0=>?_)
 ·refine Sz0 ?_;exact Qd (congrArg PV.mono (Q85 hl (by omega)).symm) rfl
 ·obtain⟨n,rfl⟩:∃n:Nat,v=n:=by refine⟨v.toNat,?_⟩;apply Decidable.byContradiction;intro hn;rw[cS,if_pos (by omega),fA (by omega)]at h0;omega
  rw[mO]at h0⊢;generalize n=v at *
  have cJ:(m.set v 0).length=m.length:=by simp
  have kt:v<m.length:=by apply Decidable.byContradiction;intro hn;rw[fA (by omega)]at h0;omega
  refine Sz0 ?_;refine OS 5 yt ?_;refine eQ ?_;rw[show List.take m.length (iV (m.set v 0))=iV (m.set v 0)from Kae (by simp[iV])];refine Qw (by repeat (first|exact Qr|exact Qk|exact Ql|exact Qm|exact Qn|apply Qj|apply Qq|apply Qx|apply Q5|apply Q6|apply Qi)) [(6,6),(19,30)] [] (fun n J hp=>n<=m.length/\kI (m.set v 0) n=eO m v/\J 6= .int .i64 n) m.length ?_ ?_
  ·refine⟨Kac _,by rw[eO,gZ,cJ],?_⟩;exact Tz0
  rintro n J _ ⟨hn,hc,h6⟩;refine Sz1 h6 ?_;refine gw (fun hg=>?_) (fun hg=>?_)
  ·obtain _|n:=n
   ·omega
   have e:((n+1:Nat):Int)-1=n:=by omega
   simp only[kI]at hc;simp+decide (disch:=try exact D2 h6 e) only[go_sem,h6,e];refine Qb (fun hz=>?_) (fun hz=>?_)
   ·rw[if_pos (by simp[hz,show n<m.length by omega])]at hc;refine Sz2 h6 e ?_;refine Qg n (by omega) ⟨by omega,hc,?_⟩;exact Tz0
   ·rw[if_neg (by simpa[show n<m.length by omega]using hz)]at hc;refine Sz2 h6 e ?_;exact Qd (congrArg PV.mono hc) rfl
  ·obtain rfl:n=0:=by omega
   refine Sz1 h6 ?_;exact Qd (congrArg PV.mono hc) rfl
theorem GS{p:List Tm}{v n:Int}{K E:Nat}(hp:PB K E p)(bV:p.length<=2^36):Qc Tryz.prog 106 [PV.aj p,.int .i64 v,.int .i64 n] (· =PV.aj (aZ p (cS v) n)):=by
 refine Qf Qo Tryz.func106 rfl agq (by simp[Jn]) fun C hP=>?_;simp only[Jn,Zo,Zg,Zm,Zc,Zf,Zl,Zh,Zs,Zi,Zb,Zk,Zn,Zu,Zq,Zr,Zz];refine Sz0 ?_;refine kZ 7 900 4 54 (by omega) Tz0 ?_;refine Qw (by repeat (first|exact Qr|exact Qk|exact Ql|exact Qm|exact Qn|apply Qj|apply Qq|apply Qx|apply Q5|apply Q6|apply Qi)) [(7,7),(9,9),(12,32)] [9,30,31,900] (fun m J hp=>∃i,m=p.length-i/\i<=p.length/\J 7= .ms 900 (aZ (p.take i) (cS v) n).length/\J 12= .int .i64 (i:Nat)/\hp 900=some ⟨4,54,(aZ (p.take i) (cS v) n).map PV.term,false⟩) p.length ?_ ?_
 ·refine⟨0,rfl,by omega,?_⟩;refine Sz0 ?_;exact⟨rfl,rfl,rfl⟩
 rintro _ J h ⟨i,rfl,hi,h7,bP,hh⟩;refine Sz2 h7 bP ?_;refine Qb (fun hg=>?_) (fun hg=>?_)
 ·have aB:i<p.length:=by omega
  have aV:=hp.get aB;have sF:=TY (v:=cS v) (n:=n) aB;have fo:=qA (p.take i) (cS v) n;rw[KaH]at fo;generalize hx:p[i]=x at *
  have mh:=aV.m.len;refine Sz3 h7 bP hx ?_;refine Qa hP (I4 aV.m) rfl rfl rfl ?_;refine Sz3 h7 bP hx ?_;refine Qb (fun hc=>?_) (fun hc=>?_)
  ·rw[if_pos hc]at sF;refine Sz3 h7 bP hx ?_;refine Qa hP (Qw7 aV.m aV.l) rfl rfl rfl ?_;refine Sz3 h7 bP hx ?_;rw[Q9 (f:=PV.term) (y:=(x.1,eO x.2 (cS v))) (xs:=aZ (p.take i) (cS v) n) (ty':=54) (fz:=false) (Tz1 hh) cH (by omega) rfl (by omega) (by omega)];refine Sz3 h7 bP hx ?_;refine Qg (p.length-(i+1)) (by omega) ⟨i+1,rfl,by omega,?_⟩;rw[sF];simp+decide (disch:=first|omega|rfl|(simp+decide only[go_sem,Kap]<;>rfl)|fail) only[go_sem,Kap]
  ·rw[if_neg hc,Kak]at sF;refine Sz3 h7 bP hx ?_;refine Qg (p.length-(i+1)) (by omega) ⟨i+1,rfl,by omega,?_⟩;rw[sF];exact Tz2 h7 hh
 ·obtain rfl:i=p.length:=by omega
  rw[Kar]at h7 hh;refine lk h7 hh ?_;exact Qd (by simp[Kae]) rfl
theorem GN{p:List Tm}{E:Nat}(hp:∀t∈p,MB E t.2)(bV:p.length<=2^36):Qc Tryz.prog 105 [PV.aj p] (· = .bool (bh p)):=by
 have bad:(∃t∈p,∃x∈t.2,1048576<x)->bh p=true:=fun⟨t,ht,x,hx,h⟩=>by
  unfold bh;have:(p.any fun t=>t.2.any fun x=>decide (1048576<x))=true:=by rw[Ka2];exact⟨t,ht,by rw[Ka2];exact⟨x,hx,decide_eq_true h⟩⟩
  rw[this,Kdb]
 refine Qf Qo Tryz.func105 rfl ago (by simp[Jm]) fun C hP=>?_;simp only[Jm,Zo,Zg,Zm,Zc,Zf,Zl,Zh,Zs,Zi,Zb,Zk,Zn,Zu,Zq,Zr,Zz];refine Sz0 ?_;refine Qb (fun hl=>?_) (fun hl=>?_)
 ·refine Sz0 ?_;exact Qd (by rw[bh,decide_eq_true (by omega),KcN]) rfl
 refine Sz0 ?_;refine Qw (by repeat (first|exact Qr|exact Qk|exact Ql|exact Qm|exact Qn|apply Qj|apply Qq|apply Qx|apply Q5|apply Q6|apply Qi)) [(2,2),(4,4),(6,6),(12,26)] [4] (fun n J hp=>∃i,n=p.length-i/\i<=p.length/\(∀t∈p.take i,∀x∈t.2,¬1048576<x)/\J 12= .int .i64 (i:Nat)) p.length ?_ ?_
 ·refine⟨0,rfl,by omega,by simp,?_⟩;refine Sz0 ?_;rfl
 rintro _ J h ⟨i,rfl,hi,h1,bP⟩;refine Sz1 bP ?_;refine Qb (fun hg=>?_) (fun hg=>?_)
 ·have aB:i<p.length:=by omega
  have eo:=Kag aB;have WQ:=hp _ eo;have bj:p.take (i+1)=p.take i++[p[i]]:=Kah aB;generalize hx:p[i]=x at *
  have mh:=WQ.len;refine Sz2 bP hx ?_;refine Qw (by repeat (first|exact Qr|exact Qk|exact Ql|exact Qm|exact Qn|apply Qj|apply Qq|apply Qx|apply Q5|apply Q6|apply Qi)) [(2,2),(6,6),(19,25)] [] (fun n J hp=>∃j,n=x.2.length-j/\j<=x.2.length/\(∀y∈x.2.take j,¬1048576<y)/\J 19= .int .i64 (j:Nat)) x.2.length ?_ ?_
  ·refine⟨0,rfl,by omega,by simp,?_⟩;refine Sz0 ?_;rfl
  rintro _ J2 h' ⟨j,rfl,hj,h2,jt⟩;refine Sz2 jt hx ?_;refine Qb (fun fF=>?_) (fun fF=>?_)
  ·have fG:j<x.2.length:=by omega
   have M':=Kag fG;have BO:x.2.take (j+1)=x.2.take j++[x.2[j]]:=Kah fG;generalize hy:x.2[j]=y at *
   refine Sz3 jt hx hy ?_;refine Qb (fun hb=>?_) (fun hb=>?_)
   ·refine Sz0 ?_;exact Qd (by rw[bad ⟨x,eo,y,M',hb⟩]) rfl
   ·refine Sz1 jt ?_;refine Qg (x.2.length-(j+1)) (by omega) ⟨j+1,rfl,by omega,fun z hz=>?_,?_⟩
    ·rw[BO,KaT,KaL]at hz;rcases hz with hz|rfl
     ·exact h2 z hz
     ·exact hb
    ·exact Tz0
  ·obtain rfl:j=x.2.length:=by omega
   rw[Kar]at h2;refine Sz1 bP ?_;simp (disch:=decide) only[jR,mM];refine Qg (p.length-(i+1)) (by omega) ⟨i+1,rfl,by omega,fun t ht=>?_,?_⟩
   ·rw[bj,KaT,KaL]at ht;rcases ht with ht|rfl
    ·exact h1 t ht
    ·exact h2
   ·exact Tz0
 ·obtain rfl:i=p.length:=by omega
  rw[Kar]at h1;refine Sz0 ?_;refine Qd (congrArg PV.bool ?_) rfl;rw[bh,decide_eq_false (by omega),Kcn,eq_comm,Kbs];intro t ht;rw[Ka2];rintro⟨y,hy,hd⟩;exact h1 t ht y hy (of_decide_eq_true hd)
end Go.Proofs.YtdjoomkeehihmaaGreat
namespace Go.FW
open Go
variable {C : Ctx} {fr : Fr} {hp : HP} {w : World} {K R : Qh}
end Go.FW
namespace Go.FW
open Go
variable {C : Ctx} {fr : Fr} {hp : HP} {K : Qh}
def Gx(R:PV->Prop)(p q s t:PV):Prop:=(p.aE=true/\q.aE=true/\s.aE=true/\t.aE=true)/\∃r,PV.y5 (.au [p,q,s,t]) r/\R r
theorem b9{a b c d:Nat}{Rr:PV->Prop}:gf [.t a,.t b,.t c,.t d] Rr fr hp=Gx Rr (aK hp (fr a)) (aK hp (fr b)) (aK hp (fr c)) (aK hp (fr d)):=by simp[gf,Gx,kC,jP]
theorem tW{p q s t p' q' s' t' r:PV}(h:r= .au [p',q',s',t'])(d1:p.aE=true)(d2:q.aE=true)(d3:s.aE=true)(d4:t.aE=true)(h1:PV.le p p')(h2:PV.le q q')(h3:PV.le s s')(h4:PV.le t t'):Gx (· =r) p q s t:=
 ⟨⟨d1,d2,d3,d4⟩,r,by subst h;exact⟨h1,h2,h3,h4,trivial⟩,rfl⟩
theorem bO{p q s t:PV}{d:Nat}(h:t.aE=true):kJ (.au [p,q,s,t]) 3 d fr hp K=K (af fr d t) hp:=by simp[kJ,h]
theorem Sg{z:List PV}{o n o2 n2 d β m e ty:Nat}{p:PV}{xs:List PV}{fz:Bool}(h:p.flat=true)(hb:hp β=some ⟨e,ty,xs,fz⟩)(hm:m=xs.length)(hB:cd β=false:=by decide):
  kK z [(o,n,p),(o2,n2,.ms β m)] d fr hp K=((p.cells.length=n/\o+n<=z.length)/\(1=n2/\o2+n2<=z.length)/\K (af fr d (.agg (ir z [(o,p.cells),(o2,[.sl e xs])]))) (cf hp [β])):=by
 obtain⟨s1,s2,s3⟩:=qD (hp:=hp) h;have s4:aK hp (.ms β m)= .sl e xs:=by simp[aK,cE,vA hB,hb,hm]
 have r4:(PV.ms β m).refs=[β]:=rfl;have c4:(PV.sl e xs).cells=[.sl e xs]:=rfl;have d4:(PV.sl e xs).aE=true:=rfl;have i1:p.kS=false:=Ha h;have i2:(PV.ms β m).kS=false:=by simp[cd]at hB;simp[PV.kS];omega
 unfold kK AJ Gi;rw[if_neg (by simp[i1,i2])];apply propext;simp only[KaP,Kdh,or_false,forall_eq_or_imp,forall_eq,s1,s3,s4,d4,c4,KaW,Kbj,true_and,Kbd,Kbu,Kau,KaA,s2,r4,KaN,Kak,and_assoc,Kbe]
theorem Q87(q:List Tm):Q4 [] q=[]:=by rw[List.eq_nil_iff_forall_not_mem];intro t ht;obtain⟨a,ha,_⟩:=vu ht;cases ha
theorem QY{v n K:Nat}(hv:v<64)(h0:0<n)(hK:2<=K):PB K n [((1:Rat),cM v n)]:=fun t ht=>by
 obtain rfl:t=(1,cM v n):=by simpa using ht
 have:=l4;exact⟨by show rs 1+1<=K;omega,I3 hv,Dv h0⟩
def ajE(l:List (List Tm))(v:Nat):Nat->List Tm
 |0=>[]
 |n+1=>Q8 (ajE l v n) (gH (l.getD n []) v n)
theorem SE{p:List Tm}{v n K E:Nat}(hp:PB K E p)(hv:v<64):PB (K+2) (E+n) (gH p v n)/\(gH p v n).length<=p.length:=by
 unfold gH;split
 ·exact⟨hp.mono (by omega) (by omega),Kac _⟩
 ·obtain⟨h1,h2⟩:=xm hp (QY (n:=n) hv (by omega) (Kac 2));refine⟨h1.mono ?_ (Kac _),by simpa using h2⟩;have:min p.length [((1:Rat),cM v n)].length*(K+2)<=1*(K+2):=Kaf _ (by simp;omega);omega
def aD(g:List Tm)(v d:Nat)(f:List Tm):Nat->List Tm×List Tm
 |0=>([],f)
 |k+1=>(gJ (aD g v d f k).1 (aD g v d f k).2 g v (Q3 (aD g v d f k).2 v).toNat d,ej (aD g v d f k).2 g v (Q3 (aD g v d f k).2 v).toNat d)
theorem r7{g:List Tm}{v d:Nat}{f:List Tm}(hf:az f)(hg:az g):∀k,az (aD g v d f k).1/\az (aD g v d f k).2
 |0=>⟨az.nil,hf⟩
 |k+1=>by obtain⟨h1,h2⟩:=r7 (v:=v) (d:=d) hf hg k;exact⟨aha h1 h2 hg,ahb h2 hg⟩
theorem zE{g:List Tm}{v d:Nat}{q r:List Tm}{k:Nat}(h:r=[]∨Q3 r v<d):∀fuel,jG g v d fuel q r k= .au [PV.aj q,PV.aj r,.int .i64 k,.int .i64 0]
 |0=>rfl
 |n+1=>by rw[jG,if_pos h]
theorem G5{g:List Tm}{v d:Nat}{q r:List Tm}{k fuel:Nat}(h:¬(r=[]∨Q3 r v<d))(h2:bh (gJ q r g v (Q3 r v).toNat d)=true∨bh (ej r g v (Q3 r v).toNat d)=true):
  jG g v d (fuel+1) q r k= .au [PV.aj [],PV.aj [],.int .i64 0,.int .i64 4]:=by rw[jG,if_neg h,if_pos h2]
theorem Hg{g:List Tm}{v d:Nat}{q r:List Tm}{k fuel:Nat}(h:¬(r=[]∨Q3 r v<d))(h2:¬(bh (gJ q r g v (Q3 r v).toNat d)=true∨bh (ej r g v (Q3 r v).toNat d)=true)):
  jG g v d (fuel+1) q r k=jG g v d fuel (gJ q r g v (Q3 r v).toNat d) (ej r g v (Q3 r v).toNat d) (k+1):=by rw[jG,if_neg h,if_neg h2]
theorem Py{q r g:List Tm}{v n d K E M:Nat}(hq:PB K E q)(hr:PB K E r)(hg:PB K E g)(hM:g.length<=M)(hv:v<64)(hn:n<=E):
  PB (K+2) (E+E) (c8 r v n d)/\(c8 r v n d).length<=r.length/\
  PB (M*(K+K)) (E+E) (Q4 (aZ g v d) q)/\(Q4 (aZ g v d) q).length<=M*q.length/\
  PB (M*(K+K)) (E+E) (Q4 (aZ g v d) r)/\(Q4 (aZ g v d) r).length<=M*r.length/\
  PB (M*(K+K+2)) (E+E+E) (Q4 (c8 r v n d) g)/\(Q4 (c8 r v n d) g).length<=r.length*M:=by
 have fo:(aZ g v d).length<=M:=Kaw (qA _ _ _) hM;have iK:=qJ hg v (d:Int);obtain⟨b1,b2⟩:=SE (n:=n-d) (qJ hr v (n:Int)) hv;have Vt:(c8 r v n d).length<=r.length:=Kaw b2 (qA _ _ _);have Jf:PB (K+2) (E+E) (c8 r v n d):=b1.mono (Kac _) (by omega);obtain⟨m1,m2⟩:=xm iK hq;obtain⟨m3,m4⟩:=xm iK hr;obtain⟨m5,m6⟩:=xm Jf hg;refine⟨Jf,Vt,m1.mono (Kaf _ (by omega)) (Kac _),Kaw m2 (Kaf _ fo),m3.mono (Kaf _ (by omega)) (Kac _),Kaw m4 (Kaf _ fo),m5.mono ?_ (by omega),Kaw m6 (KaK Vt hM)⟩;have e:K+2+K=K+K+2:=by omega
 rw[e];exact Kaf _ (by omega)
end Go.FW
namespace Go.FW
open Go
theorem TZ:∀ {p:List Tm},fi p->∀n,fi (p.take n)
 |_,_,0=>trivial
 | [],_,n+1=>trivial
 |t::p,h,n+1=>⟨fun s hs=>h.1 s (Kbc hs),TZ h.2 n⟩
theorem az.take{p:List Tm}(h:az p)(n:Nat):az (p.take n):=⟨fun t ht=>h.c t (Kbc ht),fun t ht=>h.z t (Kbc ht),TZ h.s n⟩
theorem Ua{p:List Tm}(h:az p):xU [] p=p:=by rw[acG az.nil h,pG]
theorem Q88{p:List Tm}(h:az p){i:Nat}(hi:i<p.length):jq (p.take i) p[i].1 p[i].2=p.take (i+1):=by
 have e:=Ua (az.take h (i+1))
 rwa[Kah hi,Zt,Ua (az.take h i),<-List.take_succ_eq_append_getElem hi]at e
theorem QZ:az [((1:Rat),([]:List Int))]:=az.one (show(1:Rat)≠0 by decide) (by simp)
theorem Q89{p:List Tm}(h:az p):Q4 p [(1,[])]=p:=by refine r6 (dN h.s QZ.s) h fun φ=>?_;rw[gU];refine jT fun t ht=>?_;rw[dF,gX,Kdl,Rat.add_zero,tC (h.c t ht)]
def pg(v n:Nat):List Tm:=if n=0 then [(1,[])]else [(1,cM v n)]
theorem Ra(v n:Nat):az (pg v n):=by
 unfold pg;split
 ·exact QZ
 ·exact Px (by omega)
theorem RS{v n:Nat}(hv:v<64):PB 2 n (pg v n):=by
 unfold pg;split
 ·intro t ht;obtain rfl:t=(1,[]):=by simpa using ht
  have:=l4;exact⟨by show rs 1+1<=2;omega,⟨by simp,by simp,by simp⟩,by simp⟩
 ·exact QY hv (by omega) (Kac 2)
theorem ahc(v n:Nat):(pg v n).length=1:=by unfold pg;split<;>rfl
theorem acH{p:List Tm}(h:az p)(v n:Nat):Q4 p (pg v n)=gH p v n:=by
 unfold pg gH;split
 ·exact Q89 h
 ·rfl
end Go.FW
