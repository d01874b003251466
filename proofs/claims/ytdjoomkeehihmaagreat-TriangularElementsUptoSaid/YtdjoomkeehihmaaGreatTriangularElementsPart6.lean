/- Part 6 of the proof of TriangularElements: W1, FwSM, FwUC. Own lemmas; no conditions. -/
import Derived.Test.YtdjoomkeehihmaaGreatTriangularElementsPart5
set_option maxHeartbeats 1000000
set_option linter.unusedSimpArgs false
set_option linter.unusedVariables false
set_option linter.unnecessarySimpa false
set_option maxRecDepth 100000
namespace Go.Proofs.YtdjoomkeehihmaaGreat
open Go Go.FW
def cS(v:Int):Nat:=if v<0 then 64 else v.toNat
theorem mH(n:Nat):cS n=n:=by unfold cS;rw[if_neg (by omega)];omega
theorem IE{a:List Int}{v:Int}{E:Nat}(h:MB E a):Qc Tryz.prog 124 [PV.mono a,.int .i64 v] (· = .int .i64 (eN a (cS v))):=by
 have hl:=h.len;have:=Tt (a:=a) (v:=v) (by omega);have e:(if v<0 then 0 else eN a v.toNat)=eN a (cS v):=by
  unfold cS;split
  ·rw[fB (by omega)]
  ·rfl
 rwa[e]at this
theorem Q8q{m:List Int}{v:Nat}(hl:m.getLast? ≠some 0)(h:eN m v=0):eG m v=m:=
 pC (CW m v) hl fun i=>by
  rw[vk];split
  ·rename_i e;rw[e,h]
  ·rfl
theorem uR{p:List Tm}{v:Int}{K E:Nat}(hp:PB K E p)(bW:p.length<=2^36):Qc Tryz.prog 67 [PV.aj p,.int .i64 v] (· = .int .i64 (Q3 p (cS v))):=by
 refine Qf Qj Tryz.func67 rfl aiH (by simp[K9]) fun C hP=>?_;simp only[K9,Zo,Zg,Zm,Zc,Zf,Zl,Zh,Zs,Zi,Zb,Zk,Zn,Zu,Zq,Zr,Zz];refine Sz0 ?_;refine Qz (by repeat (first|exact Qs|exact Ql|exact Qm|exact Qn|exact Qo|apply Qk|apply Qr|apply Qw|apply Q5|apply Q6|apply Qi)) [(5,5),(7,7),(10,20)] [7] (fun n J hp=>∃i,n=p.length-i/\i<=p.length/\J 5= .int .i64 (Q3 (p.take i) (cS v))/\J 10= .int .i64 (i:Nat)) p.length ?_ ?_
 ·refine⟨0,rfl,by omega,?_⟩;refine Sz0 ?_;exact⟨rfl,rfl⟩
 rintro _ J h ⟨i,rfl,hi,h5,bI⟩;refine Sz2 h5 bI ?_;refine Qb (fun hg=>?_) (fun hg=>?_)
 ·have aC:i<p.length:=by omega
  have bc:=hp.get aC;have bk:=NH (v:=cS v) aC;generalize hx:p[i]=x at *
  have ov:=bc.m.len;refine Sz3 h5 bI hx ?_;refine Qa hP (IE bc.m) rfl rfl rfl ?_;refine Sz3 h5 bI hx ?_;refine Qh (p.length-(i+1)) (by omega) ⟨i+1,rfl,by omega,?_⟩;rw[bk];exact Tz0
 ·obtain rfl:i=p.length:=by omega
  rw[Kar]at h5;refine Sz1 h5 ?_;exact Qd rfl rfl
theorem Qwy{m:List Int}{v:Int}{E:Nat}(hm:MB E m)(hl:m.getLast? ≠some 0):Qc Tryz.prog 154 [PV.mono m,.int .i64 v] (· =PV.mono (eG m (cS v))):=by
 have ov:=hm.len;refine Qf Qj Tryz.func154 rfl agh (by simp[JO]) fun C hP=>?_;simp only[JO,Zo,Zg,Zm,Zc,Zf,Zl,Zh,Zs,Zi,Zb,Zk,Zn,Zu,Zq,Zr,Zz];refine Sz0 ?_;refine Qa hP (IE hm) rfl rfl rfl ?_;refine Sz0 ?_;refine Qb (fun h0=>?_) (fun h0=>?_)
 ·refine Sz0 ?_;exact Qd (congrArg PV.mono (Q8q hl (by omega)).symm) rfl
 ·obtain⟨n,rfl⟩:∃n:Nat,v=n:=by refine⟨v.toNat,?_⟩;apply Decidable.byContradiction;intro hn;rw[cS,if_pos (by omega),fB (by omega)]at h0;omega
  rw[mH]at h0⊢;generalize n=v at *
  have cJ:(m.set v 0).length=m.length:=by simp
  have kd:v<m.length:=by apply Decidable.byContradiction;intro hn;rw[fB (by omega)]at h0;omega
  refine Sz0 ?_;refine OA 5 yc ?_;refine eK ?_;rw[show List.take m.length (iP (m.set v 0))=iP (m.set v 0)from Kae (by simp[iP])];refine Qz (by repeat (first|exact Qs|exact Ql|exact Qm|exact Qn|exact Qo|apply Qk|apply Qr|apply Qw|apply Q5|apply Q6|apply Qi)) [(6,6),(19,30)] [] (fun n J hp=>n<=m.length/\kA (m.set v 0) n=eG m v/\J 6= .int .i64 n) m.length ?_ ?_
  ·refine⟨Kac _,by rw[eG,gO,cJ],?_⟩;exact Tz0
  rintro n J _ ⟨hn,hc,h6⟩;refine Sz1 h6 ?_;refine ga (fun hg=>?_) (fun hg=>?_)
  ·obtain _|n:=n
   ·omega
   have e:((n+1:Nat):Int)-1=n:=by omega
   simp only[kA]at hc;simp+decide (disch:=try exact D2 h6 e) only[go_sem,h6,e];refine Qb (fun hz=>?_) (fun hz=>?_)
   ·rw[if_pos (by simp[hz,show n<m.length by omega])]at hc;refine Sz2 h6 e ?_;refine Qh n (by omega) ⟨by omega,hc,?_⟩;exact Tz0
   ·rw[if_neg (by simpa[show n<m.length by omega]using hz)]at hc;refine Sz2 h6 e ?_;exact Qd (congrArg PV.mono hc) rfl
  ·obtain rfl:n=0:=by omega
   refine Sz1 h6 ?_;exact Qd (congrArg PV.mono hc) rfl
theorem Gu{p:List Tm}{v n:Int}{K E:Nat}(hp:PB K E p)(bW:p.length<=2^36):Qc Tryz.prog 106 [PV.aj p,.int .i64 v,.int .i64 n] (· =PV.aj (aW p (cS v) n)):=by
 refine Qf Qj Tryz.func106 rfl agi (by simp[I3]) fun C hP=>?_;simp only[I3,Zo,Zg,Zm,Zc,Zf,Zl,Zh,Zs,Zi,Zb,Zk,Zn,Zu,Zq,Zr,Zz];refine Sz0 ?_;refine kt 7 900 4 54 (by omega) Tz0 ?_;refine Qz (by repeat (first|exact Qs|exact Ql|exact Qm|exact Qn|exact Qo|apply Qk|apply Qr|apply Qw|apply Q5|apply Q6|apply Qi)) [(7,7),(9,9),(12,32)] [9,30,31,900] (fun m J hp=>∃i,m=p.length-i/\i<=p.length/\J 7= .ms 900 (aW (p.take i) (cS v) n).length/\J 12= .int .i64 (i:Nat)/\hp 900=some ⟨4,54,(aW (p.take i) (cS v) n).map PV.term,false⟩) p.length ?_ ?_
 ·refine⟨0,rfl,by omega,?_⟩;refine Sz0 ?_;exact⟨rfl,rfl,rfl⟩
 rintro _ J h ⟨i,rfl,hi,h7,bO,hh⟩;refine Sz2 h7 bO ?_;refine Qb (fun hg=>?_) (fun hg=>?_)
 ·have aC:i<p.length:=by omega
  have bc:=hp.get aC;have sw:=TA (v:=cS v) (n:=n) aC;have ff:=qx (p.take i) (cS v) n;rw[KaF]at ff;generalize hx:p[i]=x at *
  have ov:=bc.m.len;refine Sz3 h7 bO hx ?_;refine Qa hP (IE bc.m) rfl rfl rfl ?_;refine Sz3 h7 bO hx ?_;refine Qb (fun hc=>?_) (fun hc=>?_)
  ·rw[if_pos hc]at sw;refine Sz3 h7 bO hx ?_;refine Qa hP (Qwy bc.m bc.l) rfl rfl rfl ?_;refine Sz3 h7 bO hx ?_;rw[Q9 (f:=PV.term) (y:=(x.1,eG x.2 (cS v))) (xs:=aW (p.take i) (cS v) n) (ty':=54) (fz:=false) (Tz1 hh) cC (by omega) rfl (by omega) (by omega)];refine Sz3 h7 bO hx ?_;refine Qh (p.length-(i+1)) (by omega) ⟨i+1,rfl,by omega,?_⟩;rw[sw];simp+decide (disch:=first|omega|rfl|(simp+decide only[go_sem,Kan]<;>rfl)|fail) only[go_sem,Kan]
  ·rw[if_neg hc,Kak]at sw;refine Sz3 h7 bO hx ?_;refine Qh (p.length-(i+1)) (by omega) ⟨i+1,rfl,by omega,?_⟩;rw[sw];exact Tz2 h7 hh
 ·obtain rfl:i=p.length:=by omega
  rw[Kar]at h7 hh;refine kF h7 hh ?_;exact Qd (by simp[Kae]) rfl
theorem Gn{p:List Tm}{E:Nat}(hp:∀t∈p,MB E t.2)(bW:p.length<=2^36):Qc Tryz.prog 105 [PV.aj p] (· = .bool (bh p)):=by
 have bad:(∃t∈p,∃x∈t.2,1048576<x)->bh p=true:=fun⟨t,ht,x,hx,h⟩=>by
  unfold bh;have:(p.any fun t=>t.2.any fun x=>decide (1048576<x))=true:=by rw[Ka4];exact⟨t,ht,by rw[Ka4];exact⟨x,hx,decide_eq_true h⟩⟩
  rw[this,Kda]
 refine Qf Qj Tryz.func105 rfl agf (by simp[I2]) fun C hP=>?_;simp only[I2,Zo,Zg,Zm,Zc,Zf,Zl,Zh,Zs,Zi,Zb,Zk,Zn,Zu,Zq,Zr,Zz];refine Sz0 ?_;refine Qb (fun hl=>?_) (fun hl=>?_)
 ·refine Sz0 ?_;exact Qd (by rw[bh,decide_eq_true (by omega),KcM]) rfl
 refine Sz0 ?_;refine Qz (by repeat (first|exact Qs|exact Ql|exact Qm|exact Qn|exact Qo|apply Qk|apply Qr|apply Qw|apply Q5|apply Q6|apply Qi)) [(2,2),(4,4),(6,6),(12,26)] [4] (fun n J hp=>∃i,n=p.length-i/\i<=p.length/\(∀t∈p.take i,∀x∈t.2,¬1048576<x)/\J 12= .int .i64 (i:Nat)) p.length ?_ ?_
 ·refine⟨0,rfl,by omega,by simp,?_⟩;refine Sz0 ?_;rfl
 rintro _ J h ⟨i,rfl,hi,h1,bO⟩;refine Sz1 bO ?_;refine Qb (fun hg=>?_) (fun hg=>?_)
 ·have aC:i<p.length:=by omega
  have eC:=Kag aC;have VY:=hp _ eC;have bk:p.take (i+1)=p.take i++[p[i]]:=Kah aC;generalize hx:p[i]=x at *
  have ov:=VY.len;refine Sz2 bO hx ?_;refine Qz (by repeat (first|exact Qs|exact Ql|exact Qm|exact Qn|exact Qo|apply Qk|apply Qr|apply Qw|apply Q5|apply Q6|apply Qi)) [(2,2),(6,6),(19,25)] [] (fun n J hp=>∃j,n=x.2.length-j/\j<=x.2.length/\(∀y∈x.2.take j,¬1048576<y)/\J 19= .int .i64 (j:Nat)) x.2.length ?_ ?_
  ·refine⟨0,rfl,by omega,by simp,?_⟩;refine Sz0 ?_;rfl
  rintro _ J2 h' ⟨j,rfl,hj,h2,jk⟩;refine Sz2 jk hx ?_;refine Qb (fun fN=>?_) (fun fN=>?_)
  ·have fO:j<x.2.length:=by omega
   have MK:=Kag fO;have By:x.2.take (j+1)=x.2.take j++[x.2[j]]:=Kah fO;generalize hy:x.2[j]=y at *
   refine Sz3 jk hx hy ?_;refine Qb (fun hb=>?_) (fun hb=>?_)
   ·refine Sz0 ?_;exact Qd (by rw[bad ⟨x,eC,y,MK,hb⟩]) rfl
   ·refine Sz1 jk ?_;refine Qh (x.2.length-(j+1)) (by omega) ⟨j+1,rfl,by omega,fun z hz=>?_,?_⟩
    ·rw[By,KaV,KaO]at hz;rcases hz with hz|rfl
     ·exact h2 z hz
     ·exact hb
    ·exact Tz0
  ·obtain rfl:j=x.2.length:=by omega
   rw[Kar]at h2;refine Sz1 bO ?_;simp (disch:=decide) only[ks,nN];refine Qh (p.length-(i+1)) (by omega) ⟨i+1,rfl,by omega,fun t ht=>?_,?_⟩
   ·rw[bk,KaV,KaO]at ht;rcases ht with ht|rfl
    ·exact h1 t ht
    ·exact h2
   ·exact Tz0
 ·obtain rfl:i=p.length:=by omega
  rw[Kar]at h1;refine Sz0 ?_;refine Qd (congrArg PV.bool ?_) rfl;rw[bh,decide_eq_false (by omega),Kcn,eq_comm,KbC];intro t ht;rw[Ka4];rintro⟨y,hy,hd⟩;exact h1 t ht y hy (of_decide_eq_true hd)
end Go.Proofs.YtdjoomkeehihmaaGreat
namespace Go.FW
open Go
variable {C : Ctx} {fr : Fr} {hp : HP} {w : World} {K R : Qg}
end Go.FW
namespace Go.FW
open Go
variable {C : Ctx} {fr : Fr} {hp : HP} {K : Qg}
def Gd(R:PV->Prop)(p q s t:PV):Prop:=(p.aE=true/\q.aE=true/\s.aE=true/\t.aE=true)/\∃r,PV.yQ (.aw [p,q,s,t]) r/\R r
theorem b9{a b c d:Nat}{Rr:PV->Prop}:fV [.t a,.t b,.t c,.t d] Rr fr hp=Gd Rr (aK hp (fr a)) (aK hp (fr b)) (aK hp (fr c)) (aK hp (fr d)):=by simp[fV,Gd,ko,jL]
theorem tR{p q s t p' q' s' t' r:PV}(h:r= .aw [p',q',s',t'])(d1:p.aE=true)(d2:q.aE=true)(d3:s.aE=true)(d4:t.aE=true)(h1:PV.le p p')(h2:PV.le q q')(h3:PV.le s s')(h4:PV.le t t'):Gd (· =r) p q s t:=
 ⟨⟨d1,d2,d3,d4⟩,r,by subst h;exact⟨h1,h2,h3,h4,trivial⟩,rfl⟩
theorem bN{p q s t:PV}{d:Nat}(h:t.aE=true):kC (.aw [p,q,s,t]) 3 d fr hp K=K (af fr d t) hp:=by simp[kC,h]
theorem Ru{z:List PV}{o n o2 n2 d β m e ty:Nat}{p:PV}{xs:List PV}{fz:Bool}(h:p.flat=true)(hb:hp β=some ⟨e,ty,xs,fz⟩)(hm:m=xs.length)(hB:cd β=false:=by decide):
  kD z [(o,n,p),(o2,n2,.ms β m)] d fr hp K=((p.cells.length=n/\o+n<=z.length)/\(1=n2/\o2+n2<=z.length)/\K (af fr d (.agg (ij z [(o,p.cells),(o2,[.sl e xs])]))) (cf hp [β])):=by
 obtain⟨s1,s2,s3⟩:=qD (hp:=hp) h;have s4:aK hp (.ms β m)= .sl e xs:=by simp[aK,cF,vu hB,hb,hm]
 have r4:(PV.ms β m).refs=[β]:=rfl;have c4:(PV.sl e xs).cells=[.sl e xs]:=rfl;have d4:(PV.sl e xs).aE=true:=rfl;have i1:p.kO=false:=GO h;have i2:(PV.ms β m).kO=false:=by simp[cd]at hB;simp[PV.kO];omega
 unfold kD Au FQ;rw[if_neg (by simp[i1,i2])];apply propext;simp only[KaQ,Kdg,or_false,forall_eq_or_imp,forall_eq,s1,s3,s4,d4,c4,KaW,Kbk,true_and,Kba,Kbt,Kau,KaA,s2,r4,KaM,Kak,and_assoc,Kbd]
theorem Q8s(q:List Tm):Q4 [] q=[]:=by rw[List.eq_nil_iff_forall_not_mem];intro t ht;obtain⟨a,ha,_⟩:=vm ht;cases ha
theorem PE{v n K:Nat}(hv:v<64)(h0:0<n)(hK:2<=K):PB K n [((1:Rat),cM v n)]:=fun t ht=>by
 obtain rfl:t=(1,cM v n):=by simpa using ht
 have:=ob;exact⟨by show rs 1+1<=K;omega,ID hv,Dc h0⟩
def ajr(l:List (List Tm))(v:Nat):Nat->List Tm
 |0=>[]
 |n+1=>Q8 (ajr l v n) (gy (l.getD n []) v n)
theorem RP{p:List Tm}{v n K E:Nat}(hp:PB K E p)(hv:v<64):PB (K+2) (E+n) (gy p v n)/\(gy p v n).length<=p.length:=by
 unfold gy;split
 ·exact⟨hp.mono (by omega) (by omega),Kac _⟩
 ·obtain⟨h1,h2⟩:=s0 hp (PE (n:=n) hv (by omega) (Kac 2));refine⟨h1.mono ?_ (Kac _),by simpa using h2⟩;have:min p.length [((1:Rat),cM v n)].length*(K+2)<=1*(K+2):=Kaf _ (by simp;omega);omega
def aD(g:List Tm)(v d:Nat)(f:List Tm):Nat->List Tm×List Tm
 |0=>([],f)
 |k+1=>(gA (aD g v d f k).1 (aD g v d f k).2 g v (Q3 (aD g v d f k).2 v).toNat d,dX (aD g v d f k).2 g v (Q3 (aD g v d f k).2 v).toNat d)
theorem rU{g:List Tm}{v d:Nat}{f:List Tm}(hf:au f)(hg:au g):∀k,au (aD g v d f k).1/\au (aD g v d f k).2
 |0=>⟨au.nil,hf⟩
 |k+1=>by obtain⟨h1,h2⟩:=rU (v:=v) (d:=d) hf hg k;exact⟨agq h1 h2 hg,agr h2 hg⟩
theorem zq{g:List Tm}{v d:Nat}{q r:List Tm}{k:Nat}(h:r=[]∨Q3 r v<d):∀fuel,jD g v d fuel q r k= .aw [PV.aj q,PV.aj r,.int .i64 k,.int .i64 0]
 |0=>rfl
 |n+1=>by rw[jD,if_pos h]
theorem GH{g:List Tm}{v d:Nat}{q r:List Tm}{k fuel:Nat}(h:¬(r=[]∨Q3 r v<d))(h2:bh (gA q r g v (Q3 r v).toNat d)=true∨bh (dX r g v (Q3 r v).toNat d)=true):
  jD g v d (fuel+1) q r k= .aw [PV.aj [],PV.aj [],.int .i64 0,.int .i64 4]:=by rw[jD,if_neg h,if_pos h2]
theorem G7{g:List Tm}{v d:Nat}{q r:List Tm}{k fuel:Nat}(h:¬(r=[]∨Q3 r v<d))(h2:¬(bh (gA q r g v (Q3 r v).toNat d)=true∨bh (dX r g v (Q3 r v).toNat d)=true)):
  jD g v d (fuel+1) q r k=jD g v d fuel (gA q r g v (Q3 r v).toNat d) (dX r g v (Q3 r v).toNat d) (k+1):=by rw[jD,if_neg h,if_neg h2]
theorem OL{q r g:List Tm}{v n d K E M:Nat}(hq:PB K E q)(hr:PB K E r)(hg:PB K E g)(hM:g.length<=M)(hv:v<64)(hn:n<=E):
  PB (K+2) (E+E) (cZ r v n d)/\(cZ r v n d).length<=r.length/\
  PB (M*(K+K)) (E+E) (Q4 (aW g v d) q)/\(Q4 (aW g v d) q).length<=M*q.length/\
  PB (M*(K+K)) (E+E) (Q4 (aW g v d) r)/\(Q4 (aW g v d) r).length<=M*r.length/\
  PB (M*(K+K+2)) (E+E+E) (Q4 (cZ r v n d) g)/\(Q4 (cZ r v n d) g).length<=r.length*M:=by
 have ff:(aW g v d).length<=M:=Kaw (qx _ _ _) hM;have iF:=qI hg v (d:Int);obtain⟨b1,b2⟩:=RP (n:=n-d) (qI hr v (n:Int)) hv;have UJ:(cZ r v n d).length<=r.length:=Kaw b2 (qx _ _ _);have IU:PB (K+2) (E+E) (cZ r v n d):=b1.mono (Kac _) (by omega);obtain⟨m1,m2⟩:=s0 iF hq;obtain⟨m3,m4⟩:=s0 iF hr;obtain⟨m5,m6⟩:=s0 IU hg;refine⟨IU,UJ,m1.mono (Kaf _ (by omega)) (Kac _),Kaw m2 (Kaf _ ff),m3.mono (Kaf _ (by omega)) (Kac _),Kaw m4 (Kaf _ ff),m5.mono ?_ (by omega),Kaw m6 (KaJ UJ hM)⟩;have e:K+2+K=K+K+2:=by omega
 rw[e];exact Kaf _ (by omega)
end Go.FW
namespace Go.FW
open Go
theorem TC:∀ {p:List Tm},e9 p->∀n,e9 (p.take n)
 |_,_,0=>trivial
 | [],_,n+1=>trivial
 |t::p,h,n+1=>⟨fun s hs=>h.1 s (Kbc hs),TC h.2 n⟩
theorem au.take{p:List Tm}(h:au p)(n:Nat):au (p.take n):=⟨fun t ht=>h.c t (Kbc ht),fun t ht=>h.z t (Kbc ht),TC h.s n⟩
theorem SX{p:List Tm}(h:au p):xG [] p=p:=by rw[ab0 au.nil h,pE]
theorem Q8t{p:List Tm}(h:au p){i:Nat}(hi:i<p.length):jg (p.take i) p[i].1 p[i].2=p.take (i+1):=by
 have e:=SX (au.take h (i+1))
 rwa[Kah hi,YP,SX (au.take h i),<-List.take_succ_eq_append_getElem hi]at e
theorem PF:au [((1:Rat),([]:List Int))]:=au.one (show(1:Rat)≠0 by decide) (by simp)
theorem Q8u{p:List Tm}(h:au p):Q4 p [(1,[])]=p:=by refine qL (dC h.s PF.s) h fun φ=>?_;rw[ie];refine kU fun t ht=>?_;rw[eu,iy,Kdk,Rat.add_zero,tu (h.c t ht)]
def o8(v n:Nat):List Tm:=if n=0 then [(1,[])]else [(1,cM v n)]
theorem PG(v n:Nat):au (o8 v n):=by
 unfold o8;split
 ·exact PF
 ·exact OK (by omega)
theorem QX{v n:Nat}(hv:v<64):PB 2 n (o8 v n):=by
 unfold o8;split
 ·intro t ht;obtain rfl:t=(1,[]):=by simpa using ht
  have:=ob;exact⟨by show rs 1+1<=2;omega,⟨by simp,by simp,by simp⟩,by simp⟩
 ·exact PE hv (by omega) (Kac 2)
theorem ags(v n:Nat):(o8 v n).length=1:=by unfold o8;split<;>rfl
theorem ab1{p:List Tm}(h:au p)(v n:Nat):Q4 p (o8 v n)=gy p v n:=by
 unfold o8 gy;split
 ·exact Q8u h
 ·rfl
end Go.FW
