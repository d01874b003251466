/- Part 17 of the proof of CertcheckNames: G10, H2, P9, U11, H3, FwUG. Own lemmas; no conditions. -/
import Derived.Test.YtccppnepkfbpkaaGreatCertcheckNamesPart16
set_option maxHeartbeats 1000000
set_option linter.unusedSimpArgs false
set_option linter.unusedVariables false
set_option linter.unnecessarySimpa false
set_option maxRecDepth 100000
namespace Go.Proofs.YtccppnepkfbpkaaGreat
open Go Go.FW
structure mI where
 fs:List (List Tm)
 ps:List Int
 n:Int
 cs:List (List Tm)
abbrev PV.I1(c:mI):PV:=PV.cert c.fs c.ps c.n c.cs
abbrev PV.RJ(l:List mI):PV:=.sl 4 (l.map PV.I1)
structure AE(c:mI):Prop where
 l:c.ps.length=c.fs.length
 f:∀f∈c.fs,ib f/\f≠[]
 fl:c.fs.length<=5
def y8(out:List (List Tm))(x:List Tm×Int):List (List Tm):=if x.2<1∨tY x.1<1 then out else if(out.any fun g=>decide (x.1=g))=true then out else out++[x.1]
def Ca(out:List (List Tm))(c:mI):List (List Tm):=(c.fs.zip c.ps).foldl y8 out
def ky(l:List mI):List (List Tm):=l.foldl Ca []
theorem Ps{l:List mI}{i:Nat}(h:i<l.length):ky (l.take (i+1))=Ca (ky (l.take i)) l[i]:=by unfold ky;rw[Kam h,Kb2];rfl
def lU(out:List (List Tm))(c:mI)(k:Nat):List (List Tm):=((c.fs.zip c.ps).take k).foldl y8 out
theorem Rh{out:List (List Tm)}{c:mI}{k:Nat}(hl:c.ps.length=c.fs.length)(h:k=c.fs.length):lU out c k=Ca out c:=by unfold lU Ca;rw[Kai (by rw[List.length_zip];omega)]
theorem Pt{out:List (List Tm)}{c:mI}{k:Nat}(h:k<c.fs.length)(h2:k<c.ps.length):lU out c (k+1)=y8 (lU out c k) (c.fs[k],c.ps[k]):=by unfold lU;rw[Kam (by rw[List.length_zip];omega),Kb2,Kc1];rfl
structure y9(n:Nat)(out:List (List Tm)):Prop where
 l:out.length<=n
 f:∀f∈out,ib f
theorem afo{n:Nat}{out:List (List Tm)}{x:List Tm×Int}(h:y9 n out)(hx:ib x.1):y9 (n+1) (y8 out x):=by
 unfold y8;have:=h.l;split
 ·exact⟨by omega,h.f⟩
 ·split
  ·exact⟨by omega,h.f⟩
  ·refine⟨by rw[Kaw,List.length_singleton];omega,fun f hf=>?_⟩;rcases KaM.1 hf with hf|hf
   ·exact h.f f hf
   ·rw[Kay.1 hf];exact hx
theorem H9{n:Nat}{out:List (List Tm)}{c:mI}(h:y9 n out)(hc:AE c):∀k,k<=c.fs.length->y9 (n+k) (lU out c k)
 |0,_=>h
 |k+1,hk=>by rw[Pt (by omega) (by have:=hc.l;omega)];exact afo (H9 h hc k (by omega)) (hc.f _ (Kah _)).1
theorem Ia{l:List mI}(h:∀c∈l,AE c):∀i,i<=l.length->y9 (5*i) (ky (l.take i))
 |0,_=>⟨by simp[ky],by simp[ky]⟩
 |i+1,hi=>by have hc:=h _ (Kah (show i<l.length by omega));have h1:=H9 (Ia h i (by omega)) hc _ (Kad _);rw[Ps (by omega),<-Rh hc.l rfl];have:=hc.fl;exact⟨by have:=h1.l;omega,h1.f⟩
theorem acS{A:List (List Tm)}{m:Nat}{p:List Tm->Bool}(h:m<A.length):(A.take (m+1)).any p=((A.take m).any p||p A[m]):=by rw[Kam h,List.any_append];simp
theorem NT{l:List mI}(h:∀c∈l,AE c)(hl:l.length<=4):Qd Tryz.prog 22 [PV.RJ l] (· =PV.eI (ky l)):=by
 refine aB Qg Tryz.func22 ah3 fun C hP=>?_;refine Sz0 ?_;refine oL 3 900 1 43 (by omega) Tz0 ?_;refine Qn okB [(3,3),(5,8),(10,10),(13,56)] [5,53,54,900] (fun q J hp=>∃i,q=l.length-i/\i<=l.length/\J 3= .ms 900 (ky (l.take i)).length/\J 13= .int .i64 (i:Nat)/\hp 900=some ⟨1,43,(ky (l.take i)).map PV.ao,false⟩) l.length ?_ ?_
 ·refine⟨0,rfl,by omega,?_⟩;refine Sz0 ?_;exact⟨rfl,rfl,rfl⟩
 rintro _ J h' ⟨i,rfl,hi,h3,eU,h9⟩;refine Sz1 eU ?_;refine Qb (fun hg=>?_) (fun hg=>?_)
 ·have az:i<l.length:=by omega
  have hc:=h _ (Kah az);have hL:=Ia h i hi;have ir:=Ps az;have hK:=fun k hk=>H9 hL hc k hk;rw[<-Rh hc.l rfl]at ir;have e0:ky (l.take i)=lU (ky (l.take i)) l[i] 0:=rfl;have cX:=hc.l;have So:=hc.fl;generalize hx:l[i]=c at *
  generalize ky (l.take i)=A0 at *
  refine Sz3 eU h3 hx ?_;refine Qn okB [(3,3),(6,8),(10,10),(20,55)] [53,54,900] (fun q J hp=>∃k,q=c.fs.length-k/\k<=c.fs.length/\J 3= .ms 900 (lU A0 c k).length/\J 20= .int .i64 (k:Nat)/\hp 5=some ⟨4,62,[PV.I1 c],false⟩/\hp 900=some ⟨1,43,(lU A0 c k).map PV.ao,false⟩) c.fs.length ?_ ?_
  ·refine⟨0,rfl,by omega,?_⟩;refine Sz2 h3 h9 ?_;rw[<-e0];exact⟨rfl,rfl,rfl⟩
  rintro _ J2 h2 ⟨k,rfl,hk,g3,ry,g5,g9⟩;refine Sz1 ry ?_;refine Qb (fun eW=>?_) (fun eW=>?_)
  ·have cP:k<c.fs.length:=by omega
   have Ft:k<c.ps.length:=by omega
   obtain⟨s1,s2⟩:=hc.f _ (Kah cP);have hA:=hK k hk;have te:lU A0 c (k+1)=if c.ps[k]<1∨tY c.fs[k]<1 then lU A0 c k else if((lU A0 c k).any fun g=>decide (c.fs[k]=g))=true then lU A0 c k else lU A0 c k++[c.fs[k]]:=Pt cP Ft
   have uq:=hA.l;generalize lU A0 c k=A at *
   generalize hf:c.fs[k]=f at *
   generalize hp:c.ps[k]=x at *
   have hdg:=UB s1.b (by omega) (by have:=s1.l;omega);refine Sz4 ry g5 hf hp ?_;refine Qo (fun h4=>?_) (fun h4=>?_)
   ·
    refine Sz4 ry g3 g5 g9 ?_;refine Qi (c.fs.length-(k+1)) (by omega) ⟨k+1,rfl,by omega,?_⟩;rw[if_pos (by omega)]at te;rw[te];exact Tz3 g3 g5 g9
   refine Sz4 ry g5 hf hp ?_;refine Qa hP hdg rfl rfl rfl ?_;refine Sz2 ry g5 ?_;refine Qb (fun h5=>?_) (fun h5=>?_)
   ·
    refine Sz4 ry g3 g5 g9 ?_;refine Qi (c.fs.length-(k+1)) (by omega) ⟨k+1,rfl,by omega,?_⟩;rw[if_pos (by omega)]at te;rw[te];exact Tz3 g3 g5 g9
   rw[if_neg (by omega)]at te;refine Sz3 ry g3 g5 ?_;refine Qn okB [(8,8),(10,10),(38,48)] [] (fun q J hp=>∃m,q=A.length-m/\m<=A.length/\J 8= .bool ((A.take m).any fun g=>decide (f=g))/\J 38= .int .i64 (m:Nat)/\hp 5=some ⟨4,62,[PV.I1 c],false⟩/\hp 900=some ⟨1,43,A.map PV.ao,false⟩) A.length ?_ ?_
   ·refine⟨0,rfl,by omega,?_⟩;refine Sz2 g5 g9 ?_;rfl
   rintro _ J3 h3' ⟨m,rfl,hm,k8,FT,k5,k9⟩;refine Sz1 FT ?_;refine Qb (fun JH=>?_) (fun JH=>?_)
   ·have JS:m<A.length:=by omega
    have hq:=hA.f _ (Kah JS);have uu:=acS (p:=fun g=>decide (f=g)) JS;generalize hy:A[m]=y at *
    have heq:=CH s1.b hq.b (by omega) (by omega) (by have:=s1.l;omega) (by have:=hq.l;omega);refine Sz2 FT k9 ?_;rw[afU JS,hy];refine Sz0 ?_;cases hb:(A.take m).any fun g=>decide (f=g)
    ·rw[hb]at uu k8;refine Sz1 k8 ?_;refine Qa hP heq rfl rfl rfl ?_;refine Sz1 FT ?_;refine Qi (A.length-(m+1)) (by omega) ⟨m+1,rfl,by omega,?_⟩;rw[uu,Bool.false_or];exact⟨rfl,rfl,k5,k9⟩
    ·rw[hb]at uu k8;refine Sz2 k8 FT ?_;refine Qi (A.length-(m+1)) (by omega) ⟨m+1,rfl,by omega,?_⟩;rw[uu,Bool.true_or];exact⟨rfl,rfl,k5,k9⟩
   ·obtain rfl:m=A.length:=by omega
    rw[KaE]at k8;simp (disch:=decide) only[jG,pI];refine Sz1 k8 ?_;cases hb:A.any fun g=>decide (f=g)
    ·rw[hb,if_neg (by simp)]at te;refine Sz4 ry g3 k9 k5 ?_;rw[Qz (f:=PV.ao) (y:=f) (xs:=A) (ty':=43) (fz:=false) (Tz1 k9) bf (by omega) rfl (by omega) (by omega)];refine Sz1 ry ?_;refine Qi (c.fs.length-(k+1)) (by omega) ⟨k+1,rfl,by omega,?_⟩;rw[te];refine Sz1 k5 ?_;simp
    ·rw[hb,if_pos rfl]at te;refine Sz4 ry g3 k5 k9 ?_;refine Qi (c.fs.length-(k+1)) (by omega) ⟨k+1,rfl,by omega,?_⟩;rw[te];exact Tz3 g3 k5 k9
  ·obtain rfl:k=c.fs.length:=by omega
   simp (disch:=decide) only[jG,pI,VI];refine Sz1 eU ?_;refine Qi (l.length-(i+1)) (by omega) ⟨i+1,rfl,by omega,?_⟩;rw[ir];exact⟨g3,rfl,g9⟩
 ·obtain rfl:i=l.length:=by omega
  rw[KaE]at h3 h9;refine xY h3 h9 ?_;exact Qc (by simp[Kai]) rfl
theorem Vi{a:Rat}{n:Nat}(hB:1+rs a*n<=2^33)(hn:n<=2^40)(ha:rs a<=2^33):Qd Tryz.prog 92 [PV.rat a,.int .i64 n] (· =PV.rat (cZ a n)):=by
 have h1:=sM;have ie:((1:Int):Rat)=1:=rfl;refine aB Qg Tryz.func92 ahP fun C hP=>?_;refine Sz0 ?_;refine Qa hP (Dk (x:=1) (by omega) (by omega)) rfl rfl rfl ?_;refine Sz0 ?_;refine Qn eH [(1,1),(7,21)] [] (fun m J hp=>∃x o:Rat,m<=n/\rs o+rs x*m<=2^33/\o*cZ x m=cZ a n/\J 1= .int .i64 (m:Nat)/\hp 2=some ⟨3,53,[PV.rat x],false⟩/\hp 4=some ⟨3,53,[.agg [.bool false,.aa,.aa]],false⟩/\hp 5=some ⟨3,53,[PV.rat o],false⟩) n ?_ ?_
 ·refine⟨a,((1:Int):Rat),by omega,by rw[ie];omega,by rw[ie];grind,?_⟩;refine Sz0 ?_;rfl
 rintro m J h ⟨x,o,hm,cG,hq,hJ,gu,ez,dy⟩;refine Sz1 @hJ ?_;refine Qb (fun hg=>?_) (fun hg=>?_)
 ·have hx:rs x<=rs x*m:=Kct _ (by omega);have e2:(2:Int)=((2:Nat):Int):=rfl;have rL:∀d fr hp K,bO .rem false (.int .i64 (m:Int)) (.int .i64 2) d fr hp K=K (ae fr d (.int .i64 ((m%2:Nat):Int))) hp:=fun d fr hp K=>by rw[e2,pH (by omega)]
  have rJ:∀d fr hp K,bO .quo false (.int .i64 (m:Int)) (.int .i64 2) d fr hp K=K (ae fr d (.int .i64 ((m/2:Nat):Int))) hp:=fun d fr hp K=>by rw[e2,DU (by omega) (by omega)]
  have uI:=vl x x;have hom:=vl o x;have og:rs (x*x)*(m/2)<=rs x*(2*(m/2)):=by rw[<-Nat.mul_assoc];exact Kal _ (by omega)
  refine Sz5 @hJ gu dy rL rJ ?_;refine Qb (fun h2=>?_) (fun h2=>?_)
  ·have aoK:m%2=1:=by omega
   have Ka:o*x*cZ (x*x) (m/2)=cZ a n:=by rw[<-hq,<-Qz8 aoK];grind
   have Kb:m=1->o*x*cZ x (1/2)=cZ a n:=fun h=>by rw[<-hq,h];show o*x*1=o*cZ x 1;rw[abD];grind
   have pg:rs x*m=rs x*(2*(m/2))+rs x:=by rw[show m=2*(m/2)+1 by omega,Ka1,KbL];congr 2;omega
   refine Sz5 @hJ gu dy rL rJ ?_;refine Qa hP (Az (a:=o) (b:=x) (k:=2^33) (by omega) (by omega) (by omega)) rfl rfl rfl ?_;refine Sz5 @hJ gu dy rL rJ ?_;refine Qb (fun h3=>?_) (fun h3=>?_)
   ·refine Sz5 @hJ gu dy rL rJ ?_;refine Qa hP (Az (a:=x) (b:=x) (k:=2^33) (by omega) (by omega) (by omega)) rfl rfl rfl ?_;refine Sz5 @hJ gu dy rL rJ ?_;refine Qi (m/2) (by omega) ⟨x*x,o*x,by omega,by omega,Ka,?_⟩;exact Tz3 gu ez dy
   ·obtain rfl:m=1:=by omega
    refine Sz5 @hJ gu dy rL rJ ?_;refine Qi (1/2) (by omega) ⟨x,o*x,by omega,by omega,(Kb rfl),?_⟩;exact Tz3 gu ez dy
  ·have an3:m%2=0:=by omega
   have Ka:o*cZ (x*x) (m/2)=cZ a n:=by rw[<-hq,<-Qxz an3]
   have Kb:m=1->o*cZ x (1/2)=cZ a n:=fun h=>by omega
   have pg:rs x*m=rs x*(2*(m/2)):=by congr 1;omega
   refine Sz5 @hJ gu dy rL rJ ?_;refine Qb (fun h3=>?_) (fun h3=>?_)
   ·refine Sz5 @hJ gu dy rL rJ ?_;refine Qa hP (Az (a:=x) (b:=x) (k:=2^33) (by omega) (by omega) (by omega)) rfl rfl rfl ?_;refine Sz5 @hJ gu dy rL rJ ?_;refine Qi (m/2) (by omega) ⟨x*x,o,by omega,by omega,Ka,?_⟩;exact Tz3 gu ez dy
   ·obtain rfl:m=1:=by omega
    refine Sz5 @hJ gu dy rL rJ ?_;refine Qi (1/2) (by omega) ⟨x,o,by omega,by omega,(Kb rfl),?_⟩;exact Tz3 gu ez dy
 ·obtain rfl:m=0:=by omega
  have jz:o=cZ a n:=by rw[<-hq,HL];grind
  refine Sz3 gu ez dy ?_;refine cY ?_;refine Sz0 ?_;exact Qc (by rw[jz]) rfl
theorem VW{p:List Tm}{vs:List Rat}{K E W:Nat}(hp:PB K E p)(hv:∀v∈vs,rs v<=W)(hW:1<=W)(hB:1+p.length*(K+64*(1+W*E))+(K+64*(1+W*E))<=2^33)(hE:E<=2^38)(fX:p.length<=2^36)(hlv:vs.length<=2^36):
  Qd Tryz.prog 48 [PV.ao p,PV.TY vs] (· =EL vs p):=by
 have h0:((0:Int):Rat)=0:=rfl;refine aB Qg Tryz.func48 ahQ fun C hP=>?_;refine Sz0 ?_;refine Qn eH [(5,5),(7,7),(16,27)] [7] (fun n J hp=>∃i,n=p.length-i/\i<=p.length/\(∀t∈p.take i,¬vs.length<t.2.length)/\J 16= .int .i64 (i:Nat)/\hp 4=some ⟨3,53,[.agg [.bool false,.aa,.aa]],false⟩) p.length ?_ ?_
 ·refine⟨0,rfl,by omega,by simp,?_⟩;refine Sz0 ?_;rfl
 rintro _ J h ⟨i,rfl,hi,h1,mc,ez⟩;refine Sz1 mc ?_;refine Qb (fun hg=>?_) (fun hg=>?_)
 ·have az:i<p.length:=by omega
  have cx:=hp.get az;have im:=Kah az;have bN:p.take (i+1)=p.take i++[p[i]]:=Kam az;generalize hx:p[i]=x at *
  have uH:=cx.m.len;have htr:=K7 cx.l;refine Sz2 mc hx ?_;refine Qa hP (VP (a:=x.2) (by omega)) rfl rfl rfl ?_;rw[htr];refine Sz2 mc hx ?_;refine Qb (fun hc=>?_) (fun hc=>?_)
  ·have ho:ub vs p=true:=by unfold ub;rw[KaW];exact⟨x,im,decide_eq_true (by omega)⟩
   refine Sz1 ez ?_;refine eA ?_;refine Sz0 ?_;exact cA (p':=PV.rr false [] []) (q':=.int .i64 2) (by rw[EL,if_pos ho]) rfl rfl ⟨rfl,trivial,trivial,trivial⟩ (Qf _)
  ·refine Sz1 mc ?_;refine Qi (p.length-(i+1)) (by omega) ⟨i+1,rfl,by omega,?_,?_⟩
   ·rw[bN];intro z hz;rcases KaM.1 hz with hz|hz
    ·exact h1 z hz
    ·simp only[Kay]at hz;subst hz;omega
   ·exact Tz1 ez
 ·obtain rfl:i=p.length:=by omega
  rw[KaE]at h1;have ho:ub vs p=false:=by unfold ub;rw[KcG];intro t ht;simpa using h1 t ht
  refine Sz1 ez ?_;refine Qa hP (Dk (x:=0) (by omega) (by omega)) rfl rfl rfl ?_;refine Sz1 ez ?_;refine Qn eH [(10,13),(31,59)] [10,11] (fun n J hp=>∃i,n=p.length-i/\i<=p.length/\J 31= .int .i64 (i:Nat)/\hp 4=some ⟨3,53,[.agg [.bool false,.aa,.aa]],false⟩/\hp 8=some ⟨3,53,[PV.rat (lS vs (p.take i))],false⟩) p.length ?_ ?_
  ·refine⟨0,rfl,by omega,?_⟩;refine Sz1 ez ?_;exact⟨rfl,rfl⟩
  rintro _ J1 ie ⟨i,rfl,hi1,nj,SM,JN⟩;refine Sz1 nj ?_;refine Qb (fun uB=>?_) (fun uB=>?_)
  ·have az:i<p.length:=by omega
   have cx:=hp.get az;have eM:=h1 _ (Kah az);have bN:=OZ (vs:=vs) az;have hrp:=H4 hp hv hW i (by omega);generalize hx:p[i]=x at *
   have uH:=cx.m.len;have hxc:=cx.c;have aq1:i*(K+64*(1+W*E))<=p.length*(K+64*(1+W*E)):=Kal _ hi1;have SU:=fun j=>Ic (vs:=vs) cx.m hv hW x.1 j;have SG:∀j,j<=x.2.length->j*(1+W*E)<=64*(1+W*E):=fun j hj=>Kal _ (by omega);refine Sz2 nj hx ?_;refine Qn eH [(12,13),(40,55)] [] (fun n J hp=>∃j,n=x.2.length-j/\j<=x.2.length/\J 40= .int .i64 (j:Nat)/\hp 4=some ⟨3,53,[.agg [.bool false,.aa,.aa]],false⟩/\hp 8=some ⟨3,53,[PV.rat (lS vs (p.take i))],false⟩/\hp 11=some ⟨3,53,[PV.rat (x.1*jQ vs x.2 j)],false⟩) x.2.length ?_ ?_
   ·refine⟨0,rfl,by omega,?_⟩;have e0:x.1*jQ vs x.2 0=x.1:=by show x.1*1=x.1;grind
    rw[e0];refine Sz2 SM JN ?_;rfl
   rintro _ J2 h2 ⟨j,rfl,hj,rz,s5,Bn,wa⟩;refine Sz1 rz ?_;refine Qb (fun eW=>?_) (fun eW=>?_)
   ·have dj:j<x.2.length:=by omega
    have v5:=gY dj;have hjb:=cx.m.eN j;have Fw:jQ vs x.2 (j+1)=jQ vs x.2 j*cZ (vs.getD j 0) (eN x.2 j).toNat:=rfl;generalize hy:x.2[j]=y at *
    obtain⟨m,rfl⟩:∃m:Nat,y=m:=⟨y.toNat,by omega⟩
    rw[v5,KbF]at Fw;rw[v5]at hjb;refine Sz2 rz hy ?_;refine Qb (fun hz=>?_) (fun hz=>?_)
    ·have SK:j<vs.length:=by omega
     have hvg:vs.getD j 0=vs[j]:=by simp[Kae,SK]
     have hvw:=hv _ (Kah SK);rw[hvg]at Fw;generalize Kj:vs[j]=v at *
     have FK:rs v*m<=W*E:=KbU hvw (by omega);have tf:rs v<=rs v*m:=Kct _ (by omega);have hqp:=Ib v m;have qp:=SU j;have pg:=SG j hj;refine Sz4 rz hy wa Kj ?_;refine Qa hP (Vi (a:=v) (n:=m) (by omega) (by omega) (by omega)) rfl rfl rfl ?_;refine Sz4 rz hy wa Kj ?_;refine Qa hP (Az (a:=x.1*jQ vs x.2 j) (b:=cZ v m) (k:=2^33) (by omega) (by omega) (by omega)) rfl rfl rfl ?_;refine Sz4 rz hy wa Kj ?_;refine Qi (x.2.length-(j+1)) (by omega) ⟨j+1,rfl,by omega,?_⟩;have e1:x.1*jQ vs x.2 (j+1)=x.1*jQ vs x.2 j*cZ v m:=by rw[Fw];grind
     rw[e1];exact Tz2 s5 Bn
    ·obtain rfl:m=0:=by omega
     refine Sz2 rz hy ?_;refine Qi (x.2.length-(j+1)) (by omega) ⟨j+1,rfl,by omega,?_⟩;have e1:x.1*jQ vs x.2 (j+1)=x.1*jQ vs x.2 j:=by rw[Fw,HL];grind
     rw[e1];exact Tz3 s5 Bn wa
   ·obtain rfl:j=x.2.length:=by omega
    have qp:=SU x.2.length;have pg:=SG x.2.length (Kad _);have uL:=vk (lS vs (p.take i)) (x.1*uS vs x.2);rw[show jQ vs x.2 x.2.length=uS vs x.2 from rfl]at wa qp;refine Sz4 nj rz Bn wa ?_;refine Qa hP (NA (a:=lS vs (p.take i)) (b:=x.1*uS vs x.2) (k:=2^33) (by omega) (by omega) (by omega)) rfl rfl rfl ?_;refine Sz4 nj rz Bn wa ?_;simp (disch:=decide) only[jG,pI];refine Qi (p.length-(i+1)) (by omega) ⟨i+1,rfl,by omega,?_⟩;rw[bN];exact Tz1 s5
  ·obtain rfl:i=p.length:=by omega
   rw[KaE]at JN;refine Sz2 SM JN ?_;refine eA ?_;refine Sz0 ?_;exact cA (by rw[EL,if_neg (by simp[ho])]) rfl rfl (Qf _) (Qf _)
def qY(vs:List Rat):List (List Tm)->Bool->Bool×Int
 | [],b=>(b,0)
 |f::l,b=>if ub vs f then(false,2)else qY vs l (b&&decide (lS vs f≠0))
abbrev PV.be(r:Bool×Int):PV:=.aG [.bool r.1,.int .i64 r.2]
theorem ai3{q:Rat}:decide (fk q≠0)=decide (q≠0):=decide_eq_decide.2 (not_congr fZ)
theorem aaK{vs:List Rat}{l:List (List Tm)}{b:Bool}{i:Nat}(h:i<l.length):qY vs (l.drop i) b=if ub vs l[i]then(false,2)else qY vs (l.drop (i+1)) (b&&decide (lS vs l[i]≠0)):=by rw[Kau h];rfl
theorem am2{p:List Tm}{vs:List Rat}(hp:ib p)(hv:∀v∈vs,rs v<=2)(hl:vs.length<=12):rs (lS vs p)<2^36/\1+p.length*(3+64*(1+2*4))+(3+64*(1+2*4))<=2^31:=by have h1:=hp.l;have hr:=H4 hp.b hv (by omega) p.length (Kad _);rw[KaE]at hr;exact⟨by omega,by omega⟩
theorem N9{l:List mI}{vs:List Rat}(h:∀c∈l,AE c)(hl:l.length<=4)(hv:∀v∈vs,rs v<=2)(jA:vs.length<=12):Qd Tryz.prog 21 [PV.RJ l,PV.TY vs] (· =PV.be (qY vs (ky l) true)):=by
 have hF:=Ia h _ (Kad _);rw[KaE]at hF;have hFl:=hF.l;have hfa:=NT h hl;refine aB Qg Tryz.func21 ah4 fun C hP=>?_;refine Sz0 ?_;refine Qa hP hfa rfl rfl rfl ?_;generalize ky l=A at *
 refine Sz0 ?_;refine Qn okB [(4,6),(8,10),(14,33)] [9] (fun q J hp=>∃i b,q=A.length-i/\i<=A.length/\qY vs (A.drop i) b=qY vs A true/\J 6= .bool b/\J 14= .int .i64 (i:Nat)) A.length ?_ ?_
 ·refine⟨0,true,rfl,by omega,rfl,?_⟩;refine Sz0 ?_;rfl
 rintro _ J h' ⟨i,b,rfl,hi,hm,h6,fS⟩;refine Sz1 fS ?_;refine Qb (fun hg=>?_) (fun hg=>?_)
 ·have az:i<A.length:=by omega
  have hq:=hF.f _ (Kah az);rw[aaK az]at hm;obtain⟨e1,e2⟩:=am2 hq hv jA;generalize hx:A[i]=x at *
  have lv:=VW (W:=2) hq.b hv (by omega) (by omega) (by omega) (by have:=hq.l;omega) (by omega);have hsg:=Aq e1;unfold EL at lv;cases ho:ub vs x
  ·rw[ho,if_neg (by decide)]at lv hm;refine Sz2 fS hx ?_;refine Qa hP lv rfl rfl rfl ?_;cases b
   ·refine Sz2 fS h6 ?_;refine Qi (A.length-(i+1)) (by omega) ⟨i+1,false,rfl,by omega,by rw[<-hm];rfl,?_⟩;exact Tz0
   ·refine Sz2 fS h6 ?_;refine Qa hP hsg rfl rfl rfl ?_;refine Sz1 fS ?_;refine Qi (A.length-(i+1)) (by omega) ⟨i+1,decide (lS vs x≠0),rfl,by omega,by rw[<-hm];rfl,?_⟩;refine⟨?_,rfl⟩;rw[<-ai3];rfl
  ·rw[ho,if_pos rfl]at lv hm;refine Sz2 fS hx ?_;refine Qa hP lv rfl rfl rfl ?_;refine Sz0 ?_;exact cA (r:=PV.be (qY vs A true)) (by rw[<-hm]) rfl rfl (Qf _) (Qf _)
 ·obtain rfl:i=A.length:=by omega
  rw[List.drop_length]at hm;refine Sz1 h6 ?_;exact cA (r:=PV.be (qY vs A true)) (by rw[<-hm];rfl) rfl rfl (Qf _) (Qf _)
end Go.Proofs.YtccppnepkfbpkaaGreat
namespace Go.FW
open Go
def TU(K E:Nat)(p:List Tm):Bool:=p.all fun t=>decide (rs t.1+1<=K)&&(decide (t.2.length<=64)&&((t.2.all fun x=>decide (0<=x)&&decide (x<=E))&&decide (t.2.getLast? ≠some 0)))
theorem ajS{K E:Nat}{p:List Tm}(h:TU K E p=true):PB K E p:=fun t ht=>by have:=Kaq.1 h t ht;simp only[Kav,decide_eq_true_eq,Kaq]at this;obtain⟨h1,h2,h3,h4⟩:=this;exact⟨h1,⟨h2,fun x hx=>(h3 x hx).1,fun x hx=>(h3 x hx).2⟩,h4⟩
def Cb:List Tm->Bool
 | []=>true
 |t::p=>(p.all fun s=>decide (0<aY t.2 s.2))&&Cb p
theorem MT:∀ {p:List Tm},Cb p=true->iz p
 | [],_=>trivial
 |t::p,h=>by simp only[Cb,Kav,Kaq,decide_eq_true_eq]at h;exact⟨h.1,MT h.2⟩
def KC(p:List Tm):Bool:=(p.all fun t=>decide (t.1≠0)&&decide (t.2.getLast? ≠some 0))&&Cb p
theorem ai4{p:List Tm}(h:KC p=true):aR p:=by simp only[KC,Kav,Kaq,decide_eq_true_eq]at h;exact⟨fun t ht=>(h.1 t ht).2,fun t ht=>(h.1 t ht).1,MT h.2⟩
end Go.FW
