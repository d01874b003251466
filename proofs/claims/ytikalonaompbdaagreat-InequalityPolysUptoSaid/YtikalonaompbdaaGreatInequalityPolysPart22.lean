/- Part 22 of the proof of InequalityPolys: Q1, Q2, Q3, Q4, B17, B18, P7, Q5, Q6, Q7, Q8, Q9, Q20, Q10, Q11, Q21, Q23, FwUG. Own lemmas; no conditions. -/
import Derived.Test.YtikalonaompbdaaGreatInequalityPolysPart21
set_option maxHeartbeats 1000000
set_option linter.all false
set_option maxRecDepth 100000
namespace Go.Proofs.YtikalonaompbdaaGreat
open Go.Proofs.Tryz
open Go Go.FW
variable{E K k n:Nat}{p:List Tm}{t:Tm}
structure rM(k:Nat)(s:dB):Prop where
 r:Raw k s.n s.a s.d
 p:∀t∈s.p,RB k t
 l:s.p.length<2^40
def akT{s:dB}(hb:rM k s)(eU:1<=k)(hk:k<2^36):AC 246 [PV.gW s] (· = .int .i64 (ke s)):=by
 have h1:=Ar hb.r hk;have h2:=Ly hb.p eU hk hb.l;have h3:=CE hb.r hk;obtain⟨n,a,d,p⟩:=s;simp only at h1 h2 h3;refine aF Qd func246 apn λC hP=>?_;refine ay hP h1 ?_;cases e1:fL n a d
 .refine Sz0 ?_;exact Qb (by simp[ke,e1]) rfl
 refine ay hP h2 ?_;cases e2:eC p
 .refine Sz0 ?_;exact Qb (by simp[ke,e1,e2]) rfl
 refine ay hP h3 ?_;have hp:= @Hl (rv n a d);refine bD (λh=>?_) (λh=>?_)
 .refine Sz0 ?_;exact Qb (by simp only[ke,e1,e2,if_true];rw[if_neg (λg=>by have:=hp.2 g;omega)]) rfl
 .refine Sz0 ?_;exact Qb (by simp only[ke,e1,e2,if_true];rw[if_pos (hp.1 Oz)]) rfl
def afW(x:Int):AC 363 [.int .i64 x] (· = .bool (decide (1048576<x))):=by refine aF Qd func363 aoQ λC hP=>?_;exact cf
def aik(h:t.2.length<=2^36):AC 362 [PV.term t] (· = .bool (t.2.any λx=>decide (1048576<x))):=by refine aF Qd func362 aoP λC hP=>?_;refine ay hP (UM (λx _=>afW x) h) ?_;exact cf
def akU(hp:∀t∈p,MB E t.2)(dC:p.length<=2^36):AC 335 [PV.aC p] (· = .bool (ku p)):=by
 refine aF Qd func335 apo λC hP=>?_;refine Sz0 ?_;refine Qo (λh=>?_) (λh=>?_)
 .refine Sz0 ?_;exact Qb (congrArg PV.bool (by rw[ku,decide_eq_true Oz,Bool.true_or])) rfl
 .refine ay hP (UL (λt ht=>aik (by have:=(hp t ht).len;omega)) dC) ?_;refine Sz0 ?_;exact Qb (congrArg PV.bool (by rw[ku,decide_eq_false Oz,Bool.false_or])) rfl
def aoX{x:Sq}(h:vO K E n x)(hn:n<=1000)(hE:E<=2^30)(hK:n*(K+K)+K<=2^32):AC 248 [PV.sq x] (· = .aI [PV.aC (mJ x),.int .i64 0]):=by have hl:=h.l;have hw:=h.w;have h1:=GD h.b h.b;have h5:=KaZ hl hl;have h7:n*n<=1000*1000:=KaZ hn hn;have h6:min x.2.length x.2.length*(K+K)<=n*(K+K):=Kap _ Oz;have c1:=Wp h.b h.b Oz Oz Oz Oz Oz Oz;have c2:=Lu (p:=dD x.2 x.2) (a:=x.1) (K:=n*(K+K)+K) (E:=E+E) (h1.1.mono Oz Oz) Oz Oz Oz Oz;refine aF Qd func248 aoR λC hP=>?_;refine ay hP c1 ?_;refine ay hP c2 ?_;refine Sz0 ?_;exact ek (r:=.aI [PV.aC (mJ x),.int .i64 0]) rfl rfl rfl (Qi _) (Qi _)
def Um{l:List Sq}(h:∀x∈l,vO K E n x)(hl:l.length<=1000)(hn:n<=1000)(hE:E<=2^30)(hK:(n*(K+K)+K)*(l.length+1)<=2^32):AC 247 [.sl 4 (l.map PV.sq),.fn 248 [] []] (· =PV.nu (vN (lV l []))):=by
 have hle:n*(K+K)+K<=(n*(K+K)+K)*(l.length+1):=Kb7 _ Oz;have I4:n*n*(l.length+1)<=1000*1000*1001:=KaZ (KaZ hn hn) Oz;have I1:∀i,i<=l.length+1->(n*(K+K)+K)*i<=2^32/\n*n*i<=1000*1000*1001:=λi hi=>⟨KaK (Ka8 _ hi) hK,KaK (Ka8 _ hi) I4⟩
 have nc:=I1 1 Oz;rw[KbR,KbR]at nc;refine aF Qd func247 aoS λC hP=>?_;refine Sz0 ?_;refine wT 6 4 Tz0 ?_;refine Qh okB [(4,6),(8,10),(13,31)] [8] (λq J hp=>∃i,q=l.length-i/\i<=l.length/\lV (l.drop i) (ia (l.take i))=lV l []/\J 6=PV.aC (ia (l.take i))/\J 13= .int .i64 (i:Nat)) l.length ?_ ?_
 .refine⟨0,rfl,Oz,rfl,?_⟩;refine Sz0 ?_;exact⟨rfl,rfl⟩
 rintro _ J h' ⟨i,rfl,hi,fo,h6,dN⟩;refine aZ dN (λhg=>?_) (λhg=>?_)
 .have au:i<l.length:=Oz;have bQ:=h _ (Kad au);obtain⟨a1,a2,a3⟩:=AS h i hi;obtain⟨b1,b2,b3⟩:=AS h (i+1) au;have m1:=I1 i Oz;have m2:=I1 (i+1) Oz;have a9:=G5 au;rw[L4 _ au,<-a9]at fo;obtain⟨c1,c2,c3⟩:=KW bQ;have gI:=aoX bQ hn hE Oz;have Es:=Gu (a1.mono (K':=2^33) (E':=E+E) Oz Oz) (c1.mono (K':=2^33) (E':=E+E) Oz Oz) Oz Oz Oz Oz;have wg:=akU (λt ht=>(b1 t ht).m) Oz;clear m1 m2 I1 I4 hle nc hK;generalize hx:l[i]=x at *
  rw[<-a9]at Es;generalize ia (l.take i)=A at *
  generalize xG:ia (l.take (i+1))=A' at *
  refine bE dN hx hP gI ?_;refine bE dN h6 hP Es ?_;refine gE dN hP wg ?_;cases hp:ku A'
  .rw[hp,if_neg (by decide)]at fo;refine Sz1 dN ?_;refine Qe (l.length-(i+1)) Oz ⟨i+1,rfl,Oz,by rw[xG];exact fo,?_⟩;rw[xG];exact Tz0
  .rw[hp,if_pos rfl]at fo;refine Sz0 ?_;exact ek (r:=PV.nu (vN (lV l []))) (by rw[<-fo];rfl) rfl rfl yF (Qi _)
 .obtain rfl:i=l.length:=by omega
  rw[Kcz]at fo;refine Sz1 h6 ?_;exact ek (r:=PV.nu (vN (lV l []))) (by rw[<-fo];rfl) rfl rfl (Qi _) (Qi _)
variable{l:List dB}
def Tf(hb:∀s∈l,rM k s)(eU:1<=k)(hk:k<2^36)(hl5:l.length<=2^30)(oK:mP l=0->AC 247 [.sl 4 (l.map PV.gW),.fn 248 [] []] (· =PV.nu (vN (lV (l.map dB.sq) [])))):AC 129 [.sl 4 (l.map PV.gW)] (· =PV.nu (kL l)):=by
 refine aF Qd func129 aoT λC hP=>?_;refine Sz0 ?_;refine Qh okB [(2,3),(5,6),(9,18)] [5] (λq J hp=>∃i,q=l.length-i/\i<=l.length/\mP (l.drop i)=mP l/\J 9= .int .i64 (i:Nat)) l.length ?_ ?_
 .refine⟨0,rfl,Oz,rfl,?_⟩;refine Sz0 ?_;rfl
 rintro _ J h' ⟨i,rfl,hi,he,h9⟩;refine aZ h9 (λhg=>?_) (λhg=>?_)
 .have au:i<l.length:=Oz;have dX:=hb _ (Kad au);rw[VR au]at he;generalize hx:l[i]=s at *
  have hc:=akT dX eU hk;generalize ke s=e at *
  refine bE h9 hx hP hc ?_;refine aZ h9 (λh0=>?_) (λh0=>?_)
  .rw[if_neg Oz]at he;refine Sz0 ?_;exact ek (r:=PV.nu (kL l)) (by rw[kL,<-he,if_neg Oz]) rfl rfl yF (Qi _)
  .rw[if_pos Oz]at he;refine Sz1 h9 ?_;refine Qe (l.length-(i+1)) Oz ⟨i+1,rfl,Oz,he,?_⟩;exact Tz0
 .obtain rfl:i=l.length:=by omega
  rw[Kcz]at he;have hs:=oK he.symm;refine ay hP hs ?_;refine Sz0 ?_;exact ek (r:=PV.nu (kL l)) (by rw[kL,if_pos (show mP l=0 from he.symm)]) rfl rfl (Qi _) (Qi _)
def Bp(p:List bO)(r:List Tm×Int):Int:=if r.2≠0 then r.2 else if eC p=true/\p.map bO.tm=r.1 then 0 else 17
def QD{p:List bO}{r:List Tm×Int}(h1:AC 129 [.sl 4 (l.map PV.gW)] (· =PV.nu r))(hp:∀t∈p,RB k t)(bx:p.length<2^30)(eU:1<=k)(hk:k<2^36)(b1:PB K E r.1)(b2:r.1.length<=2^30)(hq:eC p=true->PB K E (p.map bO.tm))(hK:K<=2^33)(hE:E<=2^31):AC 68 [PV.tD p,.sl 4 (l.map PV.gW)] (· = .int .i64 (Bp p r)):=by
 have h2:=Ly hp eU hk Oz;unfold Bp;obtain⟨s,e⟩:=r;simp only at b1 b2 h1;refine aF Qd func68 ad3 λC hP=>?_;refine ay hP h1 ?_;refine bD (λh0=>?_) (λh0=>?_)
 .refine Sz0 ?_;exact Qb (by rw[if_pos (show(s,e).2≠0 from h0)]) rfl
 rw[if_neg (show ¬(s,e).2≠0 from h0)];refine ay hP h2 ?_;cases h3:eC p
 .refine Sz0 ?_;exact Qb (by simp) rfl
 have Fu:=hq h3;have q0:=(GK hp h3).1;rw[q0];have hPl:(p.map bO.tm).length=p.length:=KaC _;generalize p.map bO.tm=P at *
 have heq:=Q6m Fu b1 Oz Oz Oz Oz;refine ay hP heq ?_;by_cases hs:P=s
 .subst hs;rw[decide_eq_true rfl];refine Sz0 ?_;exact Qb (by simp) rfl
 .have fS:¬s=P:=λh=>hs h.symm
  first|rw[decide_eq_false hs]|rw[decide_eq_false fS]
  refine Sz0 ?_;exact Qb (by rw[if_neg hs]) rfl
variable{R m:Nat}{l:List Rat}
abbrev PV.kD(bs:List (List Int)):PV:=.sl 1 (bs.map PV.mono)
def ahY{a b:List Rat}(ha:a.length=R*m)(hb:b.length=R*m)(h:∀r,r<R->∀c,c<m->dG a m r c=dG b m r c):a=b:=by
 refine Ka9 Oz λj h1 h2=>?_
 rcases Nat.eq_zero_or_pos m with h0|h0
 .subst h0;simp at ha;omega
 have hr:j/m<R:=(Kba h0).2 Oz;have hc:=Kbo j h0;have e:=h _ hr _ hc;have e2:j/m*m+j%m=j:=by rw[KaU];exact Kbe j m
 unfold dG at e;rw[e2]at e;simpa[h1,h2]using e
def Tg{r c:Nat}(hr:r<m)(hc:c<R):dG (ra l R m) R r c=dG l m c r:=by
 have h:=Ky hc hr;rw[KaU R m]at h;have e:dG (ra l R m) R r c=Fx l R m (r*R+c):=by unfold dG ra;simp[h]
 rw[e,ad2 hc]
def TZ(hl:l.length=R*R):l=ra l R R↔sS (dG l R) R:=by
 constructor
 .intro h i hi k hk;have:=Tg (l:=l) (R:=R) (m:=R) (r:=i) (c:=k) hi Oz
  rwa[<-h]at this
 .intro h;refine ahY hl (Gx l R R) λr hr c hc=>?_
  rw[Tg hr hc];rcases Nat.lt_trichotomy r c with e|e|e
  .exact(h c hc r e).symm
  .subst e;rfl
  .exact h r hr c e
def BH(bs:List (List Int))(r c:Int)(l:List RQ):Int:=
 if og r c l=true then(if bs.all eH=true then(if r=bs.length/\c=bs.length/\sS (dG (l.map lf) bs.length) bs.length then 0 else 16)else 1)else 1
def aeV{la:List Rat}(hl:la.length=R*m):vV R m m R (la.map qR) ((ra la R m).map qR)=true↔R=m/\sS (dG la m) m:=by
 unfold vV;have Zj:=afu;rw[decide_eq_true_eq,Zj,Zj];constructor
 .intro⟨h1,_,h3⟩;have:R=m:=Oz;subst this;exact⟨rfl,(TZ hl).1 h3⟩
 .intro⟨h1,h2⟩;subst h1;exact⟨rfl,rfl,(TZ hl).2 h2⟩
variable{l:List RQ}{r:Int}
def aeW{c:Int}(hl:yZ l)(h:og r c l=true):PV.Ab l=PV.cg (l.map lf):=by unfold og at h;rw[Kav]at h;exact TR hl h.2
def afY{bs:List (List Int)}{c:Int}(pF:bs.length<2^40)(hb:∀b∈bs,b.length<2^40)(hl:yZ l):AC 183 [PV.kD bs,PV.uW r c l] (· = .int .i64 (BH bs r c l)):=by
 have hr:=Te (r:=r) (c:=c) hl;refine aF Qd func183 aoV λC hP=>?_;refine ay hP hr ?_;cases o1:og r c l
 .refine Sz0 ?_;exact Qb (by rw[BH,if_neg (by rw[o1];decide)]) rfl
 obtain⟨R,m,la,rfl,rfl,hR,hm,bU,hlen,azO⟩:=amG hl o1;have hs:∀q∈la,rs q<=1048576:=λq hq=>by rw[bU]at hq;obtain⟨x,hx,rfl⟩:=KaD.1 hq;exact(hl.2 x hx).rs
 have dA:∀q∈ra la R m,rs q<=1048576:=λq hq=>by obtain⟨j,_,rfl⟩:=KaD.1 hq;exact apg Oz hs
 have ht:=Q9j hlen hR hm hs;have IF:R*m<=40*40:=KaZ hR hm;have oM:=Gx la R m;rw[KaU]at oM;have heq:=apc (r:=R) (c:=m) (r':=m) (c':=R) (xu.of hs) (xu.of dA) Oz (by rw[KaC];omega) (by rw[KaC];omega);rw[<-H2,<-H2]at heq;have uC:=aeV hlen;rw[aeW hl o1,<-bU];refine Sz0 ?_;refine Qh okB [(4,4),(6,6),(14,21)] [] (λq J hp=>∃i,q=bs.length-i/\i<=bs.length/\(∀j (h:j<bs.length),j<i->eH bs[j]=true)/\J 14= .int .i64 (i:Nat)/\hp 3=some ⟨3,145,[PV.dU R m la],false⟩) bs.length ?_ ?_
 .refine⟨0,rfl,Oz,Oz,?_⟩;refine Sz0 ?_;rfl
 rintro _ J h' ⟨i,rfl,hi,h1,h2,b3⟩;refine aZ h2 (λhg=>?_) (λhg=>?_)
 .have au:i<bs.length:=Oz;have eV:=Kad au;have hbx:=hb _ eV;have bI:eH bs[i]=true->∀j (h:j<bs.length),j<i+1->eH bs[j]=true:=λh j hj fP=>by
   by_cases e:j=i
   .subst e;exact h
   .exact h1 j hj Oz
  generalize hx:bs[i]=x at *
  refine bE h2 hx hP (Co (show x.length<2^42 by omega)) ?_;cases hs:eH x
  .refine Sz0 ?_;refine Qb ?_ rfl;have:bs.all eH=false:=by rw[Kcb];exact⟨x,eV,by simp[hs]⟩
   rw[BH,if_pos o1,if_neg (by rw[this];decide)]
  refine Sz1 h2 ?_;refine Qe (bs.length-(i+1)) Oz ⟨i+1,rfl,Oz,bI hs,?_⟩;exact Tz1 b3
 obtain rfl:i=bs.length:=by omega
 have e3:bs.all eH=true:=by rw[Kas];intro t ht;obtain⟨j,hj,rfl⟩:=KaH ht;exact h1 j hj hj
 have xK:BH bs R m l=if(R:Int)=bs.length/\(m:Int)=bs.length/\sS (dG la bs.length) bs.length then 0 else 16:=by rw[BH,if_pos o1,if_pos e3,<-bU]
 refine gE b3 hP ht ?_;refine Sz1 b3 ?_;refine Qo (λh3=>?_) (λh3=>?_)
 .refine Sz0 ?_;exact Qb (by rw[xK,if_neg Oz]) rfl
 refine Sz1 b3 ?_;refine Qo (λh4=>?_) (λh4=>?_)
 .refine Sz0 ?_;exact Qb (by rw[xK,if_neg Oz]) rfl
 refine gE b3 hP heq ?_;cases hq:vV R m m R (la.map qR) ((ra la R m).map qR)
 .refine Sz0 ?_;refine Qb ?_ rfl;rw[xK,if_neg];intro⟨g1,g2,g3⟩;have:R=m:=Oz;have Oc:m=bs.length:=Oz;rw[<-Oc]at g3;rw[uC.2 ⟨this,g3⟩]at hq;cases hq
 .refine Sz0 ?_;obtain⟨g1,g2⟩:=uC.1 hq;have Oc:m=bs.length:=Oz;exact Qb (by rw[xK,if_pos ⟨by omega,Oz,by rw[<-Oc];exact g2⟩]) rfl
def Q9l{l:List bO}(hb:∀t∈l,RB k t)(eU:1<=k)(hk:k<=2^24)(mB:l.length<=100):AC 185 [PV.tD l] (· =PV.aC (Ux l)):=by
 have cU:∀t∈l,rs t.q<=k:=λt ht=>(RB.raw (hb t ht) eU).rs
 refine aF Qd func185 ans λC hP=>?_;refine Sz0 ?_;refine kq 3 900 1 29 Oz Tz0 ?_;refine Qh eO [(3,3),(5,7),(10,51)] [5,49,50,900] (λn J hp=>∃i,n=l.length-i/\i<=l.length/\J 3= .ms 900 (nF (l.take i)).length/\J 10= .int .i64 (i:Nat)/\hp 900=some ⟨1,29,(nF (l.take i)).map PV.aC,false⟩) l.length ?_ ?_
 .refine⟨0,rfl,Oz,?_⟩;refine Sz0 ?_;exact⟨rfl,rfl,rfl⟩
 rintro _ J h ⟨i,rfl,hi,h3,bp,hh⟩;refine cH h3 bp (λhg=>?_) (λhg=>?_)
 .have au:i<l.length:=Oz;have dX:=hb _ (Kad au);have bl:=Q8t au;have bx:=Lk (l.take i);rw[Kay]at bx;generalize hx:l[i]=x at *
  have qN:=dX.l;have oM:=Gc x.m;have Ox:=(RB.raw dX eU).rs;refine Sz3 h3 bp hx ?_;refine Qh eO [(6,6),(17,29)] [] (λn J hp=>n<=x.m.length/\oy x.m n=fa x.m/\J 6= .int .i64 (n:Nat)/\hp 5=some ⟨4,114,[PV.sh x],false⟩/\hp 900=some ⟨1,29,(nF (l.take i)).map PV.aC,false⟩) x.m.length ?_ ?_
  .refine⟨by omega,rfl,?_⟩;exact Tz1 hh
  rintro n J2 h2 ⟨hn,hc,h6,cq,eZ⟩;refine Sz2 h6 cq ?_;refine fJ (λgF=>?_) (λgF=>?_)
  .obtain _|n:=n
   .omega
   have e:((n+1:Nat):Int)-1=n:=Oz;have uF:n<x.m.length:=Oz;simp only[oy]at hc;simp+decide (disch:=try exact D3 h6 cq e) only[go_sem,h6,cq,e];refine Qm (λhz=>?_) (λhz=>?_)
   .rw[if_pos (by simp[hz,uF])]at hc;refine Sz3 h6 cq e ?_;refine Qe n Oz ⟨by omega,hc,?_⟩;exact Tz2 cq eZ
   .rw[if_neg (by simpa[uF]using hz)]at hc;refine Sz3 h6 cq e ?_;rw[hc];refine Qy hP (Co (a:=fa x.m) Oz) ?_;refine Sz4 h3 bp h6 cq ?_;cases oH:eH (fa x.m)
    .rw[WI oH,Option.toList_none,Kcl,Kai]at bl;refine Sz4 h3 bp h6 cq ?_;simp (disch:=decide) only[iM,gY];refine Qe (l.length-(i+1)) Oz ⟨i+1,rfl,Oz,?_⟩;rw[bl];exact Tz2 eZ h3
    rw[WH oH,Option.toList_some,Kcx,Kcl]at bl;refine gy h3 bp h6 cq hP (vb (x:=0) Oz Oz) ?_;refine gy h3 bp h6 cq hP (Wr (RB.raw dX eU) Oz) ?_;refine gy h3 bp h6 cq hP (VK (a:=x.m) Oz) ?_;rw[if_pos oH];refine gy h3 bp h6 cq hP (Lm (c:=rv x.n x.a x.d) (m:=fa x.m) Oz) ?_;by_cases hz:rv x.n x.a x.d=0
    .rw[show yY (x.q,fa x.m)=none from if_pos hz,Kai]at bl;rw[if_pos hz];refine Sz4 h3 bp h6 cq ?_;simp (disch:=decide) only[iM,gY];refine Qe (l.length-(i+1)) Oz ⟨i+1,rfl,Oz,?_⟩;rw[bl];exact Tz2 eZ h3
    .rw[show yY (x.q,fa x.m)=some [(x.q,fa x.m)]from if_neg hz]at bl;rw[if_neg hz];refine Sz4 h3 bp h6 cq ?_;rw[Qq (f:=PV.aC) (y:=[(rv x.n x.a x.d,fa x.m)]) (xs:=nF (l.take i)) (ty':=29) (fz:=false) (Tz1 eZ) Qw Oz rfl Oz Oz];refine Sz4 h3 bp h6 cq ?_;simp (disch:=decide) only[iM,gY];refine Qe (l.length-(i+1)) Oz ⟨i+1,rfl,Oz,?_⟩;rw[bl];simp+decide (disch:=first|omega|rfl|(simp+decide only[go_sem,Kaz]<;>rfl)|fail) only[go_sem,Kaz];rfl
  .obtain rfl:n=0:=by omega
   refine bE h6 cq hP (Co (a:=[]) (by simp)) ?_;rw[show eH []=eH (fa x.m)by rw[<-hc];rfl];refine Sz4 h3 bp h6 cq ?_;cases oH:eH (fa x.m)
   .rw[WI oH,Option.toList_none,Kcl,Kai]at bl;refine Sz4 h3 bp h6 cq ?_;simp (disch:=decide) only[iM,gY];refine Qe (l.length-(i+1)) Oz ⟨i+1,rfl,Oz,?_⟩;rw[bl];exact Tz2 eZ h3
   rw[WH oH,Option.toList_some,Kcx,Kcl]at bl;refine gy h3 bp h6 cq hP (vb (x:=0) Oz Oz) ?_;refine gy h3 bp h6 cq hP (Wr (RB.raw dX eU) Oz) ?_;refine gy h3 bp h6 cq hP (VK (a:=x.m) Oz) ?_;rw[if_pos oH];refine gy h3 bp h6 cq hP (Lm (c:=rv x.n x.a x.d) (m:=fa x.m) Oz) ?_;by_cases hz:rv x.n x.a x.d=0
   .rw[show yY (x.q,fa x.m)=none from if_pos hz,Kai]at bl;rw[if_pos hz];refine Sz4 h3 bp h6 cq ?_;simp (disch:=decide) only[iM,gY];refine Qe (l.length-(i+1)) Oz ⟨i+1,rfl,Oz,?_⟩;rw[bl];exact Tz2 eZ h3
   .rw[show yY (x.q,fa x.m)=some [(x.q,fa x.m)]from if_neg hz]at bl;rw[if_neg hz];refine Sz4 h3 bp h6 cq ?_;rw[Qq (f:=PV.aC) (y:=[(rv x.n x.a x.d,fa x.m)]) (xs:=nF (l.take i)) (ty':=29) (fz:=false) (Tz1 eZ) Qw Oz rfl Oz Oz];refine Sz4 h3 bp h6 cq ?_;simp (disch:=decide) only[iM,gY];refine Qe (l.length-(i+1)) Oz ⟨i+1,rfl,Oz,?_⟩;rw[bl];simp+decide (disch:=first|omega|rfl|(simp+decide only[go_sem,Kaz]<;>rfl)|fail) only[go_sem,Kaz];rfl
 .obtain rfl:i=l.length:=by omega
  rw[KaQ]at hh h3;have bx:=Lk l;have EU:=Q8u l;have hK:(nF l).length*(k+1)<=100*(2^24+1):=KaZ Oz Oz;refine Sz2 h3 hh ?_;refine ko hP (L0 (K:=k+1) (E:=1048576) Oz _ (nF l) (Kag _) (ahc cU) Oz Oz Oz) (by simp+decide (disch:=try exact E1 hh) only[go_sem,hh,ch,Kak,Kao,Kal,Kaq,Kai];simp[Kaf]) rfl ?_;exact cf
variable{bs:List (List Int)}{f:LF}{fs:List LF}{i:Nat}
abbrev PV.gj(l:List Sq):PV:=.sl 4 (l.map PV.sq)
def Th:PV.le .aa (PV.gj []):=trivial
def JC(L:List Tm):List Tm:=Ux (L.map gk)
def oq(bs:List (List Int))(f:LF):List Tm:=(List.range bs.length).map λk=>(f.2 k,bs.getD k [])
def oA(bs:List (List Int))(f:LF):Sq:=(f.1,JC (oq bs f))
def vW(bs:List (List Int))(fs:List LF):PV:=if(fs.all λf=>decide (0<=f.1))=true then .aI [PV.gj (fs.map (oA bs)),.int .i64 0]else .aI [PV.gj [],.int .i64 17]
def akV{L:List Tm}(hb:∀t∈L,rs t.1<=k/\t.2.length<2^40)(eU:1<=k)(hk:k<=2^24)(hl:L.length<=100):AC 185 [PV.aC L] (· =PV.aC (JC L)):=by
 have h:=Q9l (l:=L.map gk) (k:=k) (λt ht=>by obtain⟨s,hs,rfl⟩:=KaD.1 ht;exact Du (hb s hs).1 (hb s hs).2) eU hk (by rw[KaC];exact hl)
 rwa[C4]at h
def Ge(bs:List (List Int))(f:LF):(oq bs f).length=bs.length:=by simp[oq]
def QE(h:k<bs.length):(oq bs f)[k]'(by rw[Ge];exact h)=(f.2 k,bs[k]):=by simp[oq,h]
def afZ(h:k<bs.length):(oq bs f).take (k+1)=(oq bs f).take k++[(f.2 k,bs[k])]:=by rw[Kam (by rw[Ge];exact h),QE h]
def C7{R:Nat}:∀(fs:List LF)(i c:Nat)(hi:i<fs.length),c<R->(iO R fs).getD (i*R+c) 0=(fs[i]).2 c
 | [],i,c,hi,hc=>by simp at hi
 | f::fs,i,c,hi,hc=>by
  have e:iO R (f::fs)=(List.range R).map f.2++iO R fs:=by simp[iO]
  rw[e];cases i with
  |zero=>rw[Kci,Ka2,Kac,Kbw (by simpa using hc)];simp[hc]
  |succ i=>
   have ih:=C7 (R:=R) fs i c (by simpa using hi) hc;rw[Kac,Kbb (by simp[KcV];omega)];rw[Kac]at ih;have e2:(i+1)*R+c-((List.range R).map f.2).length=i*R+c:=by simp[KcV];omega
   rw[e2,ih];simp
def apB{c:Nat}(hi:i<fs.length)(hc:c<R):∃h:i*R+c<(iO R fs).length,(iO R fs)[i*R+c]=(fs[i]).2 c:=by
 have hl:i*R+c<(iO R fs).length:=by rw[Cp];have:(i+1)*R<=fs.length*R:=Kap _ hi;rw[KcV]at this;omega
 refine⟨hl,?_⟩;have:=C7 (R:=R) fs i c hi hc;rw[Kac,Kae hl]at this;exact this
structure JW(K R:Nat)(bs:List (List Int))(fs:List LF):Prop where
 b:bs.length=R
 m:∀b∈bs,b.length<2^40
 r:R<=40
 l:fs.length<=200
 f:∀f∈fs,rs f.1<=K/\∀c,c<R->rs (f.2 c)<=K
 k:K<=2^24
 k1:1<=K
end Go.Proofs.YtikalonaompbdaaGreat
namespace Go.Proofs.YtikalonaompbdaaGreat
open Go.Proofs.Tryz
open Go Go.FW
variable{E K R i k m n:Nat}{bs:List (List Int)}{f:LF}{fs:List LF}{l:List RQ}{p:List Tm}{r:Int}
def JW.t{K R:Nat}{bs:List (List Int)}{fs:List LF}(h:JW K R bs fs){f:LF}(hf:f∈fs):∀t∈oq bs f,rs t.1<=K/\t.2.length<2^40:=λt ht=>by obtain⟨k,hk,rfl⟩:=KaH ht;rw[Ge]at hk;rw[QE hk];exact⟨(h.f f hf).2 k (by have:=h.b;omega),h.m _ (Kad _)⟩
variable{t:Tm}
def Q1h{la:List Rat}(h:JW K R bs fs)(xK:AC 183 [PV.kD bs,PV.dU R R la] (· = .int .i64 0))(wu:AC 184 [PV.dU R R la] (· =Cj R fs)):
  AC 102 [PV.kD bs,PV.dU R R la] (· =vW bs fs):=by
 have pF:=h.b;have hR:=h.r;have xP:=h.l;have azy:=Cp R fs;have hfR:fs.length*R<=200*40:=KaZ xP hR;have xI:∀i (hi:i<fs.length),fs[i].1<0->vW bs fs= .aI [PV.gj [],.int .i64 17]:=λi hi h=>by
  have:(fs.all λf=>decide (0<=f.1))=false:=by rw[Kcb];exact⟨_,Kad hi,by simp;grind⟩
  rw[vW,this,if_neg (by decide)]
 have bY:(∀j (h:j<fs.length),0<=fs[j].1)->vW bs fs= .aI [PV.gj (fs.map (oA bs)),.int .i64 0]:=λh=>by
  have:(fs.all λf=>decide (0<=f.1))=true:=by rw[Kas];intro t ht;obtain⟨j,hj,rfl⟩:=KaH ht;exact decide_eq_true (h j hj)
  rw[vW,if_pos this]
 have hWl:(fs.map (·.1)).length=fs.length:=KaC _;have hWg:∀i (hi:i<fs.length) (jW:i<(fs.map (·.1)).length),(fs.map (·.1))[i]=fs[i].1:=λi hi jW=>Kbc ..
 unfold Cj at wu;generalize fs.map (·.1)=W at *
 refine aF Qd func102 aoW λC hP=>?_;refine ay hP xK ?_;refine ay hP wu ?_;refine Sz0 ?_;refine kq 10 901 4 99 Oz Tz0 ?_;refine Qh okB [(4,5),(10,15),(33,71)] [12,61,62,69,70,900,901] (λq J hp=>∃i,q=fs.length-i/\i<=fs.length/\(∀j (h:j<fs.length),j<i->0<=fs[j].1)/\J 10= .ms 901 i/\J 33= .int .i64 (i:Nat)/\hp 8=some ⟨3,145,[PV.dU fs.length R (iO R fs)],false⟩/\hp 901=some ⟨4,99,((fs.take i).map (oA bs)).map PV.sq,false⟩) fs.length ?_ ?_
 .refine⟨0,rfl,Oz,Oz,?_⟩;refine Sz0 ?_;rfl
 rintro _ J h' ⟨i,rfl,hi,qQ,gi,wB,b8,b9⟩;refine aZ wB (λhg=>?_) (λhg=>?_)
 .have au:i<fs.length:=Oz;have eV:=Kad au;have hfm:=h.f _ eV;have hft:=h.t eV;have v5:=λc (hc:c<R)=>apB au hc
  have xJ:=xI i au;have bI:0<=fs[i].1->∀j (h:j<fs.length),j<i+1->0<=fs[j].1:=λh j hj fP=>by
   by_cases e:j=i
   .subst e;exact h
   .exact qQ j hj Oz
  have bl:(fs.take (i+1)).map (oA bs)=(fs.take i).map (oA bs)++[oA bs fs[i]]:=by rw[Kam au,KbN];rfl
  have uA:fs[i]∈fs:=eV;generalize hx:fs[i]=f at *
  have BY:=o8 (a:=f.1) (by have:=h.k;omega);have mE:= @CX f.1;have XV:=hWg i au Oz;rw[hx]at XV;refine bE wB @XV hP BY ?_;refine bD (λh0=>?_) (λh0=>?_)
  .refine Sz0 ?_;exact ek (r:=vW bs fs) (xJ (mE.1 h0)) rfl rfl Th (Qi _)
  have jE:0<=f.1:=by
   have:¬f.1<0:=λg=>h0 (mE.2 g)
   grind
  have hfT:=Ge bs f;refine Sz0 ?_;refine kq 13 900 4 114 Oz Tz0 ?_;refine Qh okB [(13,15),(43,63)] [61,62,900] (λq J hp=>∃k,q=bs.length-k/\k<=bs.length/\J 13= .ms 900 k/\J 43= .int .i64 (k:Nat)/\hp 8=some ⟨3,145,[PV.dU fs.length R (iO R fs)],false⟩/\hp 12=some ⟨3,49,[PV.rat f.1],false⟩/\hp 900=some ⟨4,114,((oq bs f).take k).map PV.term,false⟩/\
    hp 901=some ⟨4,99,((fs.take i).map (oA bs)).map PV.sq,false⟩) bs.length ?_ ?_
  .refine⟨0,rfl,Oz,?_⟩;refine Sz2 b8 b9 ?_;rfl
  rintro _ J2 h2 ⟨k,rfl,hk,zk,Nk,c8,vR,c9,c1⟩;refine aZ Nk (λgF=>?_) (λgF=>?_)
  .have cY:k<bs.length:=Oz;have a9:=afZ (f:=f) cY;obtain⟨a1,a2⟩:=v5 k Oz;have pE:((oq bs f).take k).length=k:=by rw[Kay];omega
   generalize(oq bs f).take k=T at *
   generalize hy:bs[k]=y at *
   refine Sz7 zk Nk wB c8 c9 hy a2 ?_;rw[Qq (f:=PV.term) (y:=(f.2 k,y)) (xs:=T) (ty':=114) (fz:=false) (Tz1 c9) Qw Oz pE.symm Oz Oz];refine Sz1 Nk ?_;refine Qe (bs.length-(k+1)) Oz ⟨k+1,rfl,Oz,?_⟩;rw[a9];exact Tz3 c8 vR c1
  .obtain rfl:k=bs.length:=by omega
   have gG:=akV (k:=K) hft h.k1 h.k Oz;have awZ:(oq bs f).take bs.length=oq bs f:=Kaf Oz;rw[awZ]at c9;have rZ:oA bs f=(f.1,JC (oq bs f)):=rfl;have pE:((fs.take i).map (oA bs)).length=i:=by rw[KaC,Kay];omega
   generalize(fs.take i).map (oA bs)=T at *
   generalize oq bs f=U at *
   have zS:List.take bs.length (U.map PV.term)=U.map PV.term:=Kaf (by rw[KaC];omega);simp (disch:=decide) only[iM,gY,LH];refine Sz7 gi wB zk c8 vR c9 c1 ?_;refine ko hP gG (Ib zS c9) rfl ?_;generalize JC U=V at *
   refine Vz7 gi wB zk c8 vR c9 c1 ?_;rw[Qq (f:=PV.sq) (y:=(f.1,V)) (xs:=T) (ty':=99) (fz:=false) (Bx c1) ba Oz pE.symm Oz Oz];refine jQ wB ?_;refine Qe (fs.length-(i+1)) Oz ⟨i+1,rfl,Oz,bI jE,?_⟩;rw[bl,rZ];exact Bx c8
 .obtain rfl:i=fs.length:=by omega
  have hr:=bY λj hj=>qQ j hj hj
  have htf:((fs.take fs.length).map (oA bs))=fs.map (oA bs):=by rw[KaQ]
  rw[htf]at b9;have zS:List.take fs.length ((fs.map (oA bs)).map PV.sq)=(fs.map (oA bs)).map PV.sq:=Kaf (by simp);refine ze gi b9 zS ?_;exact ek (r:=vW bs fs) hr rfl rfl (Qi _) (Qi _)
def W8:ax:=⟨28,[.t 2],Zr (YI 2)<|Zr (YI 3)<| .seq (Zr (YJ 7 0 180<|Zn 9 8<|Yf 10 0)<| .block 0<| .loop<|Zr (Yu 11 10 9)<| .seq (.cond (.t 11) .skip (.exit 0))<| .seq (.block 1<|Zr (Yw 12 8 10<|Zm 5 13 .nil)<|Zr (Zm 14 5<|Zk 15 .add 14 1<|Zo (.mk 16 1 8 3 (Zz 0) (.t 15) (.t 15))<|Zm 6 16 .nil)<|Zr (Yh 17 6 5<|Zi 19 1 17 18<|Zo (.st 1 (.t 19) (.c (Zz 1))) .nil)<| .rg (Yh 20 3 6<| .wk<|Zo (.bs 22 1 112 [.t 21])<|Zo (.app 23 1 24 112 (.t 20) (.t 22))<|Yc 3 23))<| .rg (YC 24 10 10))<|Zr (Zm 25 3<|Zo (.bs 26 1 112 [.c .aa])<|Zo (.app 27 1 24 112 (.t 25) (.t 26))<| .wk<|Yc 2 27) .ret⟩
def apC:Qc Tryz.prog f100=some W8.strip:=by kernel_rfl
def as4:ax:=⟨22,[.cell 4 3 true],Zr (Ye 4 .nil)<| .seq (Zr (dS 7 0)<| .block 0<| .loop<|Zr (Yu 10 9 8)<| .seq (.cond (.t 10) .skip (.exit 0))<| .seq (.block 1<|Zr (YL 11 7 9 6 114)<|Zr (eF 13 3 6 1<|Zq 16 false 158 [.t 14,.t 15,.c (Zz 0)]<|BA 17 16 0)<| .cond (.t 17) (Zr (cM 18 0 6 3<|Zs 3 4 19 .nil) .ret) .skip)<| .rg (YH 20 9 9))<|Zr (Zq 21 false 35 [.c (Zz 0)]<|Zs 3 4 21 .nil) .ret⟩
def apD:Qc Tryz.prog f181=some as4:=by kernel_rfl
def ata:ax:=⟨35,[.t 4],Zr (YI 4)<|Zr (YI 5)<| .seq (Zr (Yv 7 0<|Zk 9 .sub 8 1<|Yf 10 0)<| .block 0<| .loop<|Zr (Yu 11 10 9)<| .seq (.cond (.t 11) .skip (.exit 0))<| .seq (.block 1<|Zr (kO 12 10 6)<| .seq (.block 2<| .loop<| .seq (Zr (Yv 13 5<|YW 15 0 6<|Zn 19 18<|Zk 20 .sub 19 1<|Yu 21 14 20)<| .cond (.t 21) .skip (.exit 2))<| .block 3<| .rg (Zm 22 5<|Zq 23 false 35 [.c (Zz 0)]<|YA 24 3 49 23 56 22<|Yc 5 25))<| .rg (dq 26 5 1 6<|YG 29 3 27 28<|YA 31 3 49 30 56 26<|Yc 5 32))<| .rg (YC 33 10 10))<|Zr (MZ 34 5 4) .ret⟩
def apE:Qc Tryz.prog f188=some ata:=by kernel_rfl
def as8:ax:=⟨33,[.t 4],Zr (uu 2 145 0<|YI 4)<|Zr (YI 5)<| .seq (Zr (Ya 9 0 2<|Yf 11 0)<| .block 0<| .loop<|Zr (Yu 12 11 10)<| .seq (.cond (.t 12) .skip (.exit 0))<| .seq (.block 1<|Zr (kO 13 11 6)<|Zr (Yh 14 6 1<|Zb 16 .eql 14 15 .nil)<| .cond (.t 16) (.rg (Zm 17 5<|Zq 18 false 35 [.c (Zz 1)]<|YA 19 3 49 18 56 17<|Yc 5 20)) (.rg (Zm 21 5<|Zq 22 false 35 [.c (Zz 0)]<|YA 23 3 49 22 56 21<|Yc 5 24)))<| .rg (YC 25 11 11))<|Zr (sV 27 3 2 5<|Bz 29 286 27 28 26<|ic 7 30 31)<|Zr (MZ 32 7 4) .ret⟩
def apF:Qc Tryz.prog f186=some as8:=by kernel_rfl
def y7(p:List Tm):List Nat:=(List.range 64).filter (jk p)
def ie(p:List Tm):List (List Int):=(y7 p).map (λv=>fX v 1)++[[]]
def Ti{v:Nat}(h:v∈y7 p):v<64:=by simp[y7]at h;exact h.1
def akW(p:List Tm):(y7 p).length<=64:=by have:=KcI (jk p) (List.range 64);rw[List.length_range]at this;exact this
def af0(p:List Tm):Uw p=(y7 p).map λ(v:Nat)=>(v:Int):=rfl
def R0(T:List (List Int)):Prop:=∀(fr:Fr)(hp:HP)(ty:Nat),hp 900=some ⟨1,ty,T.map PV.mono++[.aa],false⟩->Wk fr hp fr (Qg hp 900 ⟨1,ty,(T++[[]]).map PV.mono,false⟩)
def Q7l(T:List (List Int)):R0 T:=λfr hp ty h=>by
 refine KP h (by simp) λi x x' hx bc=>?_
 by_cases hi:i<T.length
 .rw[Kbw (by simpa using hi)]at hx;rw[KbN,Kbw (by simpa using hi)]at bc;rw[hx]at bc;cases bc;rw[Kaw,Kaa]at hx;obtain⟨a,_,rfl⟩:=hx;exact⟨rfl,rfl,λj y y' h1 h2=>by rw[h1]at h2;cases h2;exact tP _⟩
 .have jW:i=T.length:=by have:=(Kah.1 hx).1;simp at this;omega
  subst jW;simp at hx bc;subst hx bc;exact⟨rfl,rfl,λj y y' h1 h2=>by
   cases j with
   |zero=>cases h1;cases h2;trivial
   |succ j=>cases h1⟩
def akX(hp:∀t∈p,MB E t.2)(dC:p.length<=2^36):AC 100 [PV.aC p] (· =PV.kD (ie p)):=by
 have hv:=Q9i hp dC;rw[af0]at hv;have mB:=akW p;have aA:∀v∈y7 p,v<64:=λv h=>Ti h
 unfold ie;generalize y7 p=V at *
 have hVl:(V.map λ(v:Nat)=>(v:Int)).length=V.length:=KaC _;have hVg:∀i (hi:i<V.length) (jW:i<(V.map λ(v:Nat)=>(v:Int)).length),(V.map λ(v:Nat)=>(v:Int))[i]=(V[i]:Int):=λi hi jW=>Kbc ..
 generalize V.map (λ(v:Nat)=>(v:Int))=W at *
 refine tM Qd func100 rfl apC Nz λC hP=>?_;simp only[W8];refine cC ?_;refine ay hP hv ?_;refine Sz0 ?_;refine kq 3 900 1 112 Oz Tz0 ?_;refine Qh okB [(3,3),(5,6),(10,24)] [16,22,23,900] (λq J hp=>∃i,q=V.length-i/\i<=V.length/\J 3= .ms 900 i/\J 10= .int .i64 (i:Nat)/\hp 900=some ⟨1,112,((V.take i).map λv=>fX v 1).map PV.mono,false⟩) V.length ?_ ?_
 .refine⟨0,rfl,Oz,?_⟩;refine Sz0 ?_;rfl
 rintro _ J h' ⟨i,rfl,hi,j3,gi,b9⟩;refine aZ gi (λhg=>?_) (λhg=>?_)
 .have au:i<V.length:=Oz;have azM:=aA _ (Kad au);have OJ:=hVg i au Oz;have bl:(V.take (i+1)).map (λv=>fX v 1)=(V.take i).map (λv=>fX v 1)++[fX V[i] 1]:=by rw[Kam au,KbN];rfl
  have pE:((V.take i).map λv=>fX v 1).length=i:=by rw[KaC,Kay];omega
  generalize(V.take i).map (λv=>fX v 1)=T at *
  generalize hx:V[i]=v at *
  have lD:(List.replicate (v+1) (0:Int)).set v 1=fX v 1:=RP v 1 rfl;have Oa:v<(List.replicate (v+1) (0:Int)).length:=by simp
  have mE:List.take (v+1) (nL (fX v 1))=nL (fX v 1):=Kaf (by simp[fX]);refine Sz3 gi OJ lD ?_;refine bV (vm 21 sU) ?_;refine ze mE j3 b9 ?_;rw[Qq (f:=PV.mono) (y:=fX v 1) (xs:=T) (ty':=112) (fz:=false) (Bx b9) ba Oz pE.symm Oz Oz];refine jQ gi ?_;refine Qe (V.length-(i+1)) Oz ⟨i+1,rfl,Oz,?_⟩;rw[bl];exact sU
 .obtain rfl:i=V.length:=by omega
  rw[KaQ]at b9;have qN:((V.map λv=>fX v 1).map PV.mono).length=V.length:=by simp
  have awy:R0 (V.map λv=>fX v 1):=Q7l _;have mE:List.take (V.length+1) ((V.map (λv=>fX v 1)++[[]]).map PV.mono)=(V.map (λv=>fX v 1)++[[]]).map PV.mono:=Kaf (by simp);generalize V.map (λv=>fX v 1)=T at *
  refine Sz2 j3 b9 ?_;rw[Hd (y:=.aa) (xs:=T.map PV.mono) (ty':=112) (fz:=false) (Tz1 b9) Tz0 Oz Oz Oz Oz];refine Sz0 ?_;refine bV (awy _ _ 112 Tz0) ?_;refine de ?_;refine SE (Wk.refl _ _) ?_;refine jQ mE ?_;exact Qb rfl rfl
variable{m:List Int}
def sM:List Tm->List Int->Rat
 | [],_=>0
 |t::p,m=>if bC t.2 m=0 then t.1 else sM p m
def ago(h:i<p.length):sM (p.drop i) m=if bC p[i].2 m=0 then p[i].1 else sM (p.drop (i+1)) m:=by rw[KaB h];rfl
def R1{m:List Int}{K E:Nat}:∀ {p:List Tm},PB K E p->1<=K->rs (sM p m)<=K
 | [],_,h=>by have:=Af;show rs 0<=K;omega
 |t::p,hp,h=>by
  unfold sM;split
  .have:=(hp t (by simp)).c;omega
  .exact R1 (λs hs=>hp s (Kbx _ hs)) h
def apG(hp:PB K E p)(hm:MB E m)(hE:E<=2^30)(dC:p.length<=2^36):AC 181 [PV.aC p,PV.mono m] (· =PV.rat (sM p m)):=by
 refine aF Qd func181 apD λC hP=>?_;refine Sz0 ?_;refine Qh okB [(6,6),(9,20)] [6] (λq J hp=>∃i,q=p.length-i/\i<=p.length/\sM (p.drop i) m=sM p m/\J 9= .int .i64 (i:Nat)/\hp 4=some ⟨3,49,[.agg [.bool false,.aa,.aa]],false⟩) p.length ?_ ?_
 .refine⟨0,rfl,Oz,rfl,?_⟩;refine Sz0 ?_;rfl
 rintro _ J h' ⟨i,rfl,hi,he,j9,b4⟩;refine aZ j9 (λhg=>?_) (λhg=>?_)
 .have au:i<p.length:=Oz;have ht:=hp _ (Kad au);rw[ago au]at he;have jD:=LZ (o:=0) ht.m hm Oz;rw[HN]at jD;generalize hx:p[i]=t at *
  refine bE j9 hx hP jD ?_;refine aZ j9 (λh0=>?_) (λh0=>?_)
  .rw[if_pos Oz]at he;refine Sz1 b4 ?_;refine cx ?_;refine Sz0 ?_;exact Qb (by rw[he]) rfl
  .rw[if_neg Oz]at he;refine Sz1 j9 ?_;refine Qe (p.length-(i+1)) Oz ⟨i+1,rfl,Oz,he,?_⟩;exact Tz1 b4
 .obtain rfl:i=p.length:=by omega
  rw[Kcz]at he;refine ay hP (qt (x:=0) Oz Oz) ?_;refine Sz1 b4 ?_;refine cx ?_;refine Sz0 ?_;exact Qb (by rw[<-he];rfl) rfl
def Lf(p:List Tm)(bs:List (List Int))(i k:Nat):Rat:=if i=k then sM p (eJ (bs.getD i []) (bs.getD k []))else sM p (eJ (bs.getD i []) (bs.getD k []))/2
def sN(p:List Tm)(bs:List (List Int))(j:Nat):Rat:=Lf p bs (j/bs.length) (j%bs.length)
def vA(p:List Tm)(bs:List (List Int)):List Rat:=(List.range (bs.length*bs.length)).map (sN p bs)
def QF(p:List Tm)(bs:List (List Int)):(vA p bs).length=bs.length*bs.length:=by simp[vA]
def akY(hk:k<bs.length):sN p bs (i*bs.length+k)=Lf p bs i k:=by have hR:0<bs.length:=Oz;unfold sN;rw[KbM,KcN,KaP hk,Kch _ _ hR,KbV hk,Ka2]
def W9:ax:=⟨53,[.cell 4 3 true],Zr (fc 4 .nil)<|Zr (Yv 9 1<|Yv 11 1<|Zo (.cD 13 [Zz 0,Zz 0,.aa] [(0,1,.t 10),(1,1,.t 12)])<|fc 5<| .wk<| .wk<|Zs 3 5 13<| .wk .nil)<| .seq (Zr (dS 14 1)<| .block 0<| .loop<|Zr (Yu 17 16 15)<| .seq (.cond (.t 17) .skip (.exit 0))<| .seq (.block 1<|Zr (kO 18 16 6)<|Zr (dS 19 1)<| .block 2<| .loop<|Zr (Yu 22 21 20)<| .seq (.cond (.t 22) .skip (.exit 2))<| .seq (.block 3<|Zr (MZ 23 21 7)<|Zr (dq 24 0 1 6<|Yw 27 25 26<|YW 29 1 7<| .br (Ys 33 157 28 32<| .br (Ys 34 181 24 33<|Ye 8<|iR 3 34) (Ye 8<|uo 34 181 24 33 3 8)) (Ye 8<|Ys 33 157 28 32<|uo 34 181 24 33 3 8))<| .seq (Zr (Yh 35 6 7<|Zb 37 .neq 35 36 .nil)<| .cond (.t 37) (.rg (Zh 39 3 8<|Zq 40 true 35 [.c (Zz 2)]<|Ys 41 182 39 40<|Zm 38 41<|Yd 42 38<|iR 3 42)) .skip)<| .rg (Ya 44 2 5<|Zh 46 3 8<|Zo (.bs 47 3 49 [.t 46])<|Zo (.app 48 3 56 49 (.t 45) (.t 47))<|qw 49 2 5 1 48))<| .rg (YC 50 21 21))<| .rg (YC 51 16 16))<|Zr (Zh 52 3 5<| .wk<|Zs 3 4 52 .nil) .ret⟩
def apH:Qc Tryz.prog f101=some W9.strip:=by kernel_rfl
abbrev Nl(n k:Nat):PV:=.aU [.int .i64 (n:Nat),.int .i64 (n:Nat),.aD 2000002 0 k]
def apI{F:Nat}(hp:PB K E p)(hb:∀b∈bs,MB F b)(hF:F<=1000)(hE:E<=2^29)(dC:p.length<=2^30)(pF:bs.length<=1000)(hK:K<=2^30)(Ej:1<=K):
  AC 101 [PV.aC p,PV.kD bs] (· =PV.dU bs.length bs.length (vA p bs)):=by
 have hz:([.agg [.int .i64 0,.int .i64 0,.aa]]:List PV)≠[]:=by simp
 have Jl:∀x∈([.agg [.int .i64 0,.int .i64 0,.aa]]:List PV),x.aV=x.cells:=λx hx=>by rw[Kax.1 hx];rfl
 have I4:bs.length*bs.length<=1000*1000:=KaZ pF pF;obtain⟨n,hn⟩:∃n,n=bs.length:=⟨_,rfl⟩
 refine tM Qd func101 rfl apH Nz λC hP=>?_;simp only[W9];refine cC ?_;refine Sz0 ?_;refine bV (kv 5 2000001 Qw Oz rfl Oz) ?_;refine Sz0 ?_;refine bV (me (γ:=2000001) (e:=3) (ty:=145) (fz:=false) Tz0 hz Oz Jl) ?_;refine Sz0 ?_;refine bV (Dc (γ:=2000001) (e:=3) (ty:=145) (cs:=[.int .i64 (bs.length:Nat),.int .i64 (bs.length:Nat),.aa]) (cs':=[.int .i64 (bs.length:Nat),.int .i64 (bs.length:Nat),.aD 2000002 0 0]) 2000002 3 49 Tz0 Qw Oz Oz rfl (by simp)) ?_;refine Sz0 ?_;refine je okB [(5,8),(16,51),(2000001,2000001)] [8,47,48] (λq J hp=>∃i,q=bs.length-i/\i<=bs.length/\J 5= .np 2000001 0 0/\J 16= .int .i64 (i:Nat)/\J 2000001= .aH 2000001 3 145 [Nl bs.length (i*bs.length)]/\
  hp 4=some ⟨3,145,[.agg [.int .i64 0,.int .i64 0,.aa]],false⟩/\hp 2000001=some ⟨3,145,[],false⟩/\hp 2000002=some ⟨3,49,((List.range (i*bs.length)).map (sN p bs)).map PV.rat,false⟩) bs.length ?_ ?_
 .refine⟨0,rfl,Oz,?_⟩;refine Sz1 @Nat.zero_mul ?_;exact⟨rfl,rfl⟩
 rintro _ J h ⟨i,rfl,hi,j5,oQ,jb,b4,hb1,hx⟩;refine aZ oQ (λhc=>?_) (λhc=>?_)
 .have au:i<bs.length:=Oz;have ZE:i*bs.length+bs.length<=bs.length*bs.length:=by have:=Kap bs.length au;rw[KcV]at this;exact this
  refine Sz6 j5 oQ jb b4 hb1 hx ?_;refine je okB [(5,5),(7,8),(21,50),(2000001,2000001)] [8,47,48] (λq J hp=>∃k,q=bs.length-k/\k<=bs.length/\J 5= .np 2000001 0 0/\J 21= .int .i64 (k:Nat)/\J 2000001= .aH 2000001 3 145 [Nl bs.length (i*bs.length+k)]/\
   hp 4=some ⟨3,145,[.agg [.int .i64 0,.int .i64 0,.aa]],false⟩/\hp 2000001=some ⟨3,145,[],false⟩/\hp 2000002=some ⟨3,49,((List.range (i*bs.length+k)).map (sN p bs)).map PV.rat,false⟩) bs.length ?_ ?_
  .refine⟨0,rfl,Oz,?_⟩;refine Sz5 j5 jb b4 hb1 hx ?_;rfl
  rintro _ J2 g ⟨k,rfl,hk,i5,i21,ib,g4,gb,gx⟩;refine aZ i21 (λBN=>?_) (λBN=>?_)
  .have cY:k<bs.length:=Oz;have NQ:=akY (p:=p) (i:=i) cY;have m1:=hb _ (Kad au);have m2:=hb _ (Kad cY);have e1:bs.getD i []=bs[i]:=by simp[au]
   have e2:bs.getD k []=bs[k]:=by simp[cY]
   unfold Lf at NQ;rw[e1,e2]at NQ;have En:((List.range (i*bs.length+k)).map (sN p bs)).length=i*bs.length+k:=by simp
   have uO:(List.range (i*bs.length+(k+1))).map (sN p bs)=(List.range (i*bs.length+k)).map (sN p bs)++[sN p bs (i*bs.length+k)]:=by rw[<-Nat.add_assoc,List.range_succ,KbN];rfl
   rw[NQ]at uO;have Od:=WO m1 m2 Oz;have I2:=m1.mul m2;generalize(List.range (i*bs.length+k)).map (sN p bs)=T at *
   generalize nn:bs[i]=x1 at *
   generalize jF:bs[k]=x2 at *
   have aj:=apG (p:=p) (m:=eJ x1 x2) (K:=K) (E:=E+2000) (hp.mono Oz Oz) (I2.mono Oz) Oz Oz;have cU:=R1 (m:=eJ x1 x2) hp Ej;generalize eJ x1 x2=y at *
   generalize sM p y=c at *
   have mC:=qt (x:=2) Oz Oz;have jX:rs ((2:Int):Rat)<=1:=by decide+kernel
   have BP:=Bl (a:=c) (b:=((2:Int):Rat)) (k:=K+1) Oz Oz Oz (by decide+kernel);rw[show((2:Int):Rat)=2 from rfl]at mC BP;refine Sz9 i5 i21 ib g4 gb gx oQ nn jF ?_
   repeat' first
    |refine fU ?_ ?_
    |refine Qy hP Od ?_
    |refine Qy hP aj ?_
    |simp+decide (disch:=try exact D6 i5 i21 ib g4 gb gx) only[go_sem,i5,i21,ib,g4,gb,gx]
   all_goals
    refine Qm (λaS=>?_) (λheq=>?_)
    .rw[if_neg Oz]at uO;refine ay hP mC ?_;refine ay hP BP ?_;generalize c/2=z at *
     refine Sz6 i5 i21 ib g4 gb gx ?_;rw[wK (f:=PV.rat) (y:=z) (xs:=T) (ty':=49) (fz:=false) (Tz1 gx) Tz0 Oz En.symm Oz Oz Oz];refine Sz6 i5 i21 ib g4 gb gx ?_;refine gO (bs.length-(k+1)) Oz ⟨k+1,rfl,Oz,?_⟩;rw[uO];refine Sz4 i5 ib g4 gb ?_;rfl
    .rw[if_pos Oz]at uO;refine Sz6 i5 i21 ib g4 gb gx ?_;rw[wK (f:=PV.rat) (y:=c) (xs:=T) (ty':=49) (fz:=false) (Tz1 gx) Tz0 Oz En.symm Oz Oz Oz];refine Sz6 i5 i21 ib g4 gb gx ?_;refine gO (bs.length-(k+1)) Oz ⟨k+1,rfl,Oz,?_⟩;rw[uO];refine Sz4 i5 ib g4 gb ?_;rfl
  .have hiR:k=bs.length:=Oz;subst hiR;refine Sz1 oQ ?_;simp (disch:=decide) only[rk,tG,gY,tI];refine gO (bs.length-(i+1)) Oz ⟨i+1,rfl,Oz,?_⟩;rw[show(i+1)*bs.length=i*bs.length+bs.length from KcV _ _];exact Tz5 i5 ib g4 gb gx
 .obtain rfl:i=bs.length:=by omega
  rw[show(List.range (bs.length*bs.length)).map (sN p bs)=vA p bs from rfl]at hx;have xQ:=QF p bs;refine Sz5 j5 jb b4 hb1 hx ?_;refine JY 52 2 [2000002] (p:=Nl bs.length (bs.length*bs.length)) Tz0 (D:=PV.dU bs.length bs.length (vA p bs)) ?_ ?_ rfl ?_
  .intro c hc;simp only[KaA,KaR,or_false]at hc;rcases hc with rfl|rfl|rfl
   .trivial
   .trivial
   .simp only[qY,aP];simp
  .show PV.agg [_,_,iE _ h 2 (.aD 2000002 0 _)]=_;simp only[iE,hx,Ka6];rw[Kaf (by rw[KaC];omega)]
  refine Ic j5 jb b4 hb1 hx ?_;refine ss (cx ?_);refine jQ b4 ?_;exact Qb rfl rfl
def ar8:ax:=⟨68,[.t 6],Zr (dH 5 3 145 2<|YI 6)<|Zr (iB 19 3 5 184<|Zm 18 20<|Yd 21 18<|Zo (.ext 23 (.t 18) 2)<|fc 8<|Zm 7 21<|Zs 3 8 22<|Yc 9 23)<|Zr (Yf 10 0)<| .seq (.block 0<| .loop<| .seq (Zr (Yh 24 7 10<|YG 26 3 24 25<|Yn 28 19 27<|Zk 29 .geq 28 0 .nil)<| .cond (.t 29) .skip (.exit 0))<| .block 1<| .rg (fO 30 10))<|Zr (sV 32 3 8 10<|Yp 34 186 32 33<|Yc 11 34)<|Zr (Yh 35 11 11<|Zn 37 36<|Zk 38 .sub 37 1<|YG 39 3 35 38<|Ye 12<|Zs 3 12 40 .nil)<| .seq (Zr (iB 41 3 12 19<|BA 43 42 0)<| .cond (.t 43) (Zr (dq 44 0 1 11<|mY 47 187 44 45 46<|Yc 6 47) .ret) .skip)<|Zr (YI 13)<| .seq (Zr (dS 48 11)<| .block 2<| .loop<|Zr (Yu 51 50 49)<| .seq (.cond (.t 51) .skip (.exit 2))<| .seq (.block 3<|Zr (YG 52 3 48 50<|Ye 15<|Zs 3 15 53 .nil)<|Zr (Zh 55 3 15<|Zh 56 3 12<|Bz 57 182 55 56 54<|Ye 16<|Zs 3 16 58<|Yc 17 59)<| .rg (Zm 60 13<|Zh 61 3 16<|YA 62 3 49 61 56 60<|Yc 13 63))<| .rg (YC 64 50 50))<|Zr (YZ 65 1 13 188<|Yc 6 67) .ret⟩
def apJ:Qc Tryz.prog f103=some ar8:=by kernel_rfl
def sO(n a:Nat):List Rat:=(List.range n).map λk=>if k=a then 1 else 0
def agp{a:Nat}:sO (n+1) a=sO n a++[if n=a then 1 else 0]:=by unfold sO;rw[List.range_succ,KbN];rfl
def Ms(n a:Nat):(sO n a).length=n:=by simp[sO]
def akZ{a:Nat}{L x:List Rat}{e:Int}(hn:n<=2^30)(hs:AC 286 [PV.dU n R L,PV.cg (sO n a)] (· = .aI [PV.cg x,.int .i64 e])):AC 186 [PV.dU n R L,.int .i64 (a:Nat)] (· =PV.cg x):=by
 have Ok:=qt (x:=1) Oz Oz;have zL:=qt (x:=0) Oz Oz;rw[show((1:Int):Rat)=1 from rfl]at Ok;rw[show((0:Int):Rat)=0 from rfl]at zL;refine aF Qd func186 apF λC hP=>?_;refine Sz0 ?_;refine kq 5 900 3 49 Oz Tz0 ?_;refine Qh okB [(5,6),(11,25)] [19,20,23,24,900] (λq J hp=>∃i,q=n-i/\i<=n/\J 5= .ms 900 i/\J 11= .int .i64 (i:Nat)/\hp 2=some ⟨3,145,[PV.dU n R L],false⟩/\hp 900=some ⟨3,49,(sO i a).map PV.rat,false⟩) n ?_ ?_
 .refine⟨0,rfl,Oz,?_⟩;refine Sz0 ?_;exact⟨rfl,rfl⟩
 rintro _ J h' ⟨i,rfl,hi,j5,iW,b2,b9⟩;refine aZ iW (λhg=>?_) (λhg=>?_)
 .have au:i<n:=Oz;have uO:=agp (n:=i) (a:=a);have zT:=Ms i a;generalize sO i a=T at *
  refine aZ iW (λh0=>?_) (λh0=>?_)
  .rw[if_pos Oz]at uO;refine bE j5 b9 hP Ok ?_;generalize(1:Rat)=z at *
   refine Sz2 j5 b9 ?_;rw[Qq (f:=PV.rat) (y:=z) (xs:=T) (ty':=49) (fz:=false) (Tz1 b9) Qw Oz zT.symm Oz Oz];refine Sz1 iW ?_;refine Qe (n-(i+1)) Oz ⟨i+1,rfl,Oz,?_⟩;rw[uO];exact Tz1 b2
  .rw[if_neg Oz]at uO;refine bE j5 b9 hP zL ?_;generalize(0:Rat)=z at *
   refine Sz2 j5 b9 ?_;rw[Qq (f:=PV.rat) (y:=z) (xs:=T) (ty':=49) (fz:=false) (Tz1 b9) Qw Oz zT.symm Oz Oz];refine Sz1 iW ?_;refine Qe (n-(i+1)) Oz ⟨i+1,rfl,Oz,?_⟩;rw[uO];exact Tz1 b2
 .obtain rfl:i=n:=by omega
  have zT:=Ms i a;generalize sO i a=T at *
  have mE:List.take i (T.map PV.rat)=T.map PV.rat:=Kaf (by rw[KaC];omega);refine Sz3 j5 b2 b9 ?_;refine ko hP hs (Ib mE b9) rfl ?_;refine de ?_;exact Qb rfl rfl
def mV(bs:List (List Int))(x:List Rat):Nat->List Rat
 |0=>[]
 |i+1=>mV bs x i++List.replicate ((bs.getD i []).length-1-(mV bs x i).length) 0++[x.getD i 0]
def R2{bs:List (List Int)}{x:List Rat}{m:Nat}(hb:∀b∈bs,b.length<=m):∀i,(mV bs x i).length<=m+i
 |0=>by simp[mV]
 | i+1=>by
  have ih:=R2 (x:=x) hb i;have h1:(bs.getD i []).length<=m:=by
   rw[Kac];cases h:bs[i]? with
   |none=>simp
   |some b=>simp;exact hb b (Kaj h)
  simp only[mV,Kaz,List.length_replicate,List.length_singleton];omega
def ahZ{x:List Rat}(pF:1<=bs.length)(azo:bs.length<=2^20)(hb:∀b∈bs,b.length<=2^20)(hx:bs.length<=x.length+1)(eM:x.length<=2^20):AC 188 [PV.kD bs,PV.cg x] (· =PV.cg (mV bs x (bs.length-1))):=by
 have zL:=qt (x:=0) Oz Oz;rw[show((0:Int):Rat)=0 from rfl]at zL;have bm:=λi=>R2 (x:=x) hb i
 refine aF Qd func188 apE λC hP=>?_;refine Sz0 ?_;refine kq 5 900 3 49 Oz Tz0 ?_;refine Qh okB [(5,6),(10,33)] [24,25,31,32,900] (λq J hp=>∃i,q=bs.length-1-i/\i<=bs.length-1/\J 5= .ms 900 (mV bs x i).length/\J 10= .int .i64 (i:Nat)/\hp 900=some ⟨3,49,(mV bs x i).map PV.rat,false⟩) (bs.length-1) ?_ ?_
 .refine⟨0,rfl,Oz,?_⟩;refine Sz0 ?_;exact⟨rfl,rfl,rfl⟩
 rintro _ J h' ⟨i,rfl,hi,j5,gi,b9⟩;refine aZ gi (λhg=>?_) (λhg=>?_)
 .have au:i<bs.length:=Oz;have hix:i<x.length:=Oz;have xJ:=hb _ (Kad au);have a9:mV bs x (i+1)=mV bs x i++List.replicate (bs[i].length-1-(mV bs x i).length) 0++[x[i]]:=by
   have e1:bs.getD i []=bs[i]:=by simp[au]
   have e2:x.getD i 0=x[i]:=by simp[hix]
   rw[mV,e1,e2]
  have kS:=bm i;generalize hy:bs[i]=b at *
  generalize hz:x[i]=z at *
  generalize mV bs x i=T at *
  refine Sz2 gi j5 ?_;refine Qh okB [(5,5),(13,25)] [24,25,900] (λq J hp=>∃k,q=b.length-1-T.length-k/\k<=b.length-1-T.length/\J 5= .ms 900 (T.length+k)/\hp 900=some ⟨3,49,(T++List.replicate k 0).map PV.rat,false⟩) (b.length-1-T.length) ?_ ?_
  .refine⟨0,rfl,Oz,?_⟩;refine Sz2 j5 b9 ?_;simp
  rintro _ J2 h2 ⟨k,rfl,hk,g5,g9⟩;refine cH g5 hy (λgF=>?_) (λgF=>?_)
  .have pE:(T++List.replicate k (0:Rat)).length=T.length+k:=by simp
   have hre:T++List.replicate (k+1) (0:Rat)=(T++List.replicate k 0)++[0]:=by rw[KcP,Kbr]
   generalize T++List.replicate k (0:Rat)=U at *
   refine bE g5 g9 hP zL ?_;generalize(0:Rat)=o at *
   refine Sz2 g5 g9 ?_;rw[Qq (f:=PV.rat) (y:=o) (xs:=U) (ty':=49) (fz:=false) (Tz1 g9) Qw Oz pE.symm Oz Oz];refine Sz0 ?_;refine Qe (b.length-1-T.length-(k+1)) Oz ⟨k+1,rfl,Oz,?_⟩;rw[hre];refine Sz0 ?_;rfl
  .have qM:k=b.length-1-T.length:=Oz;have pE:(T++List.replicate k (0:Rat)).length=T.length+k:=by simp
   rw[<-qM]at a9;generalize T++List.replicate k (0:Rat)=U at *
   simp (disch:=decide) only[iM,gY,LH];refine Sz4 g5 g9 gi hz ?_;rw[Qq (f:=PV.rat) (y:=z) (xs:=U) (ty':=49) (fz:=false) (Tz1 g9) Qw Oz pE.symm Oz Oz];refine Sz1 gi ?_;refine Qe (bs.length-1-(i+1)) Oz ⟨i+1,rfl,Oz,?_⟩;rw[a9];refine Sz0 ?_;simp[pE]
 .obtain rfl:i=bs.length-1:=by omega
  have mE:List.take (mV bs x (bs.length-1)).length ((mV bs x (bs.length-1)).map PV.rat)=(mV bs x (bs.length-1)).map PV.rat:=Kaf (by simp);refine ze j5 b9 mE ?_;exact Qb rfl rfl
def c49:ax:=⟨35,[.t 2,.t 3,.t 4],Zr (Yi 2<|gz 3 0)<| .seq (Zr (YJ 7 0 98<|Zu 9 8 .nil)<| .cond (.t 9) (Zr (Yi 2<|gz 3 1) .ret) .skip)<| .seq (Zr (YJ 10 0 99<|Zk 12 .gtr 11 2 .nil)<| .cond (.t 12) (Zr (Yi 2<|gz 3 8) .ret) .skip)<|Zr (YJ 13 0 100<|Zm 5 14 .nil)<| .seq (Zr (Yv 15 5<|Zk 17 .gtr 16 40 .nil)<| .cond (.t 17) (Zr (Yi 2<|gz 3 4) .ret) .skip)<|Zr (YZ 18 0 5 101<|fc 6<|Zs 3 6 20 .nil)<|Zr (Zm 22 5<|Zh 23 3 6<|Bz 24 102 22 23 21<|Zm 2 25<|Yc 4 26)<| .seq (Zr (Zm 27 4<|BA 28 27 17)<| .cond (.t 28) (Zr (Yh 29 0 5<|Zh 31 3 6<|mY 32 103 29 30 31<|Yi 2<|Zm 3 32<|Yf 4 17) .ret) .skip)<|Zr (Yh 33 2 4<|Zm 2 33<|Yi 3<|Yc 4 34) .ret⟩
def ad7:Qc Tryz.prog f49=some c49:=by kernel_rfl
def Q9m{a m:Nat}{la W L x w:List Rat}{c:Rat}(wu:AC 184 [PV.dU R R la] (· = .aI [PV.cg W,PV.dU n R L,.int .i64 0]))(ha:a<W.length)(hWl:W.length<=1000)(hW:∀q∈W,rs q<2^36)(h1:∀j (h:j<W.length),j<a->0<=W[j])(h2:W[a]<0)
  (Oq:AC 186 [PV.dU n R L,.int .i64 (a:Nat)] (· =PV.cg x)) (eM:x.length=m+1) (hm:m<=1000) (Jk:∀q∈x,rs q<2^30) (hc:x[m]'Oz=c) (hfa:c=0->AC 187 [PV.aC p,PV.kD bs,PV.cg x] (· =PV.cg w)) (im:c≠0->AC 188 [PV.kD bs,PV.cg (x.map (· /c))] (· =PV.cg w)):
  AC 103 [PV.aC p,PV.kD bs,PV.dU R R la] (· =PV.cg w):=by
 have xM:rs c<2^30:=by rw[<-hc];exact Jk _ (Kad _)
 have hsc:=o8 (a:=c) Oz;have fF:= @fy c;refine aF Qd func103 apJ λC hP=>?_;refine ay hP wu ?_;refine Sz0 ?_;refine Qh okB [(10,10),(24,31)] [] (λq J hp=>∃i,q=a-i/\i<=a/\J 10= .int .i64 (i:Nat)/\hp 8=some ⟨3,145,[PV.dU n R L],false⟩) a ?_ ?_
 .refine⟨0,rfl,Oz,?_⟩;refine Sz0 ?_;rfl
 rintro _ J h' ⟨i,rfl,hi,gi,b8⟩;have Ze:i<W.length:=Oz;have OK:=hW _ (Kad Ze);have BY:=o8 (a:=W[i]) OK;have mE:= @CX W[i];by_cases hia:i=a
 .subst hia;have azR:=mE.2 h2;generalize hy:W[i]=y at *
  refine bE gi hy hP BY ?_;refine Sz0 ?_;refine Qm (λh0=>absurd h0 Oz) (λ_=>?_);refine bE gi b8 hP Oq ?_;have EN:(x.length:Int)-1=((m:Nat):Int):=Oz;refine bE EN hc hP hsc ?_;refine bD (λh0=>?_) (λh0=>?_)
  .have hf:=hfa (fF.1 h0);refine ay hP hf ?_;exact cf
  have rP:c≠0:=λh=>h0 (fF.2 h)
  replace im:=im rP;refine Sz0 ?_;refine kq 13 900 3 49 Oz Tz0 ?_;refine Qh okB [(13,13),(15,17),(50,64)] [15,16,62,63,900] (λq J hp=>∃i,q=x.length-i/\i<=x.length/\J 13= .ms 900 i/\J 50= .int .i64 (i:Nat)/\hp 12=some ⟨3,49,[PV.rat c],false⟩/\hp 900=some ⟨3,49,((x.take i).map (· /c)).map PV.rat,false⟩) x.length ?_ ?_
  .refine⟨0,rfl,Oz,?_⟩;refine Sz1 eM ?_;rfl
  rintro _ J2 m8 ⟨i,rfl,jW,zk,Iv,vR,c9⟩;refine aZ Iv (λhg=>?_) (λhg=>?_)
  .have au:i<x.length:=Oz;have gB:=Jk _ (Kad au);have bl:(x.take (i+1)).map (· /c)=(x.take i).map (· /c)++[x[i]/c]:=by rw[Kam au,KbN];rfl
   have pE:((x.take i).map (· /c)).length=i:=by rw[KaC,Kay];omega
   generalize(x.take i).map (· /c)=T at *
   generalize hz:x[i]=z at *
   have BP:=Bl (a:=z) (b:=c) (k:=2^30) Oz Oz Oz rP;refine kN zk Iv vR c9 hz hP BP ?_;generalize z/c=u at *
   refine Sz4 zk Iv vR c9 ?_;rw[Qq (f:=PV.rat) (y:=u) (xs:=T) (ty':=49) (fz:=false) (Tz1 c9) Qw Oz pE.symm Oz Oz];refine Sz1 Iv ?_;refine Qe (x.length-(i+1)) Oz ⟨i+1,rfl,Oz,?_⟩;rw[bl];exact Tz1 vR
  .obtain rfl:i=x.length:=by omega
   rw[KaQ]at c9;have zS:List.take x.length ((x.map (· /c)).map PV.rat)=(x.map (· /c)).map PV.rat:=Kaf (by simp);refine Sz2 zk c9 ?_;refine ko hP im (Ib zS c9) rfl ?_;refine de ?_;exact Qb rfl rfl
 .have h1i:=h1 i Ze Oz;have I4:¬ji W[i]<0:=λh=>by have:=mE.1 h;grind
  generalize hy:W[i]=y at *
  refine bE gi hy hP BY ?_;refine Sz0 ?_;refine Qm (λ_=>?_) (λh0=>absurd h0 Oz);refine Sz1 gi ?_;refine Qe (a-(i+1)) Oz ⟨i+1,rfl,Oz,?_⟩;exact Tz1 b8
def agq(hb:PB K E p)(hv:yq p)(hK:K<2^36)(hl:p.length<2^40):AC 98 [PV.aC p] (· = .bool true):=by
 have h:=Ly (l:=p.map gk) (k:=max K 1) (λt ht=>by obtain⟨s,hs,rfl⟩:=KaD.1 ht;have:=(hb s hs).c;exact Du Oz (by have:=(hb s hs).m.len;omega)) Oz Oz (by rw[KaC];exact hl)
 rwa[C4,Hp hv]at h
def H7:∀b∈ie p,MB 1 b/\b.length<=64/\b.getLast? ≠some 0:=λb hb=>by
 rcases KaN.1 hb with hb|hb
 .obtain⟨v,hv,rfl⟩:=KaD.1 hb;have:=Ti hv;exact⟨SM this,by simp[fX];omega,P3 Oz⟩
 .rw[Kax.1 hb];exact⟨⟨by simp,by simp,by simp⟩,by simp,by simp⟩
def Qzt{L:List Sq}{e:Int}{w:List Rat}(hb:PB K E p)(hE:E<=2^29)(hK:K<=2^30)(Ej:1<=K)(dC:p.length<=2^30)(hr:AC 98 [PV.aC p] (· = .bool true))(hd:xm p<=2)(hn:(ie p).length<=40)
  (hF:AC 102 [PV.kD (ie p),PV.dU (ie p).length (ie p).length (vA p (ie p))] (· = .aI [PV.gj L,.int .i64 e]))
  (hN:e=17->L=[]/\AC 103 [PV.aC p,PV.kD (ie p),PV.dU (ie p).length (ie p).length (vA p (ie p))] (· =PV.cg w)) (hw:e≠17->w=[]):
  AC 49 [PV.aC p] (· = .aI [PV.gj L,PV.cg w,.int .i64 e]):=by
 have hdg:=Q3w hb Oz Oz;have hba:=akX (λt ht=>(hb t ht).m) (show p.length<=2^36 by omega);have hgr:=apI (bs:=ie p) (F:=1) hb (λb h=>(H7 b h).1) Oz hE dC Oz hK Ej;generalize ie p=bs at *
 generalize vA p bs=la at *
 refine aF Qd func49 ad7 λC hP=>?_;refine ay hP hr ?_;refine ay hP hdg ?_;refine Sz0 ?_;refine Qm (λh0=>absurd h0 Oz) (λ_=>?_);refine ay hP hba ?_;refine Sz0 ?_;refine Qm (λh0=>absurd h0 Oz) (λ_=>?_);refine ay hP hgr ?_;refine ay hP hF ?_;refine bD (λh0=>?_) (λh0=>?_)
 .obtain⟨rfl,Eo⟩:=hN h0;subst h0;refine ay hP Eo ?_;refine Sz0 ?_;exact ox (r:=.aI [PV.gj [],PV.cg w,.int .i64 17]) rfl rfl rfl rfl Th (Qi _) (Qi _)
 .obtain rfl:=hw h0;refine Sz0 ?_;exact ox (r:=.aI [PV.gj L,PV.cg [],.int .i64 e]) rfl rfl rfl rfl (Qi _) trivial (Qi _)
variable{x:Sq}
def QG{l:List Sq}(h:∀i,i<l.length->ku (ia (l.take (i+1)))=false):∀k i,i+k=l.length->lV (l.drop i) (ia (l.take i))=some (ia l)
 |0,i,hi=>by
  obtain rfl:i=l.length:=by omega
  rw[Kcz,KaQ];rfl
 |k+1,i,hi=>by rw[L4 _ Oz,<-G5 Oz,h i Oz,if_neg (by decide)];exact QG h k (i+1) Oz
def iP(x:Sq):dB:=⟨decide (x.1.num<0),aw x.1.num.natAbs,aw x.1.den,x.2.map gk⟩
def ak0(x:Sq):PV.gW (iP x)=PV.sq x:=by have h:PV.gW (iP x)=PV.agg [.bool (decide (x.1.num<0)),PV.num x.1.num.natAbs,PV.num x.1.den,PV.tD (x.2.map gk)]:=rfl;rw[h,C4]
def aku(x:Sq):(iP x).sq=x:=by have h1:rv (iP x).n (iP x).a (iP x).d=x.1:=gm x.1;show(rv (iP x).n (iP x).a (iP x).d,(x.2.map gk).map bO.tm)=x;rw[h1,KbT];have:(bO.tm∘gk)=id:=funext λt=>TF t;rw[this,List.map_id]
def apK(h:vO K E n x)(hE:E<=1048576)(h0:0<x.1):ke (iP x)=0:=by unfold ke;have h1:rv (iP x).n (iP x).a (iP x).d=x.1:=gm x.1;have h2:fL (iP x).n (iP x).a (iP x).d=true:=Ho x.1;have h3:eC (iP x).p=true:=Hp (h.n.O0 h.b hE);rw[h1,h2,h3,if_pos rfl,if_pos rfl,if_pos h0]
def apL(h:vO K E n x)(hn:n<2^40):rM K (iP x):=by
 have hw:=h.w;refine⟨⟨Ql _,Ql _,?_,?_,Oz⟩,λt ht=>?_,?_⟩
 .have h1:nl x.1.num.natAbs<=rs x.1:=by unfold rs;omega
  exact KaK h1 Oz
 .have h1:nl x.1.den<=rs x.1:=by unfold rs;omega
  exact KaK h1 Oz
 .obtain⟨s,hs,rfl⟩:=KaD.1 ht;have:=(h.b s hs).c;exact Du Oz (by have:=(h.b s hs).m.len;omega)
 .have h1:=h.l;have h2:(iP x).p.length=x.2.length:=by simp[iP]
  rw[h2];omega
def Q9n{L:List Sq}(hG:∀x∈L,vO K E n x/\0<x.1)(hs:ia L=p)(hv:yq p)(xT:PB (2^33) (2^31) p)(hL:L.length<=1000)(hn:n<=1000)(hE:E+E<=1048576)(hK:(n*(K+K)+K)*(L.length+1)<=2^32)(uz:K<2^36)(Ej:1<=K)(hl:n*n*L.length<=4000):
  AC 68 [PV.aC p,PV.gj L] (· = .int .i64 0):=by
 have Ei:=λx hx=>(hG x hx).1
 have EO:PV.gj L= .sl 4 ((L.map iP).map PV.gW):=by rw[KbT];exact congrArg _ (KaF λx _=>(ak0 x).symm)
 have v7:(L.map iP).map dB.sq=L:=by rw[KbT];have:(dB.sq∘iP)=id:=funext aku;rw[this,List.map_id]
 have wg:∀i,i<L.length->ku (ia (L.take (i+1)))=false:=λi hi=>by obtain⟨a1,a2,_⟩:=AS Ei (i+1) Oz;have:n*n*(i+1)<=n*n*L.length:=Ka8 _ Oz;exact Q6d a1 Oz Oz
 have fo:=QG wg L.length 0 Oz;rw[Ka6,show ia (L.take 0)=[]from rfl,hs]at fo;have hf:mP (L.map iP)=0:=by
  clear v7 EO wg fo hs hK hL hl Ei;induction L with
  |nil=>rfl
  |cons x L ih=>rw[Ka3];unfold mP;rw[apK (hG x (by simp)).1 Oz (hG x (by simp)).2,if_pos rfl];exact ih λy hy=>hG y (Kbx _ hy)
 have nY:kL (L.map iP)=(p,0):=by unfold kL;rw[if_pos hf,v7,fo];rfl
 have av7:AC 129 [.sl 4 ((L.map iP).map PV.gW)] (· =PV.nu (p,0)):=by
  rw[<-nY];refine Tf (k:=K) (λs hs=>?_) Ej uz (by rw[KaC];omega) λ_=>?_
  .obtain⟨x,hx,rfl⟩:=KaD.1 hs;exact apL (Ei x hx) Oz
  .rw[<-EO,v7];exact Um Ei hL hn Oz hK
 have bx:p.length<=n*n*L.length:=by obtain⟨_,a2,_⟩:=AS Ei _ (Kag _);rw[KaQ,hs]at a2;exact a2
 have e2:(p.map gk).map bO.tm=p:=by rw[KbT];have:(bO.tm∘gk)=id:=funext λt=>TF t;rw[this,List.map_id]
 have h:=QD (p:=p.map gk) (r:=(p,0)) (k:=2^33) (K:=2^33) (E:=2^31) av7 (λt ht=>by obtain⟨s,hs,rfl⟩:=KaD.1 ht;have:=(xT s hs).c;exact Du Oz (by have:=(xT s hs).m.len;omega)) (by rw[KaC];omega) Oz Oz xT (by show p.length<=_;omega) (λ_=>by rw[e2];exact xT) Oz Oz;rw[C4,<-EO]at h;have hz:Bp (p.map gk) (p,0)=0:=by unfold Bp;rw[if_neg (show ¬(0:Int)≠0 by decide),if_pos ⟨Hp hv,e2⟩]
 rwa[hz]at h
variable{x:List Rat}
def ad8{x y:Int}(h1: -9223372036854775808<=x)(h2:x<=9223372036854775807)(h3: -9223372036854775808<=y)(h4:y<=9223372036854775807)(h0:y≠0):AC 287 [.int .i64 x,.int .i64 y] (· =PV.rat ((x:Rat)/(y:Rat))):=by
 have hx:nl x.natAbs<=4:=qf Oz;have hy:nl y.natAbs<=4:=qf Oz;have hm:=PD (x:=x) (y:=y) Oz Oz h0;have hox:=L7 h1 h2;have hoy:=L7 h3 h4;generalize(x:Rat)/(y:Rat)=Q at *
 refine aF Qd func287 alX λC hP=>?_;refine ay hP hox ?_;refine ay hP hoy ?_;refine ay hP hm ?_;refine Sz0 ?_;refine cx ?_;exact cf
def aud:ax:=⟨40,[.cell 8 3 true,.t 9],Zr (dH 7 3 49 3<|Ye 8<|YI 9)<|Zr (YI 10)<| .seq (Zr (dS 16 2)<| .block 0<| .loop<|Zr (Yu 19 18 17)<| .seq (.cond (.t 19) .skip (.exit 0))<| .seq (.block 1<|Zr (YG 20 3 16 18<|Ye 12<|Zs 3 12 21 .nil)<| .rg (Zm 22 10<|Zh 23 3 12<|Zh 24 3 7<|Yp 25 67 23 24<|YA 26 3 49 25 56 22<|Yc 10 27))<| .rg (YH 28 18 18))<|Zr (YZ 29 1 10 188<|Yc 13 31)<|Zr (YZ 33 0 13 349<|Zm 32 35<|Yd 36 32<|Ye 14<|Zs 3 14 36<|Yc 15 37)<|Zr (sV 38 3 14 13<|Zs 3 8 38<|Yc 9 39) .ret⟩
def apM:Qc Tryz.prog f288=some aud:=by kernel_rfl
def aue:ax:=⟨9,[.cell 2 3 true],Zr (jA 1 49 0<|fC 2)<| .seq (Zr (Zh 3 3 1<|Yn 4 19 3<|Zk 5 .lss 4 0 .nil)<| .cond (.t 5) (Zr (iB 6 3 1 301<|Zs 3 2 7 .nil) .ret) .skip)<|Zr (Zh 8 3 1<|Zs 3 2 8 .nil) .ret⟩
def apN:Qc Tryz.prog f289=some aue:=by kernel_rfl
def as9:ax:=⟨79,[.t 6],Zr (YI 6)<|Zr (Zq 20 false 287 [.c (Zz 1),.c (Zz 2)]<|Ye 7<|Zs 3 7 20 .nil)<|Zr (dq 22 0 1 2<|Zq 25 false 35 [.c (Zz 0)]<|Zq 26 false 288 [.t 22,.t 23,.t 24,.t 25]<|Zm 21 26<|Yd 27 21<|Ye 8<|Zs 3 8 27<|Yc 9 28)<|Zr (dq 30 0 1 2<|Zq 33 false 35 [.c (Zz 1)]<|Zq 34 false 288 [.t 30,.t 31,.t 32,.t 33]<|Zm 29 34<|Yd 35 29<|Ye 10<|Zs 3 10 35<|Yc 11 36)<|Zr (dq 38 0 1 2<|Zq 41 false 35 [.c (Zz (-1))]<|Zq 42 false 288 [.t 38,.t 39,.t 40,.t 41]<|Zm 37 42<|Yd 43 37<|Ye 12<|Zs 3 12 43<|Yc 13 44)<|Zr (Zh 45 3 7<|Zh 46 3 10<|Zh 47 3 12<|Zh 50 3 8<| .br (Ys 48 64 46 47<| .br (Ys 49 67 45 48<| .br (Ys 51 65 49 50<|Ye 14<|Zs 3 14 51 .nil) (Ye 14<|uo 51 65 49 50 3 14)) (Ye 14<|Ys 49 67 45 48<|uo 51 65 49 50 3 14)) (Ye 14<|Ys 48 64 46 47<|Ys 49 67 45 48<|uo 51 65 49 50 3 14))<|Zr (Zh 52 3 7<|Zh 53 3 10<|Zh 54 3 12<| .br (Zq 55 true 65 [.t 53,.t 54]<| .br (Zq 56 true 67 [.t 52,.t 55]<|Ye 15<|Zs 3 15 56 .nil) (Ye 15<|Zq 56 true 67 [.t 52,.t 55]<|Zs 3 15 56 .nil)) (Ye 15<|Zq 55 true 65 [.t 53,.t 54]<|Zq 56 true 67 [.t 52,.t 55]<|Zs 3 15 56 .nil))<|Zr (Zh 58 3 15<|Zh 60 3 8<|Zh 63 3 14<| .br (nQ 59 289 58<| .br (nQ 61 289 60<| .br (Zq 62 true 64 [.t 59,.t 61]<| .br (nQ 64 289 63<| .br (Ys 65 182 62 64<|Zm 57 65<|Yd 66 57<|Ye 16<|Zs 3 16 66<|Yc 17 67) (Ye 16<|Ys 65 182 62 64<|Zm 57 65<|kA 66 57 3 16 17)) (Ye 16<|nQ 64 289 63<|Ys 65 182 62 64<|Zm 57 65<|kA 66 57 3 16 17)) (Ye 16<|Zq 62 true 64 [.t 59,.t 61]<|nQ 64 289 63<|Ys 65 182 62 64<|Zm 57 65<|kA 66 57 3 16 17)) (Ye 16<|nQ 61 289 60<|Zq 62 true 64 [.t 59,.t 61]<|nQ 64 289 63<|Ys 65 182 62 64<|Zm 57 65<|kA 66 57 3 16 17)) (Ye 16<|nQ 59 289 58<|nQ 61 289 60<|Zq 62 true 64 [.t 59,.t 61]<|nQ 64 289 63<|Ys 65 182 62 64<|Zm 57 65<|kA 66 57 3 16 17))<|Zr (dq 69 0 1 2<|Zh 72 3 16<| .br (Zq 73 true 35 [.c (Zz 1)]<| .br (Ys 74 64 72 73<| .br (Zq 75 true 288 [.t 69,.t 70,.t 71,.t 74]<|Zm 68 75<|Yd 76 68<|Ye 18<|Zs 3 18 76<|Yc 19 77) (Ye 18<|Zq 75 true 288 [.t 69,.t 70,.t 71,.t 74]<|Zm 68 75<|kA 76 68 3 18 19)) (Ye 18<|Ys 74 64 72 73<|Zq 75 true 288 [.t 69,.t 70,.t 71,.t 74]<|Zm 68 75<|kA 76 68 3 18 19)) (Ye 18<|Zq 73 true 35 [.c (Zz 1)]<|Ys 74 64 72 73<|Zq 75 true 288 [.t 69,.t 70,.t 71,.t 74]<|Zm 68 75<|kA 76 68 3 18 19))<|Zr (MZ 78 19 6) .ret⟩
def apO:Qc Tryz.prog f187=some as9:=by kernel_rfl
def fk(a:Rat):Rat:=if a<0 then -a else a
def KB(a:Rat):rs (fk a)=rs a:=by
 unfold fk;split
 .rw[DC]
 .rfl
def KX{a:Rat}(ha:rs a<=k)(hk:k<2^36):AC 289 [PV.rat a] (· =PV.rat (fk a)):=by
 have hs:=o8 (a:=a) Oz;have hg:= @CX a;have hn:=K9 ha hk;unfold fk;refine aF Qd func289 apN λC hP=>?_;refine ay hP hs ?_;refine bD (λh=>?_) (λh=>?_)
 .rw[if_pos (hg.1 h)];refine ay hP hn ?_;refine Sz0 ?_;refine cx ?_;exact cf
 .rw[if_neg λh2=>h (hg.2 h2)];refine Sz0 ?_;refine cx ?_;exact cf
def akv{w:List Rat}{n v:Rat}(hx:∀q∈x,rs q<=k)(hn:rs n<=k)(hk:k<2^36)(eM:x.length<=2^20)(im:AC 188 [PV.kD bs,PV.cg (x.map (· *n))] (· =PV.cg w))(rQ:AC 349 [PV.aC p,PV.cg w] (· = .aI [PV.rat v,.int .i64 0])):
  AC 288 [PV.aC p,PV.kD bs,PV.cg x,PV.rat n] (· = .aI [PV.rat v,PV.cg w]):=by
 refine aF Qd func288 apM λC hP=>?_;refine Sz0 ?_;refine kq 10 900 3 49 Oz Tz0 ?_;refine Qh okB [(10,10),(12,12),(18,28)] [12,26,27,900] (λq J hp=>∃i,q=x.length-i/\i<=x.length/\J 10= .ms 900 i/\J 18= .int .i64 (i:Nat)/\hp 7=some ⟨3,49,[PV.rat n],false⟩/\hp 8=some ⟨3,49,[.agg [.bool false,.aa,.aa]],false⟩/\hp 900=some ⟨3,49,((x.take i).map (· *n)).map PV.rat,false⟩) x.length ?_ ?_
 .refine⟨0,rfl,Oz,?_⟩;refine Sz0 ?_;rfl
 rintro _ J2 m8 ⟨i,rfl,jW,vY,Iu,c7,c8,c9⟩;refine aZ Iu (λhg=>?_) (λhg=>?_)
 .have au:i<x.length:=Oz;have gB:=hx _ (Kad au);have bl:(x.take (i+1)).map (· *n)=(x.take i).map (· *n)++[x[i]*n]:=by rw[Kam au,KbN];rfl
  have pE:((x.take i).map (· *n)).length=i:=by rw[KaC,Kay];omega
  generalize(x.take i).map (· *n)=T at *
  generalize hz:x[i]=z at *
  have Od:=nI (a:=z) (b:=n) (k:=k) gB hn hk;refine kN vY Iu c7 c9 hz hP Od ?_;generalize z*n=u at *
  refine Sz4 vY Iu c7 c9 ?_;rw[Qq (f:=PV.rat) (y:=u) (xs:=T) (ty':=49) (fz:=false) (Tz1 c9) Qw Oz pE.symm Oz Oz];refine Sz1 Iu ?_;refine Qe (x.length-(i+1)) Oz ⟨i+1,rfl,Oz,?_⟩;rw[bl];exact Tz2 c7 c8
 .obtain rfl:i=x.length:=by omega
  rw[KaQ]at c9;have zS:List.take x.length ((x.map (· *n)).map PV.rat)=(x.map (· *n)).map PV.rat:=Kaf (by simp);refine Sz2 vY c9 ?_;refine ko hP im (Ib zS c9) rfl ?_;refine jQ c8 ?_;refine Qy hP rQ ?_;refine jQ c8 ?_;refine nH ?_;refine Sz0 ?_;exact ek rfl rfl rfl (Qi _) (Qi _)
def ad9{v0 v1 v2 w:List Rat}{q b c vn:Rat}
  (a0:AC 288 [PV.aC p,PV.kD bs,PV.cg x,PV.rat 0] (· = .aI [PV.rat c,PV.cg v0]))
  (a1:AC 288 [PV.aC p,PV.kD bs,PV.cg x,PV.rat 1] (· = .aI [PV.rat (q+b+c),PV.cg v1]))
  (a2:AC 288 [PV.aC p,PV.kD bs,PV.cg x,PV.rat (-1)] (· = .aI [PV.rat (q-b+c),PV.cg v2]))
  (an:AC 288 [PV.aC p,PV.kD bs,PV.cg x,PV.rat ((fk b+fk c)/fk q+1)] (· = .aI [PV.rat vn,PV.cg w]))
  (hq:q<0) (EV:rs q<=k) (BM:rs b<=k) (xM:rs c<=k) (hk:k<=2^30):
  AC 187 [PV.aC p,PV.kD bs,PV.cg x] (· =PV.cg w):=by
 have na:=ad8 (x:=1) (y:=2) Oz Oz Oz Oz Oz;have o0:=qt (x:=0) Oz Oz;have o1:=qt (x:=1) Oz Oz;have o2:=qt (x:= -1) Oz Oz;rw[show((0:Int):Rat)=0 from rfl]at o0;rw[show((1:Int):Rat)=1 from rfl]at o1 na;rw[show((-1:Int):Rat)= -1 from rfl]at o2;have hhr:rs ((1:Rat)/((2:Int):Rat))<=10:=by decide+kernel
 have e1:(1:Rat)/((2:Int):Rat)*(q+b+c+(q-b+c))-c=q:=by rw[show((2:Int):Rat)=2 from rfl];grind
 have e2:(1:Rat)/((2:Int):Rat)*(q+b+c-(q-b+c))=b:=by rw[show((2:Int):Rat)=2 from rfl];grind
 have q0:=ph;have r1:=o7 q b;have r2:=o7 (q+b) c;have r3:=H6 q b;have r4:=o7 (q-b) c;have r5:=o7 (q+b+c) (q-b+c);have r6:=H6 (q+b+c) (q-b+c);have r7:=mO ((1:Rat)/((2:Int):Rat)) (q+b+c+(q-b+c));have NG:fk q≠0:=by unfold fk;rw[if_pos hq];grind
 have s1:=tY (a:=q+b+c) (b:=q-b+c) (k:=2^33) Oz Oz Oz;have s2:=nI (a:=(1:Rat)/((2:Int):Rat)) (b:=q+b+c+(q-b+c)) (k:=2^34) Oz Oz Oz;have s3:=Bm (a:=(1:Rat)/((2:Int):Rat)*(q+b+c+(q-b+c))) (b:=c) (k:=2^35) Oz Oz Oz;rw[e1]at s3;have s4:=Bm (a:=q+b+c) (b:=q-b+c) (k:=2^33) Oz Oz Oz;have s5:=nI (a:=(1:Rat)/((2:Int):Rat)) (b:=q+b+c-(q-b+c)) (k:=2^34) Oz Oz Oz;rw[e2]at s5;have s6:=KX (a:=b) BM Oz;have s7:=KX (a:=c) xM Oz;have s8:=KX (a:=q) EV Oz;have t1:=KB b;have t2:=KB c;have t3:=KB q;have t4:=o7 (fk b) (fk c);have t5:=adV (a:=fk b+fk c) NG;have s9:=tY (a:=fk b) (b:=fk c) (k:=2^33) Oz Oz Oz;have s10:=Bl (a:=fk b+fk c) (b:=fk q) (k:=2^33) Oz Oz Oz NG;have s11:=tY (a:=(fk b+fk c)/fk q) (b:=1) (k:=2^34) Oz Oz Oz;clear r1 r2 r3 r4 r5 r6 r7 t1 t2 t3 t4 t5 e1 e2 EV BM xM hhr;generalize(1:Rat)/((2:Int):Rat)*(q+b+c+(q-b+c))=u2 at *
 generalize q+b+c+(q-b+c)=u1 at *
 generalize q+b+c-(q-b+c)=u3 at *
 generalize(fk b+fk c)/fk q+1=u6 at *
 generalize(fk b+fk c)/fk q=u5 at *
 generalize fk b+fk c=u4 at *
 generalize(1:Rat)/((2:Int):Rat)=hf at *
 generalize q+b+c=p1 at *
 generalize q-b+c=p2 at *
 clear NG;generalize fk b=ab at *
 generalize fk c=ac at *
 generalize fk q=aq at *
 generalize hu0:(0:Rat)=z0 at *
 generalize OD:(1:Rat)=z1 at *
 generalize Je:(-1:Rat)=z2 at *
 refine aF Qd func187 apO λC hP=>?_;refine ay hP na ?_;refine ay hP o0 ?_;refine ay hP a0 ?_;refine ay hP o1 ?_;refine ay hP a1 ?_;refine ay hP o2 ?_;refine ay hP a2 ?_;refine Sz0 ?_;refine Hr okB [(14,14),(48,51)] [14] (λJ hp=>J 14= .mp 14 0 0/\hp 7=some ⟨3,49,[PV.rat hf],false⟩/\hp 8=some ⟨3,49,[PV.rat c],false⟩/\hp 10=some ⟨3,49,[PV.rat p1],false⟩/\hp 12=some ⟨3,49,[PV.rat p2],false⟩/\hp 14=some ⟨3,49,[PV.rat q],false⟩) ?_ ?_
 .repeat' first
   |refine fU ?_ ?_
   |refine Qy hP s1 ?_
   |refine Qy hP s2 ?_
   |refine Qy hP s3 ?_
   |simp+decide (disch:=try exact D0) only[go_sem]
  all_goals
   refine vl ?_;exact Tz0
 rintro J h ⟨Fi,g7,g8,vY,Ee,Is⟩;refine Sz4 Fi g7 vY Ee ?_;refine Hr okB [(14,15),(48,56)] [14,15] (λJ hp=>J 14= .mp 14 0 0/\J 15= .mp 15 0 0/\hp 8=some ⟨3,49,[PV.rat c],false⟩/\hp 14=some ⟨3,49,[PV.rat q],false⟩/\hp 15=some ⟨3,49,[PV.rat b],false⟩) ?_ ?_
 .repeat' first
   |refine fU ?_ ?_
   |refine Qy hP s4 ?_
   |refine Qy hP s5 ?_
   |simp+decide (disch:=try exact D6 Fi g7 g8 vY Ee Is) only[go_sem,Fi,g7,g8,vY,Ee,Is]
  all_goals
   refine vl ?_;exact Tz6 Fi g7 g8 vY Ee Is
 rintro J2 h2 ⟨Fk,Fl,e8,Eb,Ec⟩;clear Fi g7 g8 vY Ee Is;refine Sz5 Fk Fl e8 Eb Ec ?_;refine Hr okB [(14,17),(48,67)] [14,15,16] (λJ hp=>J 16= .mp 16 0 0/\hp 16=some ⟨3,49,[PV.rat u5],false⟩) ?_ ?_
 .repeat' first
   |refine fU ?_ ?_
   |refine Qy hP s6 ?_
   |refine Qy hP s7 ?_
   |refine Qy hP s9 ?_
   |refine Qy hP s8 ?_
   |refine Qy hP s10 ?_
   |simp+decide (disch:=try exact D5 Fk Fl e8 Eb Ec) only[go_sem,Fk,Fl,e8,Eb,Ec]
  all_goals
   refine vl ?_;exact Tz5 Fk Fl e8 Eb Ec
 rintro J3 h3 ⟨Ju,f16⟩;clear Fk Fl e8 Eb Ec;refine Sz2 Ju f16 ?_;refine Hr okB [(14,19),(48,77)] [14,15,16,18] (λJ hp=>J 19=PV.cg w) ?_ ?_
 .repeat' first
   |refine fU ?_ ?_
   |refine Qy hP o1 ?_
   |refine Qy hP s11 ?_
   |refine Qy hP an ?_
   |simp+decide (disch:=try exact D2 Ju f16) only[go_sem,Ju,f16]
  all_goals
   refine vl ?_;exact Tz2 Ju f16
 rintro J4 h4 Fj;refine Sz1 Fj ?_;exact Qb rfl rfl
end Go.Proofs.YtikalonaompbdaaGreat
namespace Go.FW
open Go
variable{E K:Nat}{p:List Tm}
def OY(K E:Nat)(p:List Tm):Bool:=p.all λt=>decide (rs t.1+1<=K)&&(decide (t.2.length<=64)&&((t.2.all λx=>decide (0<=x)&&decide (x<=E))&&decide (t.2.getLast? ≠some 0)))
def FU(h:OY K E p=true):PB K E p:=λt ht=>by have:=Kas.1 h t ht;simp only[Kav,decide_eq_true_eq,Kas]at this;obtain⟨h1,h2,h3,h4⟩:=this;exact⟨h1,⟨h2,λx hx=>(h3 x hx).1,λx hx=>(h3 x hx).2⟩,h4⟩
def FV:List Tm->Bool
 | []=>true
 |t::p=>(p.all λs=>decide (0<bC t.2 s.2))&&FV p
def Tj:∀ {p:List Tm},FV p=true->mN p
 | [],_=>trivial
 |t::p,h=>by simp only[FV,Kav,Kas,decide_eq_true_eq]at h;exact⟨h.1,Tj h.2⟩
def JB(p:List Tm):Bool:=(p.all λt=>decide (t.1≠0)&&decide (t.2.getLast? ≠some 0))&&FV p
def KY(h:JB p=true):cu p:=by simp only[JB,Kav,Kas,decide_eq_true_eq]at h;exact⟨λt ht=>(h.1 t ht).2,λt ht=>(h.1 t ht).1,Tj h.2⟩
end Go.FW
