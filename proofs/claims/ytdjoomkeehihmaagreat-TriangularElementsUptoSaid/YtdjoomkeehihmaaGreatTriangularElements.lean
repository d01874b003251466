/- TriangularElements holds, for arguments of bulk at most 1048576. -/
import Derived.Test.YtdjoomkeehihmaaGreatTriangularElementsPart17
set_option maxHeartbeats 1000000
set_option linter.unusedSimpArgs false
set_option linter.unusedVariables false
set_option linter.unnecessarySimpa false
set_option maxRecDepth 100000
namespace Go.Proofs.YtdjoomkeehihmaaGreat
open Go Go.FW
def eP(p:List Tm):Rat:=if p=[]then((1:Int):Rat)else dO p
def dh(p:List Tm)(cs:List (List Tm)):aB:=(b8 p (eP p),cs.map (fun c=>b8 c (eP p)))
def uE(x:aB):Bool:=bh x.1||x.2.any bh
def eU(x:aB):Int:=if uE x then 4 else if 0<x.1.length/\Qv x.1<0 then 13 else 0
def dW(f g:aB):aB×Int:=
 match lU f.1 g.1 with
 |none=>(([],[]),4)
 |some (q,r,n)=>(dh r (cD (cx (cA g.1) n) q f.2 g.2),eU (dh r (cD (cx (cA g.1) n) q f.2 g.2)))
def nL(j:Nat):Nat:=if j<2 then 2 else 4
def bL:Nat->Nat
 |0=>17
 |j+1=>bL j+nL j*(bL j+2)+(nL j+1)
def tL:Nat->Nat
 |0=>4
 |j+1=>if j<2 then 4 else tL j+nL j*tL j
def kL(j:Nat):Nat:=2*(1+nL j)+(bL j+nL j*(bL j+2))+3
def aL:Nat->Nat
 |0=>30
 |j+1=>2*(1+nL j+aL j)+kL j
def cL:Nat->Nat
 |0=>31
 |j+1=>bL j+nL j*(bL j+2)+cL j+2+kL j
def eL:Nat->Nat
 |0=>0
 |j+1=>tL j+nL j*tL j+eL j
theorem jh{j:Nat}(h:j<=5):bL j<=23028/\aL j<=40000/\cL j<=57700/\eL j<=700/\tL j<=500/\kL j<=115200/\nL j<=4/\2<=nL j/\17<=bL j/\nL j*tL j<=2000/\bL j+nL j*(bL j+2)<=115150:=by
 have:j=0∨j=1∨j=2∨j=3∨j=4∨j=5:=by omega
 rcases this with rfl|rfl|rfl|rfl|rfl|rfl<;>decide
theorem NF{j:Nat}(h:j<=1):nL j=2/\tL j=4:=by
 have:j=0∨j=1:=by omega
 rcases this with rfl|rfl<;>decide
theorem FM:bL 6<=115200/\aL 6<=200000/\cL 6<=300000/\eL 6<=3200/\tL 6<=2500:=by decide
structure Lv(m j T:Nat)(x:aB):Prop where
 s:SZ 1 (bL j) T x.1
 t:TD T x.1
 n:au x.1
 l:bh x.1=false
 v:ML 3 x.1
 c:∀y∈x.2,SZ (aL j) (cL j) (eL j) y/\au y/\bh y=false
 k:x.2.length=m
theorem ahq(j:Nat):bL j<=bL (j+1)/\aL j<=aL (j+1)/\cL j<=cL (j+1)/\eL j<=eL (j+1):=by simp only[bL,aL,cL,eL];omega
theorem Lv.up{m j T:Nat}{x:aB}(h:Lv m j T x):Lv m (j+1) T x:=by obtain⟨h1,h2,h3,h4⟩:=ahq j;exact⟨h.s.mono (Kac _) h1 (Kac _),h.t,h.n,h.l,h.v,fun y hy=>⟨(h.c y hy).1.mono h2 h3 h4,(h.c y hy).2⟩,h.k⟩
theorem Lv.to{m j j' T:Nat}{x:aB}(h:Lv m j T x)(hj:j<=j'):Lv m j' T x:=by
 obtain⟨k,rfl⟩:∃k,j'=j+k:=⟨j'-j,by omega⟩
 clear hj;induction k with
 |zero=>exact h
 |succ k ih=>exact ih.up
theorem Lv.deg{m j T T':Nat}{x:aB}(h:Lv m j T x)(hT:T<=T'):Lv m j T' x:=⟨h.s.mono (Kac _) (Kac _) hT,h.t.mono (by omega),h.n,h.l,h.v,h.c,h.k⟩
theorem Lv.pb{m j T:Nat}{x:aB}(h:Lv m j T x):PB (bL j+5) T x.1:=h.s.PB.mono (by omega) (Kac _)
theorem Lv.len{m j T:Nat}{x:aB}(h:Lv m j T x):x.1.length<=4000:=qE h.l
theorem PY{g f:List Tm}{v d:Nat}:∀(fuel k:Nat) {q r:List Tm} {n:Nat},mW g v d fuel (aD g v d f k).1 (aD g v d f k).2 k=some (q,r,n)->k<=n/\∀j,k<=j->j<n->(aD g v d f j).2≠[]/\(d:Int)<=Q3 (aD g v d f j).2 v
 |0,k,q,r,n,h=>by simp only[mW,KaB,KcO]at h;obtain⟨_,_,rfl⟩:=h;exact⟨Kac _,fun j h1 h2=>by omega⟩
 | fuel+1,k,q,r,n,h=>by
  rw[mW]at h;split at h
  ·simp only[KaB,KcO]at h;obtain⟨_,_,rfl⟩:=h;exact⟨Kac _,fun j h1 h2=>by omega⟩
  ·rename_i hs;split at h
   ·cases h
   ·obtain⟨h1,h2⟩:=PY fuel (k+1) h;refine⟨by omega,fun j hj1 v9=>?_⟩;by_cases e:j=k
    ·subst e;simp only[not_or]at hs;exact⟨hs.1,by omega⟩
    ·exact h2 j (by omega) v9
structure eE(m j Tf Tg v:Nat)(f g:aB):Prop where
 hj:j<=5
 hf:Lv m j Tf f
 hg:Lv m j Tg g
 tf:Tf<=tL j
 tg:Tg<=tL j
 mf:Qv f.1=v
 mg:Qv g.1=v
 hv:v<=2
 lo:v=2->j<=1
 hd:Q3 f.1 v<=nL j
 le:Q3 g.1 v<=Q3 f.1 v
 hm:m<=3
theorem rO{p:List Tm}(h:0<=Qv p):p≠[]:=fun e=>by subst e;exact absurd h (by decide)
theorem Dg{p:List Tm}{K E v:Nat}(hb:PB K E p)(h:Qv p=v):1<=Q3 p v:=by
 have h0:=rO (p:=p) (by omega);rcases(xa p).2.2 with e|⟨t,ht,e⟩
 ·omega
 ·have hl:t.2.length=v+1:=by omega
  have hc:=(hb t ht).l;have h1:=(rJ p v).2.1 t ht;have ar:v<t.2.length:=by omega
  have h2:=(hb t ht).m.eN v;have:eN t.2 v≠0:=fun e0=>by rw[fk ar]at e0;apply hc;rw[Ka3,hl,Nat.add_sub_cancel,Kam ar,e0]
  omega
section
variable {m j Tf Tg v : Nat} {f g : aB}
theorem eE.num(h:eE m j Tf Tg v f g):Tf<=500/\Tg<=500/\nL j<=4/\2<=nL j/\1<=Q3 g.1 v/\(((Q3 g.1 v).toNat:Nat):Int)=Q3 g.1 v/\(((Q3 f.1 v).toNat:Nat):Int)=Q3 f.1 v/\(Qv g.1).toNat=v/\Q3 g.1 v<=Tg:=by obtain⟨h1,h2,h3,h4,h5,h6,h7,h8,h9,bI,ct⟩:=jh h.hj;have hd:=Dg h.hg.pb h.mg;have hf:=Dg h.hf.pb h.mf;have hm:=h.mg;have:=(oG h.hg.pb (rO (by omega)) v).2;exact⟨by have:=h.tf;omega,by have:=h.tg;omega,h7,h8,hd,by omega,by omega,by omega,this⟩
theorem eE.st(h:eE m j Tf Tg v f g)(d k:Nat)(hk:k<=nL j):DV (1+nL j) (bL j+nL j*(bL j+2)) (Tf+nL j*Tg) (aD g.1 v d f.1 k).1 (aD g.1 v d f.1 k).2:=by have hs:=DV.steps (d:=d) h.hf.s h.hf.n h.hg.s h.hg.n (by have:=h.hv;omega:v<64) k;obtain⟨⟨D,N,h1,h2,h3,h4,h5⟩,⟨K1,x1⟩,K2,x2⟩:=hs;have e1:k*1<=nL j*1:=Kaf _ hk;have e2:k*(bL j+2)<=nL j*(bL j+2):=Kaf _ hk;have e3:k*Tg<=nL j*Tg:=Kaf _ hk;exact⟨⟨D,N,h1,h2,by omega,by omega,h5⟩,⟨K1,x1.mono (Kac _) (by omega)⟩,K2,x2.mono (Kac _) (by omega)⟩
theorem eE.Xf(h:eE m j Tf Tg v f g)(d k:Nat)(hk:k<=nL j):PB 115200 2500 (aD g.1 v d f.1 k).1/\PB 115200 2500 (aD g.1 v d f.1 k).2:=by obtain⟨n1,n2,n3,n4,_⟩:=h.num;obtain⟨h1,h2,h3,h4,h5,h6,h7,h8,h9,bI,ct⟩:=jh h.hj;have e3:nL j*Tg<=4*500:=KaJ n3 n2;have hs:=h.st d k hk;exact⟨hs.q.PB.mono (by omega) (by omega),hs.r.PB.mono (by omega) (by omega)⟩
theorem eE.alJ(h:eE m j Tf Tg v f g)(d k:Nat):∃K E,PB K E (aD g.1 v d f.1 k).2:=by have hs:=DV.steps (d:=d) h.hf.s h.hf.n h.hg.s h.hg.n (by have:=h.hv;omega:v<64) k;obtain⟨K,hx⟩:=hs.xr;exact⟨K,_,hx⟩
structure oD(m j Tf Tg v:Nat)(f g:aB)(q r:List Tm)(n:Nat):Prop where
 nn:(n:Int)<=Q3 f.1 v-Q3 g.1 v+1/\n<=nL j
 sq:SZ (1+nL j) (bL j+nL j*(bL j+2)) (Tf+nL j*Tg) q
 sr:SZ (1+nL j) (bL j+nL j*(bL j+2)) (Tf+nL j*Tg) r
 nq:au q
 nr:au r
 lq:q.length<=4000
 lr:r.length<=4000
 tr:TD ((Tf:Int)+n*((Tg:Int)-Q3 g.1 v)) r
 dr:r=[]∨Q3 r v<Q3 g.1 v
 mr:ML 3 r
 mv:ML (v+1) r
 ni:ML v (cA g.1)/\au (cA g.1)/\SZ 1 (bL j) Tg (cA g.1)/\(cA g.1).length<=4000
theorem ML.aD{w v d:Nat}{f g:List Tm}(hf:ML w f)(hg:ML w g)(nf:au f)(ng:au g)(hv:v<w):∀k,ML w (FW.aD g v d f k).2:=by
 intro k;induction k with
 |zero=>exact hf
 | succ k ih=>
  obtain⟨n1,n2⟩:=rU (v:=v) (d:=d) nf ng k;have hb:=rL (jO n2 v (Q3 (FW.aD g v d f k).2 v).toNat) v ((Q3 (FW.aD g v d f k).2 v).toNat-d);show ML w (dX _ _ _ _ _);refine fun t ht=>?_;rcases Hy (dC (show e9 (cZ (FW.aD g v d f k).2 v (Q3 (FW.aD g v d f k).2 v).toNat d)from hb.s) ng.s).c ht with⟨s,hs,e⟩|⟨s,hs,e⟩
  ·rw[<-e];exact((hg.mV v d).mj ih) s hs
  ·rw[<-e];obtain⟨a,ha,b,ax,e2⟩:=vm hs;rw[e2];have h1:=hg b ax;have h2:=OI a.2 b.2;have h3:a.2.length<=w:=by
    obtain⟨u,hu,e3⟩:=CX (show a∈gy (aW (FW.aD g v d f k).2 v (Q3 (FW.aD g v d f k).2 v).toNat) v ((Q3 (FW.aD g v d f k).2 v).toNat-d)from ha);have wA:=(ih.mV v _) u hu;apply Decidable.byContradiction;intro hc;have hl:0<a.2.length:=by omega
    have hz:eN a.2 (a.2.length-1)=0:=by rw[e3,fB (by omega),if_neg (by omega)];rfl
    have EN:=hb.c a ha;rw[fk (by omega)]at hz;apply EN;rw[Ka3,Kam (by omega),hz]
   omega
theorem ahr{f g q r:List Tm}{v d n fuel:Nat}(nf:au f)(ng:au g)(hd:Q3 g v=d)(hb:∀k,∃K E,PB K E (aD g v d f k).2)(hN:f=[]∨Q3 f v<fuel)(he:mW g v d fuel [] f 0=some (q,r,n)):r=[]∨Q3 r v<d:=by
 obtain⟨e1,e2,_,_⟩:=Dw (f:=f) fuel 0 he (fun h=>absurd h (by omega));have h1:=An g v d fuel [] f 0;rw[he]at h1;rcases NO nf ng hd hb fuel 0 hN with h2|⟨j,_,_,j3,h2⟩
 ·rw[show(aD g v d f 0).1=[]from rfl,show(aD g v d f 0).2=f from rfl,h1]at h2;simp only[PV.dv,PV.aw.injEq,KcK,PV.int.injEq]at h2;omega
 ·rw[show(aD g v d f 0).1=[]from rfl,show(aD g v d f 0).2=f from rfl,h1]at h2;simp only[PV.dv,PV.aw.injEq,KcK,PV.int.injEq]at h2;have:n=j:=by omega
  subst this;rw[e2];exact j3
theorem eE.yM(h:eE m j Tf Tg v f g):cA g.1=aW g.1 v (Q3 g.1 v)/\ML v (cA g.1)/\au (cA g.1)/\SZ 1 (bL j) Tg (cA g.1)/\(cA g.1).length<=4000:=by
 have hm:=h.mg;have e:cA g.1=aW g.1 v (Q3 g.1 v):=by unfold cA cS;rw[if_neg (by omega),if_neg (by omega),hm];rfl
 rw[e];refine⟨rfl,ML.top h.hg.pb (fun t ht=>?_) _,jO h.hg.n _ _,h.hg.s.mV _ _,Kaw (qx _ _ _) h.hg.len⟩;have:=(xa g.1).2.1 t ht;omega
theorem eE.out(h:eE m j Tf Tg v f g){q r:List Tm}{n:Nat}(he:lU f.1 g.1=some (q,r,n)):oD m j Tf Tg v f g q r n:=by
 obtain⟨n1,n2,n3,n4,n5,n6,n7,n8,n9⟩:=h.num;have hi:=h.yM.2;have aG:=h.st;have vW:=h.alJ;have hle:=h.le;have Vx:=h.hd;unfold lU at he;rw[n8]at he;generalize qX:(Q3 g.1 v).toNat=d at *
 obtain⟨e1,e2,e3,e4⟩:=Dw (f:=f.1) _ 0 he (fun h=>absurd h (by omega));obtain⟨-,bo⟩:=PY (f:=f.1) _ 0 he;have eB:∀t∈g.1,eN t.2 v<=d:=fun t ht=>by have:=(rJ g.1 v).2.1 t ht;omega
 have hnn:(n:Int)<=Q3 f.1 v-d+1:=by
  cases n with
  |zero=>omega
  |succ n=>
   have h1:=(PX h.hf.n h.hg.n eB (vW d) n fun j hj=>bo j (by omega) (by omega))
   have h2:=bo n (by omega) (by omega);have:=h1.resolve_left h2.1;omega
 obtain⟨k1,k2⟩:=rU (v:=v) (d:=d) h.hf.n h.hg.n n;have hs:=aG d n (by omega);have hT:=TD.aD (d:=d) h.hf.t h.hf.n h.hg.t h.hg.n (by have:=h.hv;omega:v<64) (vW d) n fun j hj=>bo j (by omega) hj;have hM:=ML.aD (d:=d) h.hf.v h.hg.v h.hf.n h.hg.n (by have:=h.hv;omega:v<3) n;have EF:=ML.aD (d:=d) (w:=v+1) (f:=f.1) (g:=g.1) (fun t ht=>by have h1:=(xa f.1).2.1 t ht;have h2:=h.mf;omega) (fun t ht=>by have h1:=(xa g.1).2.1 t ht;have h2:=h.mg;omega) h.hf.n h.hg.n (Kdc v) n;have uk:=ahr h.hf.n h.hg.n (by omega:Q3 g.1 v=d) (vW d) (.inr (by omega)) he;have hl:q.length<=4000/\r.length<=4000:=by
  by_cases h0:0<n
  ·exact⟨qE (e4 h0).1,qE (e4 h0).2⟩
  ·obtain rfl:n=0:=by omega
   rw[e1,e2];exact⟨by simp[aD],h.hf.len⟩
 rw[<-e2]at k2 hT hM EF;rw[<-e1]at k1;have sq:=hs.q;have sr:=hs.r;rw[<-e1]at sq;rw[<-e2]at sr;exact⟨⟨by omega,by omega⟩,sq,sr,k1,k2,hl.1,hl.2,hT.mono (by rw[n6];omega),uk.imp id (fun h=>by omega),hM,EF,hi⟩
theorem O0{p:List Tm}(np:au p):eP p≠0:=by
 unfold eP;split
 ·decide
 ·exact PR np ‹_›
theorem DH{c q:List Tm}{a b:List (List Tm)}{y:List Tm}(h:y∈cD c q a b):∃u∈a,∃w∈b,y=fM (Q4 c u) (Q4 q w):=by unfold cD at h;obtain⟨i,hi,rfl⟩:=Kbe h;rw[KbV]at hi;exact⟨a[i],Kag _,b[i],Kag _,by rw[List.getElem_zipWith]⟩
theorem oD.yg(h:eE m j Tf Tg v f g){q r:List Tm}{n:Nat}(o:oD m j Tf Tg v f g q r n){u w:List Tm}(hu:u∈f.2)(hw:w∈g.2):
  SZ (1+n*1+aL j) (1+n*bL j+cL j) (nL j*tL j+eL j) (Q4 (cx (cA g.1) n) u)/\SZ (1+nL j+aL j) (bL j+nL j*(bL j+2)+cL j) (tL j+nL j*tL j+eL j) (Q4 q w)/\au (Q4 (cx (cA g.1) n) u)/\au (Q4 q w):=by
 obtain⟨u1,u2,u3⟩:=h.hf.c u hu;obtain⟨w1,w2,w3⟩:=h.hg.c w hw;obtain⟨i1,i2,i3,i4⟩:=o.ni;have e1:n*Tg<=nL j*tL j:=KaJ o.nn.2 h.tg;have e2:nL j*Tg<=nL j*tL j:=Ka7 _ h.tg;have:=h.tf;exact⟨((i3.yU n).mj u1).mono (Kac _) (Kac _) (by omega),(o.sq.mj w1).mono (by omega) (Kac _) (by omega),dC (tz i2 n).s u2.s,dC o.nq.s w2.s⟩
theorem oD.AJ{q r:List Tm}{n:Nat}(o:oD m j Tf Tg v f g q r n):rs (eP r)<=kL j:=by
 unfold eP kL;split
 ·have:=ob;show rs ((1:Int):Rat)<=_;have e:((1:Int):Rat)=1:=rfl;rw[e];omega
 ·have:=(o.sr.wK o.nr ‹_›).2;omega
theorem eE.next(h:eE m j Tf Tg v f g){q r:List Tm}{n:Nat}(o:oD m j Tf Tg v f g q r n){T:Nat}(hT:(Tf:Int)+n*((Tg:Int)-Q3 g.1 v)<=T)(hc:eU (dh r (cD (cx (cA g.1) n) q f.2 g.2))=0):Lv m (j+1) T (dh r (cD (cx (cA g.1) n) q f.2 g.2))/\(r=[]∨0<=Qv (dh r (cD (cx (cA g.1) n) q f.2 g.2)).1):=by
 have ou:uE (dh r (cD (cx (cA g.1) n) q f.2 g.2))=false:=by
  unfold eU at hc;split at hc
  ·cases hc
  ·rename_i h1;simpa using h1
 have MH:=ou;simp only[uE,Kcf]at ou;obtain⟨g1,g2⟩:=ou;rw[KbC]at g2;have hx:XB T r:=OZ (o.tr.mono hT) (let⟨K,hk⟩:=o.sr.x;⟨_,K,hk⟩);have hr:=o.sr.W9 hx;have Vv:=o.nr.c;refine⟨⟨?_,(o.tr.mono hT).wL Vv _,?_,g1,?_,fun y hy=>?_,?_⟩,?_⟩
 ·show SZ 1 (bL (j+1)) T (b8 r (eP r));unfold eP;split
  ·rename_i h0;subst h0;rw[xc];exact SZ.nil _ _ _ (by omega) (by rw[bL];omega)
  ·have:=(hr.wK o.nr ‹_›).1;exact this.mono (Kac _) (by rw[bL];omega) (Kac _)
 ·exact qB o.nr.s (eP r)
 ·exact o.mr.wL Vv _
 ·obtain⟨y0,cX,rfl⟩:=KaE.1 hy;obtain⟨u,hu,w,hw,rfl⟩:=DH cX;obtain⟨s1,s2,m1,m2⟩:=o.yg h hu hw;have s3:=(s1.mono (Kac _) (Kac _) (by have:=h.tf;omega:nL j*tL j+eL j<=tL j+nL j*tL j+eL j)).wM s2;have s4:=s3.scale o.AJ;have e1:n*1<=nL j*1:=Kaf _ o.nn.2;have e2:n*bL j<=nL j*(bL j+2):=KaJ o.nn.2 (by omega);have e3:=(jh h.hj).2.2.2.2.2.2.2.2.1;refine⟨s4.mono (by rw[aL];omega) (by rw[cL];omega) (by rw[eL];omega),qB (vj m1 m2).s _,?_⟩;have:=g2 _ hy;simpa using this
 ·show((cD _ q f.2 g.2).map _).length=m;rw[KaT,cD,KbV,h.hf.k,h.hg.k,Nat.min_self]
 ·by_cases h0:r=[]
  ·exact .inl h0
  ·right;unfold eU at hc;rw[MH]at hc;simp only[KaK,if_false]at hc;split at hc
   ·cases hc
   ·rename_i hn;have aO:0<(dh r (cD (cx (cA g.1) n) q f.2 g.2)).1.length:=by show 0<(b8 r (eP r)).length;rw[TL o.nr.z (O0 o.nr)];exact Kbf.2 h0
    omega
end
end Go.Proofs.YtdjoomkeehihmaaGreat
namespace Go.Proofs.YtdjoomkeehihmaaGreat
open Go Go.FW
def Lf:aA:=⟨25,[.t 2],Zr (Zo (.box 1 2 34 (.t 0))<|Zo (.mv 2 (.c (.bool false))) .nil)<|Zr (Zf 5 0 1<|Zl 6 1 5<|Zq 7 false 135 [.t 6]<|Zm 3 7 .nil)<| .seq (Zr (Zc 4 0 .nil)<| .block 0<| .loop<| .seq (Zr (Zm 8 4<|Zf 9 1 1<|Zl 10 1 9<|Zn 11 10<|Zb 12 .lss 8 11 .nil)<| .cond (.t 12) .skip (.exit 0))<| .seq (.block 1<| .rg (Zm 15 3<|Zm 16 15<|Zg 16 false (.cE 17 1 (.t 1))<|Zg 16 false (.ld 18 1 false (.t 17))<|Zg 16 false (.mv 19 (.t 4))<|Zg 16 false (.idx 20 1 (.t 18) (.t 19))<|Zg 16 false (.ld 21 1 false (.t 20))<|Zg 16 false (.call (some 22) false (.c (.fn 135 [] [])) [.t 21])<|Zo (.pick 23 (.t 16) (.c (.bool true)) (.t 22))<|Zm 3 23 .nil))<| .rg (Zm 13 4<|Zk 14 .add 13 1<|Zm 4 14 .nil))<|Zr (Zm 24 3<|Zm 2 24 .nil) .ret⟩
theorem akd:Qe Tryz.prog Tryz.f75=some Lf:=by kernel_rfl
def KC:aA:=⟨15,[.t 2],Zr (Zo (.box 1 2 34 (.t 0))<|Zc 2 0 .nil)<| .seq (Zr (Zh 3 2 1<|Zq 4 false 75 [.t 3] .nil)<| .cond (.t 4) (Zr (Zc 2 4 .nil) .ret) .skip)<| .seq (Zr (Zf 5 0 1<|Zl 6 1 5<|Zn 7 6<|Zk 8 .gtr 7 0<|Zm 9 8<|Zg 9 true (.cE 10 0 (.t 1))<|Zg 9 true (.ld 11 1 false (.t 10))<|Zg 9 true (.call (some 12) false (.c (.fn 35 [] [])) [.t 11])<|Zg 9 true (.bin 13 .lss false (.t 12) (.c (Zz 0)))<|Zo (.pick 14 (.t 9) (.t 13) (.c (.bool false))) .nil)<| .cond (.t 14) (Zr (Zc 2 13 .nil) .ret) .skip)<|Zr (Zc 2 0 .nil) .ret⟩
theorem ake:Qe Tryz.prog Tryz.f33=some KC:=by kernel_rfl
def KD:aA:=⟨69,[.t 4,.t 5],Zr (Zc 4 0<|Zc 5 0 .nil)<|Zr (Zc 6 (-1)<|Zc 7 0 .nil)<| .seq (Zr (Zc 8 0 .nil)<| .block 0<| .loop<| .seq (Zr (Zm 11 8<|Zm 12 0<|Zn 13 12<|Zb 14 .lss 11 13 .nil)<| .cond (.t 14) .skip (.exit 0))<| .seq (.block 1<| .seq (Zr (Zm 17 0<|Zm 18 8<|Zi 19 2 17 18<|Zf 20 0 19<|Zl 21 1 20<|Zq 22 false 35 [.t 21]<|Zm 23 1<|Zb 24 .neq 22 23 .nil)<| .cond (.t 24) (.exit 1) .skip)<|Zr (Zm 25 7<|Zk 26 .add 25 1<|Zm 7 26 .nil)<| .seq (Zr (Zm 27 6<|Zk 28 .lss 27 0 .nil)<| .cond (.t 28) (Zr (Zm 29 8<|Zm 6 29 .nil)<| .exit 1) .skip)<|Zr (Zm 30 0<|Zm 31 8<|Zi 32 2 30 31<|Zf 33 0 32<|Zl 34 1 33<|Zm 35 1<|Zm 37 0<|Zm 38 6<|Zi 39 2 37 38<|Zf 40 0 39<|Zl 41 1 40<|Zm 42 1<|Zq 36 true 76 [.t 34,.t 35]<|Zq 43 true 76 [.t 41,.t 42]<|Zm 9 36<|Zm 10 43 .nil)<|Zr (Zm 44 9<|Zm 45 10<|Zb 46 .lss 44 45<|Zm 47 46<|Zg 47 false (.mv 48 (.t 9))<|Zg 47 false (.mv 49 (.t 10))<|Zg 47 false (.bin 50 .eql false (.t 48) (.t 49))<|Zg 47 false (.mv 51 (.t 50))<|Zg 51 true (.mv 52 (.t 0))<|Zg 51 true (.mv 53 (.t 8))<|Zg 51 true (.idx 54 2 (.t 52) (.t 53))<|Zg 51 true (.cE 55 0 (.t 54))<|Zg 51 true (.ld 56 1 false (.t 55))<|Zg 51 true (.mv 57 (.t 0))<|Zg 51 true (.mv 58 (.t 6))<|Zg 51 true (.idx 59 2 (.t 57) (.t 58))<|Zg 51 true (.cE 60 0 (.t 59))<|Zg 51 true (.ld 61 1 false (.t 60))<|Zg 51 true (.call (some 62) false (.c (.fn 38 [] [])) [.t 56,.t 61])<|Zg 51 true (.bin 63 .lss false (.t 62) (.c (Zz 0)))<|Zg 47 false (.pick 64 (.t 51) (.t 63) (.c (.bool false)))<|Zo (.pick 65 (.t 47) (.c (.bool true)) (.t 64)) .nil)<| .cond (.t 65) (.rg (Zm 66 8<|Zm 6 66 .nil)) .skip)<| .rg (Zm 15 8<|Zk 16 .add 15 1<|Zm 8 16 .nil))<|Zr (Zm 67 6<|Zm 68 7<|Zm 4 67<|Zm 5 68 .nil) .ret⟩
theorem akf:Qe Tryz.prog Tryz.f34=some KD:=by kernel_rfl
def Jg:aA:=⟨31,[.t 4],Zr (Zo (.mv 4 (.c .aa)) .nil)<|Zr (Zo (.mv 5 (.c .aa)) .nil)<| .seq (Zr (Zc 6 0 .nil)<| .block 0<| .loop<| .seq (Zr (Zm 7 6<|Zm 8 0<|Zn 9 8<|Zb 10 .lss 7 9<|Zm 11 10<|Zg 11 true (.mv 12 (.t 6))<|Zg 11 true (.mv 13 (.t 1))<|Zg 11 true (.len 14 (.t 13))<|Zg 11 true (.bin 15 .lss false (.t 12) (.t 14))<|Zo (.pick 16 (.t 11) (.t 15) (.c (.bool false))) .nil)<| .cond (.t 16) .skip (.exit 0))<| .seq (.block 1<| .rg (Zm 19 5<|Zm 20 0<|Zm 21 6<|Zi 22 1 20 21<|Zl 23 1 22<|Zm 24 1<|Zm 25 6<|Zi 26 1 24 25<|Zl 27 1 26<|Zq 28 false 24 [.t 23,.t 27]<|Zq 29 false 22 [.t 19,.t 28]<|Zm 5 29 .nil))<| .rg (Zm 17 6<|Zk 18 .add 17 1<|Zm 6 18 .nil))<|Zr (Zm 30 5<|Zm 4 30 .nil) .ret⟩
theorem akg:Qe Tryz.prog Tryz.f12=some Jg:=by kernel_rfl
def KA:aA:=⟨16,[.t 6],Zr (Zo (.box 5 3 43 (.t 2))<|Zo (.mv 6 (.c .aa)) .nil)<|Zr (Zm 8 0<|Zo (.mk 9 1 24 32 .aa (.t 8) (.t 8))<| .wk<|Zm 7 9 .nil)<|Zr (Zm 10 7<|Zm 11 1<|Zh 12 3 5<|Zq 13 false 25 [.t 12]<|Zi 14 1 10 11<|Zs 1 14 13 .nil)<|Zr (Zm 15 7<|Zm 6 15 .nil) .ret⟩
theorem akh:Qe Tryz.prog Tryz.f31=some KA.strip:=by kernel_rfl
def Kz:aA:=⟨35,[.cell 2 2 true],Zr (Zo (.box 1 2 34 (.t 0))<|Zo (.alloc 2 2 34 (.agg [.aa,.aa])) .nil)<|Zr (Zf 8 0 1<|Zl 9 1 8<|Zq 10 false 70 [.t 9]<|Zm 7 10<|Zo (.ext 11 (.t 7) 0)<|Zo (.ext 12 (.t 7) 1)<|Zo (.alloc 4 3 43 (.agg [.bool false,.aa,.aa]))<|Zm 3 11<|Zs 3 4 12 .nil)<|Zr (Zm 13 3<|Zo (.bU 14 [.aa,.aa] [(0,1,.t 13)])<|Zo (.alloc 5 2 34 (.agg [.aa,.aa]))<|Zs 2 5 14<| .wk<| .wk<| .wk .nil)<| .seq (Zr (Zc 6 0 .nil)<| .block 0<| .loop<| .seq (Zr (Zm 15 6<|Zf 16 1 1<|Zl 17 1 16<|Zn 18 17<|Zb 19 .lss 15 18 .nil)<| .cond (.t 19) .skip (.exit 0))<| .seq (.block 1<| .rg (Zf 22 1 5<|Zl 23 1 22<|Zf 24 1 1<|Zl 25 1 24<|Zm 26 6<|Zi 27 1 25 26<|Zl 28 1 27<|Zh 29 3 4<|Zq 30 true 71 [.t 28,.t 29]<|Zo (.bs 31 1 32 [.t 30])<|Zo (.app 32 1 24 32 (.t 23) (.t 31))<|Zf 33 1 5<|Zs 1 33 32 .nil))<| .rg (Zm 20 6<|Zk 21 .add 20 1<|Zm 6 21 .nil))<|Zr (Zh 34 2 5<| .wk<|Zs 2 2 34 .nil) .ret⟩
theorem aki:Qe Tryz.prog Tryz.f30=some Kz.strip:=by kernel_rfl
theorem aez{n i:Nat}(hi:i<n)(hn:n<=100):Qc Tryz.prog 31 [.int .i64 n,.int .i64 i,PV.rat ((1:Int):Rat)] (· =PV.bX (ew n i)):=by
 have h1:=ob;have ae:=GS (a:=((1:Int):Rat)) (k:=1) (by have:((1:Int):Rat)=1:=rfl;rw[this];exact h1) (by omega);refine xj Qj Tryz.func31 rfl akh (by simp[KA]) fun C hP=>?_;simp only[KA,Zo,Zg,Zm,Zc,Zf,Zl,Zh,Zs,Zi,Zb,Zk,Zn,Zu,Zq,Zr,Zz];generalize hA:((1:Int):Rat)=a1 at *
 refine Sz0 ?_;refine mL (IK n 9 32 _ _ Tz0) ?_;have lZ:(List.replicate n ([]:List Tm)).length=n:=List.length_replicate;unfold ew;rw[hA];generalize List.replicate n ([]:List Tm)=Z at *
 have hiZ:i<Z.length:=by omega
 have kb:(Z.map PV.aj).set i (PV.aj (dk a1))=(Z.set i (dk a1)).map PV.aj:=by rw[Kc9]
 have MA:i<(Z.map PV.aj).length:=by rw[KaT];omega
 have hlS:(Z.set i (dk a1)).length=n:=by rw[Kb8,lZ]
 refine Sz0 ?_;refine Qa hP ae rfl rfl rfl ?_;refine Sz0 ?_;rw[C1 (n:=1) (v:=PV.sl 4 ((dk a1).map PV.term)) MA rfl rfl];rw[show(Z.map PV.aj).set i (PV.sl 4 ((dk a1).map PV.term))=(Z.set i (dk a1)).map PV.aj from kb];generalize Z.set i (dk a1)=Y at *
 refine Sz0 ?_;have e0:List.take n (Y.map PV.aj)=Y.map PV.aj:=Kae (by rw[KaT];omega);refine tl ?_;refine sg e0 ?_;exact Qd rfl rfl
theorem acy{x:aB}{E:Nat}(h1:∀t∈x.1,MB E t.2)(h2:x.1.length<=2^36)(h3:∀y∈x.2,(∀t∈y,MB E t.2)/\y.length<=2^36)(hl:x.2.length<=100):Qc Tryz.prog 75 [PV.el x] (· = .bool (uE x)):=by
 obtain⟨p,cs⟩:=x;simp only at h1 h2 h3 hl;have hL:=ze h1 h2;have hc:∀i (h:i<cs.length),Qc Tryz.prog 135 [PV.aj cs[i]] (· = .bool (bh cs[i])):=fun i h=>ze (h3 _ (Kag h)).1 (h3 _ (Kag h)).2;have aG:∀i (h:i<cs.length),(bh p||(cs.take (i+1)).any bh)=((bh p||(cs.take i).any bh)||bh cs[i]):=fun i h=>by rw[Kah h,List.any_append];simp[Bool.or_assoc]
 refine Qf Qj Tryz.func75 rfl akd (by simp[Lf]) fun C hP=>?_;simp only[Lf,Zo,Zg,Zm,Zc,Zf,Zl,Zh,Zs,Zi,Zb,Zk,Zn,Zu,Zq,Zr,Zz];refine Sz0 ?_;refine Qa hP hL rfl rfl rfl ?_;refine Sz0 ?_;refine Qz (by repeat (first|exact Qs|exact Ql|exact Qm|exact Qn|exact Qo|apply Qk|apply Qr|apply Qw|apply Q5|apply Q6|apply Qi|apply Q2)) [(3,4),(8,23)] [] (fun m J hp=>∃i,m=cs.length-i/\i<=cs.length/\J 3= .bool (bh p||(cs.take i).any bh)/\J 4= .int .i64 (i:Nat)/\hp 1=some ⟨2,34,[PV.el (p,cs)],false⟩) cs.length ?_ ?_
 ·refine⟨0,rfl,by omega,?_⟩;refine Sz0 ?_
  first|trivial|simp
 rintro _ J h ⟨i,rfl,hi,j3,j4,hb⟩;by_cases c1:i<cs.length
 ·have d1:decide ((i:Int)<(cs.length:Int))=true:=decide_eq_true (by omega);have hc:=hc i c1;have aG:=aG i c1;generalize(bh p||(cs.take i).any bh)=b at *
  generalize hx:cs[i]=y at *
  refine Sz4 j3 j4 hb d1 ?_;cases b
  ·refine Sz5 j3 j4 hb d1 hx ?_;refine Qa hP hc rfl rfl rfl ?_;rw[Kcn]at aG;refine Sz5 j3 j4 hb d1 hx ?_;refine Qh (cs.length-(i+1)) (by omega) ⟨i+1,rfl,by omega,?_⟩;rw[aG];refine Sz1 hb ?_
   try trivial
  ·rw[KcM]at aG;refine Sz5 j3 j4 hb d1 hx ?_;refine Qh (cs.length-(i+1)) (by omega) ⟨i+1,rfl,by omega,?_⟩;rw[aG];refine Sz1 hb ?_
   try trivial
 ·obtain rfl:i=cs.length:=by omega
  have d1:decide ((cs.length:Int)<(cs.length:Int))=false:=decide_eq_false (by omega);rw[Kar]at j3;refine Sz4 j3 j4 hb d1 ?_;exact Qd rfl rfl
theorem acz{x:aB}{K E:Nat}(h1:PB K E x.1)(n1:au x.1)(h2:x.1.length<=2^36)(h3:∀y∈x.2,(∀t∈y,MB E t.2)/\y.length<=2^36)(hl:x.2.length<=100):Qc Tryz.prog 33 [PV.el x] (· = .int .i64 (eU x)):=by
 have hL:=acy (fun t ht=>(h1 t ht).m) h2 h3 hl;have hM:=za h1 n1 h2;unfold eU;generalize uE x=b at *
 obtain⟨p,cs⟩:=x;simp only at h1 n1 h2 hM;refine Qf Qj Tryz.func33 rfl ake (by simp[KC]) fun C hP=>?_;simp only[KC,Zo,Zg,Zm,Zc,Zf,Zl,Zh,Zs,Zi,Zb,Zk,Zn,Zu,Zq,Zr,Zz];refine Sz0 ?_;refine Qa hP hL rfl rfl rfl ?_;cases b
 ·simp only[KaK,if_false];by_cases c1:0<p.length
  ·have d1:decide ((p.length:Int)>0)=true:=decide_eq_true (by omega);have yh:decide (0<(p.length:Int))=true:=decide_eq_true (by omega);by_cases c2:Qv p<0
   ·have d2:decide (Qv p<0)=true:=decide_eq_true c2;rw[if_pos ⟨c1,c2⟩];refine Sz3 d1 yh d2 ?_;refine Qa hP hM rfl rfl rfl ?_;refine Sz3 d1 yh d2 ?_;exact Qd rfl rfl
   ·have d2:decide (Qv p<0)=false:=decide_eq_false c2;rw[if_neg fun h=>c2 h.2];refine Sz3 d1 yh d2 ?_;refine Qa hP hM rfl rfl rfl ?_;refine Sz3 d1 yh d2 ?_;exact Qd rfl rfl
  ·have d1:decide ((p.length:Int)>0)=false:=decide_eq_false (by omega);have yh:decide (0<(p.length:Int))=false:=decide_eq_false (by omega);rw[if_neg fun h=>c1 h.1];refine Sz2 d1 yh ?_;exact Qd rfl rfl
 ·refine Sz0 ?_;exact Qd rfl rfl
theorem XD{p q:List Tm}{cs ds:List (List Tm)}{a:Rat}(hlen:ds.length=cs.length)(hl:cs.length<=100)
  (vS:Qc Tryz.prog 70 [PV.aj p] (· = .aw [PV.aj q,PV.rat a])) (vT:∀i (h:i<cs.length),Qc Tryz.prog 71 [PV.aj cs[i],PV.rat a] (· =PV.aj (ds.getD i []))):
  Qc Tryz.prog 30 [PV.el (p,cs)] (· =PV.el (q,ds)):=by
 refine xj Qj Tryz.func30 rfl aki (by simp[Kz]) fun C hP=>?_;simp only[Kz,Zo,Zg,Zm,Zc,Zf,Zl,Zh,Zs,Zi,Zb,Zk,Zn,Zu,Zq,Zr,Zz];refine Sz0 ?_;refine Qa hP vS rfl rfl rfl ?_;refine Sz0 ?_;refine mL (F3 5 2000001 cC (by omega) rfl (by omega)) ?_;refine Sz0 ?_;refine mL (FV (γ:=2000001) (e:=2) (ty:=34) (xs:=[.agg [PV.aj q,.aa]]) (fz:=false) cC (by simp) (by omega) (fun x hx=>by rw[KaO.1 hx];rfl)) ?_;refine Sz0 ?_;refine mL (OO (γ:=2000001) (e:=2) (ty:=34) (cs:=[PV.aj q,.aa]) (cs':=[PV.aj q,.ay 2000002 0 0]) 2000002 1 32 cC cC (by omega) (by omega) rfl (by simp)) ?_;refine Sz0 ?_;refine xt (by repeat (first|exact Qs|exact Ql|exact Qm|exact Qn|exact Qo|apply Qk|apply Qr|apply Qw|apply Q5|apply Q6|apply Qi|apply Q2)) [(5,6),(15,33),(2000001,2000001)] [31,32] (fun q' J hp=>∃k,q'=cs.length-k/\k<=cs.length/\J 5= .np 2000001 0 0/\J 6= .int .i64 (k:Nat)/\J 2000001= .aN 2000001 2 34 [.aU [PV.aj q,.ay 2000002 0 k]]/\hp 2000001=some ⟨2,34,[],false⟩/\
   hp 2000002=some ⟨1,32,(ds.take k).map PV.aj,false⟩/\hp 1=some ⟨2,34,[PV.el (p,cs)],false⟩/\hp 2=some ⟨2,34,[.agg [.aa,.aa]],false⟩/\hp 4=some ⟨3,43,[PV.rat a],false⟩) cs.length ?_ ?_
 ·refine⟨0,rfl,by omega,?_⟩;refine Sz0 ?_;rfl
 rintro _ J h ⟨k,rfl,hk,j5,j6,g5,k5,k0,kx,kr,ka⟩;by_cases c1:k<cs.length
 ·have d1:decide ((k:Int)<(cs.length:Int))=true:=decide_eq_true (by omega);have hc:=vT k c1;have bk:ds.take (k+1)=ds.take k++[ds.getD k []]:=by rw[Kah (by omega)];simp[show k<ds.length by omega]
  have qj:k=(ds.take k).length:=by rw[KaF];omega
  generalize ds.getD k []=y at *
  generalize hx:cs[k]=x at *
  refine Sz5 j6 kx d1 hx ka ?_;refine Sz7 j5 j6 kx hx ka g5 k5 ?_;refine Qa hP hc rfl rfl rfl ?_;refine Sz5 j5 j6 kx g5 k5 ?_;rw[Sw (f:=PV.aj) (y:=y) (xs:=ds.take k) (ty':=32) (fz:=false) (Tzr1 k0) cC (by omega) qj (by omega) (by omega) (by omega)];refine Sz4 j5 j6 g5 k5 ?_;refine u9 (cs.length-(k+1)) (by omega) ⟨k+1,rfl,by omega,?_⟩;rw[bk];refine Sz6 j5 g5 k5 kx kr ka ?_
  try trivial
 ·obtain rfl:k=cs.length:=by omega
  have d1:decide ((cs.length:Int)<(cs.length:Int))=false:=decide_eq_false (by omega);have e0:(List.take ds.length ((ds.take cs.length).map PV.aj))=ds.map PV.aj:=by rw[hlen.symm,Kar,Kae (by simp)]
  rw[hlen]at e0;refine Sz7 j5 j6 g5 k5 kx kr d1 ?_;refine IF 34 2 [2000002] (p:=.aU [PV.aj q,.ay 2000002 0 cs.length]) Tz0 (D:=PV.el (q,ds)) ?_ ?_ rfl ?_
  ·intro c hc;simp only[KaQ,Kdg,or_false]at hc;rcases hc with rfl|rfl
   ·trivial
   ·simp only[sT,bK];simp
  ·show PV.agg [_,jW _ h 2 (.ay 2000002 0 _)]=_;simp only[jW,k0,Kbp];rw[e0]
  refine sg kr ?_;refine tl (dD ?_);refine Sz0 ?_;exact Qd rfl rfl
def AE:aA:=⟨69,[.cell 6 2 true,.t 7],Zr (Zo (.box 3 2 34 (.t 0))<|Zo (.box 4 2 34 (.t 1))<|Zo (.alloc 6 2 34 (.agg [.aa,.aa]))<|Zc 7 0 .nil)<|Zr (Zf 16 0 3<|Zl 17 1 16<|Zf 18 0 4<|Zl 19 1 18<|Zm 20 2<|Zq 21 false 78 [.t 17,.t 19,.t 20]<|Zm 15 21<|Zo (.ext 22 (.t 15) 0)<|Zo (.ext 23 (.t 15) 1)<|Zo (.ext 24 (.t 15) 2)<|Zo (.ext 25 (.t 15) 3)<|Zm 8 22<|Zm 9 23<|Zm 10 24<|Zm 11 25 .nil)<| .seq (Zr (Zm 26 11<|Zk 27 .neq 26 0 .nil)<| .cond (.t 27) (Zr (Zo (.bU 28 [.aa,.aa] [])<|Zm 29 11<|Zs 2 6 28<|Zm 7 29 .nil) .ret) .skip)<|Zr (Zf 30 0 4<|Zl 31 1 30<|Zq 32 false 80 [.t 31]<|Zm 33 10<|Zq 34 false 79 [.t 32,.t 33]<|Zm 12 34 .nil)<|Zr (Zm 35 9<|Zo (.bU 36 [.aa,.aa] [(0,1,.t 35)])<|Zo (.alloc 13 2 34 (.agg [.aa,.aa]))<|Zs 2 13 36<| .wk<| .wk<| .wk .nil)<| .seq (Zr (Zc 14 0 .nil)<| .block 0<| .loop<| .seq (Zr (Zm 37 14<|Zf 38 1 3<|Zl 39 1 38<|Zn 40 39<|Zb 41 .lss 37 40 .nil)<| .cond (.t 41) .skip (.exit 0))<| .seq (.block 1<| .rg (Zf 44 1 13<|Zl 45 1 44<|Zm 46 12<|Zf 47 1 3<|Zl 48 1 47<|Zm 49 14<|Zi 50 1 48 49<|Zl 51 1 50<|Zm 53 8<|Zf 54 1 4<|Zl 55 1 54<|Zm 56 14<|Zi 57 1 55 56<|Zl 58 1 57<|Zq 52 true 24 [.t 46,.t 51]<|Zq 59 true 24 [.t 53,.t 58]<|Zq 60 true 21 [.t 52,.t 59]<|Zo (.bs 61 1 32 [.t 60])<|Zo (.app 62 1 24 32 (.t 45) (.t 61))<|Zf 63 1 13<|Zs 1 63 62 .nil))<| .rg (Zm 42 14<|Zk 43 .add 42 1<|Zm 14 43 .nil))<|Zr (Zh 64 2 13<| .wk<|Zq 65 false 30 [.t 64]<|Zs 2 13 65 .nil)<|Zr (Zh 66 2 13<|Zh 67 2 13<|Zq 68 true 33 [.t 67]<|Zs 2 6 66<|Zm 7 68 .nil) .ret⟩
theorem Rg:Qe Tryz.prog Tryz.f36=some AE.strip:=by kernel_rfl
theorem aeA{f g:aB}{v:Int}{q r c:List Tm}{n:Nat}{x:aB}{e:Int}(hl:f.2.length<=100)(hlen:g.2.length=f.2.length)
  (hd:Qc Tryz.prog 78 [PV.aj f.1,PV.aj g.1,.int .i64 v] (· = .aw [PV.aj q,PV.aj r,.int .i64 n,.int .i64 0]))
  (hi:Qc Tryz.prog 80 [PV.aj g.1] (· =PV.aj (cA g.1))) (qe:Qc Tryz.prog 79 [PV.aj (cA g.1),.int .i64 n] (· =PV.aj c))
  (rk:∀y∈f.2,Qc Tryz.prog 24 [PV.aj c,PV.aj y] (· =PV.aj (Q4 c y))) (nh:∀y∈g.2,Qc Tryz.prog 24 [PV.aj q,PV.aj y] (· =PV.aj (Q4 q y)))
  (uA:∀y∈f.2,∀z∈g.2,Qc Tryz.prog 21 [PV.aj (Q4 c y),PV.aj (Q4 q z)] (· =PV.aj (fM (Q4 c y) (Q4 q z))))
  (dq:Qc Tryz.prog 30 [PV.el (r,cD c q f.2 g.2)] (· =PV.el x)) (pU:Qc Tryz.prog 33 [PV.el x] (· = .int .i64 e)):
  Qc Tryz.prog 36 [PV.el f,PV.el g,.int .i64 v] (· = .aw [PV.el x,.int .i64 e]):=by
 obtain⟨fp,fc⟩:=f;obtain⟨gp,gc⟩:=g;simp only at *
 refine xj Qj Tryz.func36 rfl Rg (by simp[AE]) fun C hP=>?_;simp only[AE,Zo,Zg,Zm,Zc,Zf,Zl,Zh,Zs,Zi,Zb,Zk,Zn,Zu,Zq,Zr,Zz];refine Sz0 ?_;refine Qa hP hd rfl rfl rfl ?_;refine Sz0 ?_;rw[bN rfl];refine Sz0 ?_;refine Qa hP hi rfl rfl rfl ?_;refine Sz0 ?_;refine Qa hP qe rfl rfl rfl ?_;refine Sz0 ?_;refine mL (F3 13 2000001 cC (by omega) rfl (by omega)) ?_;refine Sz0 ?_;refine mL (FV (γ:=2000001) (e:=2) (ty:=34) (xs:=[.agg [PV.aj r,.aa]]) (fz:=false) cC (by simp) (by omega) (fun x hx=>by rw[KaO.1 hx];rfl)) ?_;refine Sz0 ?_;refine mL (OO (γ:=2000001) (e:=2) (ty:=34) (cs:=[PV.aj r,.aa]) (cs':=[PV.aj r,.ay 2000002 0 0]) 2000002 1 32 cC cC (by omega) (by omega) rfl (by simp)) ?_;refine Sz0 ?_;refine xt (by repeat (first|exact Qs|exact Ql|exact Qm|exact Qn|exact Qo|apply Qk|apply Qr|apply Qw|apply Q5|apply Q6|apply Qi|apply Q2)) [(13,14),(37,63),(2000001,2000001)] [61,62] (fun q' J hp=>∃k,q'=fc.length-k/\k<=fc.length/\J 13= .np 2000001 0 0/\J 14= .int .i64 (k:Nat)/\J 2000001= .aN 2000001 2 34 [.aU [PV.aj r,.ay 2000002 0 k]]/\hp 2000001=some ⟨2,34,[],false⟩/\
   hp 2000002=some ⟨1,32,((cD c q fc gc).take k).map PV.aj,false⟩/\hp 3=some ⟨2,34,[PV.el (fp,fc)],false⟩/\hp 4=some ⟨2,34,[PV.el (gp,gc)],false⟩/\hp 6=some ⟨2,34,[.agg [.aa,.aa]],false⟩) fc.length ?_ ?_
 ·refine⟨0,rfl,by omega,?_⟩;refine Sz0 ?_;rfl
 rintro _ J h ⟨k,rfl,hk,ki,fF,g5,k5,k0,kx,ky,kr⟩;by_cases c1:k<fc.length
 ·have d1:decide ((k:Int)<(fc.length:Int))=true:=decide_eq_true (by omega);have c2:k<gc.length:=by omega
  have m1:=rk _ (Kag c1);have m2:=nh _ (Kag c2);have m3:=uA _ (Kag c1) _ (Kag c2);have hz:k<(cD c q fc gc).length:=by unfold cD;rw[KbV];omega
  have bk:(cD c q fc gc).take (k+1)=(cD c q fc gc).take k++[fM (Q4 c fc[k]) (Q4 q gc[k])]:=by rw[Kah hz];simp[cD]
  have qj:k=((cD c q fc gc).take k).length:=by rw[KaF];omega
  generalize(cD c q fc gc).take k=A at *
  generalize hx:fc[k]=y at *
  generalize hw:gc[k]=z at *
  refine Sz4 fF kx d1 hx ?_;refine Sz8 ki fF kx ky hx hw g5 k5 ?_;refine Qa hP m1 rfl rfl rfl ?_;refine Sz8 ki fF kx ky hx hw g5 k5 ?_;refine Qa hP m2 rfl rfl rfl ?_;refine Sz4 ki fF g5 k5 ?_;refine Qa hP m3 rfl rfl rfl ?_;refine Sz4 ki fF g5 k5 ?_;rw[Sw (f:=PV.aj) (y:=fM (Q4 c y) (Q4 q z)) (xs:=A) (ty':=32) (fz:=false) (Tzr1 k0) cC (by omega) qj (by omega) (by omega) (by omega)];refine Sz4 ki fF g5 k5 ?_;refine u9 (fc.length-(k+1)) (by omega) ⟨k+1,rfl,by omega,?_⟩;rw[bk];refine Sz6 ki g5 k5 kx ky kr ?_
  try trivial
 ·obtain rfl:k=fc.length:=by omega
  have d1:decide ((fc.length:Int)<(fc.length:Int))=false:=decide_eq_false (by omega);have ff:(cD c q fc gc).length=fc.length:=by unfold cD;rw[KbV];omega
  have e0:(List.take fc.length (((cD c q fc gc).take fc.length).map PV.aj))=(cD c q fc gc).map PV.aj:=by rw[<-ff,Kar,Kae (by simp)]
  generalize cD c q fc gc=A at *
  refine Sz8 ki fF g5 k5 kx ky kr d1 ?_;refine IF 64 2 [2000002] (p:=.aU [PV.aj r,.ay 2000002 0 fc.length]) Tz0 (D:=PV.el (r,A)) ?_ ?_ rfl ?_
  ·intro c hc;simp only[KaQ,Kdg,or_false]at hc;rcases hc with rfl|rfl
   ·trivial
   ·simp only[sT,bK];simp
  ·show PV.agg [_,jW _ h 2 (.ay 2000002 0 _)]=_;simp only[jW,k0,Kbp];rw[e0]
  refine kF ki kr ?_;refine Qa hP dq rfl rfl rfl ?_;refine IT ki kr k5 g5 ?_;refine Qa hP pU rfl rfl rfl ?_;refine sg kr ?_;refine tl (jC ?_);refine Sz0 ?_;exact fl rfl rfl rfl (Qx _) (Qx _)
theorem Yb{f g:aB}{v:Int}(hd:Qc Tryz.prog 78 [PV.aj f.1,PV.aj g.1,.int .i64 v] (· = .aw [PV.aj [],PV.aj [],.int .i64 0,.int .i64 4])):
  Qc Tryz.prog 36 [PV.el f,PV.el g,.int .i64 v] (· = .aw [PV.el ([],[]),.int .i64 4]):=by
 obtain⟨fp,fc⟩:=f;obtain⟨gp,gc⟩:=g;simp only at *
 refine xj Qj Tryz.func36 rfl Rg (by simp[AE]) fun C hP=>?_;simp only[AE,Zo,Zg,Zm,Zc,Zf,Zl,Zh,Zs,Zi,Zb,Zk,Zn,Zu,Zq,Zr,Zz];refine Sz0 ?_;refine Qa hP hd rfl rfl rfl ?_;refine Sz0 ?_;rw[bN rfl];refine Sz0 ?_;refine tl (jC ?_);refine Sz0 ?_;exact fl (p':=PV.el ([],[])) rfl rfl rfl ⟨trivial,trivial,trivial⟩ (Qx _)
theorem Yr{l:List aB}{v K E:Nat}(hv:v<64)(hp:∀x∈l,PB K E x.1/\au x.1/\x.1.length<=2^30)(hK:K<=2^33)(hE:E<=2^38)(hl:l.length<=100):
  Qc Tryz.prog 34 [.sl 2 (l.map PV.el),.int .i64 v] (· = .aw [.int .i64 (cH l v).1,.int .i64 (cH l v).2]):=by
 refine Qf Qj Tryz.func34 rfl akf (by simp[KD]) fun C hP=>?_;simp only[KD,Zo,Zg,Zm,Zc,Zf,Zl,Zh,Zs,Zi,Zb,Zk,Zn,Zu,Zq,Zr,Zz];refine Sz0 ?_;refine Qz (by repeat (first|exact Qs|exact Ql|exact Qm|exact Qn|exact Qo|apply Qk|apply Qr|apply Qw|apply Q5|apply Q6|apply Qi|apply Q2)) [(6,66)] [] (fun m J hp=>∃i,m=l.length-i/\i<=l.length/\J 6= .int .i64 (iE l v i).1/\J 7= .int .i64 (iE l v i).2/\J 8= .int .i64 (i:Nat)) l.length ?_ ?_
 ·refine⟨0,rfl,by omega,?_⟩;refine Sz0 ?_
  try (first|rfl|exact⟨rfl,rfl⟩|exact⟨rfl,rfl,rfl⟩)
 rintro _ J h ⟨i,rfl,hi,j6,j7,fF⟩;obtain⟨s1,s2,s3⟩:=DT l v i;have cU:=Df l v i;generalize aG:iE l v i=st at *
 obtain⟨at_,n⟩:=st;simp only at s1 s2 s3 j6 j7;by_cases c1:i<l.length
 ·have d1:decide ((i:Int)<(l.length:Int))=true:=decide_eq_true (by omega);obtain⟨b1,b2,b3⟩:=hp _ (Kag c1);have hm:=za b1 b2 (by omega:_<=2^36);have eB:l.getD i default=l[i]:=by simp[c1]
  unfold xH at cU;rw[eB]at cU;generalize hx:l[i]=x at *
  refine Sz3 fF d1 hx ?_;refine Qa hP hm rfl rfl rfl ?_;by_cases e1:Qv x.1=v
  ·have q1:decide (¬Qv x.1=(v:Int))=false:=decide_eq_false fun h=>h e1;have sW:(!decide (Qv x.1=(v:Int)))=false:=by simp[e1]
   rw[if_neg (by simpa using e1)]at cU;by_cases e2:at_<0
   ·have q2:decide (at_<0)=true:=decide_eq_true e2;simp only[e2,if_true]at cU;refine Sz8 j6 j7 fF d1 hx q1 sW q2 ?_;refine Qh (l.length-(i+1)) (by omega) ⟨i+1,rfl,by omega,?_⟩;rw[cU];refine Sz2 j6 j7 ?_
    try (first|rfl|trivial|exact⟨rfl,rfl⟩|exact⟨rfl,rfl,rfl⟩)
   ·have q2:decide (at_<0)=false:=decide_eq_false e2;simp only[e2,if_false]at cU;obtain⟨a,rfl⟩:∃a:Nat,at_=a:=⟨at_.toNat,by omega⟩
    have ha:a<l.length:=by omega
    obtain⟨b4,b5,b6⟩:=hp _ (Kag ha);have Mw:l.getD ((a:Int)).toNat default=l[a]:=by simp[ha]
    rw[Mw]at cU;generalize hy:l[a]=y at *
    have fD:=wR (v:=(v:Int)) b1 (by omega:_<=2^36);have gl:=wR (v:=(v:Int)) b4 (by omega:_<=2^36);rw[mH]at fD gl;have hc:=Sx b1 b4 hK hE (by omega) (by omega);unfold xZ at cU;generalize Q3 x.1 v=dx at *
    generalize Q3 y.1 v=dy at *
    generalize gT x.1 y.1=cv at *
    refine Sz9 j6 j7 fF d1 hx hy q1 sW q2 ?_;refine Qa hP fD rfl rfl rfl ?_;refine Sz0 ?_;refine Qa hP gl rfl rfl rfl ?_;by_cases e3:dx<dy
    ·have q3:decide (dx<dy)=true:=decide_eq_true e3;rw[q3]at cU;simp only[KcM,if_true]at cU;refine Sz7 j6 j7 fF d1 hx hy q3 ?_;refine Qh (l.length-(i+1)) (by omega) ⟨i+1,rfl,by omega,?_⟩;rw[cU];refine Sz2 j6 j7 ?_
     try (first|rfl|trivial|exact⟨rfl,rfl⟩|exact⟨rfl,rfl,rfl⟩)
    have q3:decide (dx<dy)=false:=decide_eq_false e3;rw[q3]at cU;simp only[Kcn]at cU;by_cases e4:dx=dy
    ·have q4:decide (dx=dy)=true:=decide_eq_true e4;rw[q4]at cU;simp only[KbU]at cU;refine Sz8 j6 j7 fF d1 hx hy q3 q4 ?_;refine Qa hP hc rfl rfl rfl ?_;by_cases e5:cv<0
     ·have q5:decide (cv<0)=true:=decide_eq_true e5;simp only[q5,if_true]at cU;refine Sz9 j6 j7 fF d1 hx hy q3 q4 q5 ?_;refine Qh (l.length-(i+1)) (by omega) ⟨i+1,rfl,by omega,?_⟩;rw[cU];refine Sz2 j6 j7 ?_
      try (first|rfl|trivial|exact⟨rfl,rfl⟩|exact⟨rfl,rfl,rfl⟩)
     ·have q5:decide (cv<0)=false:=decide_eq_false e5;simp only[q5,KaK,if_false]at cU;refine Sz9 j6 j7 fF d1 hx hy q3 q4 q5 ?_;refine Qh (l.length-(i+1)) (by omega) ⟨i+1,rfl,by omega,?_⟩;rw[cU];refine Sz2 j6 j7 ?_
      try (first|rfl|trivial|exact⟨rfl,rfl⟩|exact⟨rfl,rfl,rfl⟩)
    ·have q4:decide (dx=dy)=false:=decide_eq_false e4;simp only[q4,Kc6,KaK,if_false]at cU;refine Sz8 j6 j7 fF d1 hx hy q3 q4 ?_;refine Qh (l.length-(i+1)) (by omega) ⟨i+1,rfl,by omega,?_⟩;rw[cU];refine Sz2 j6 j7 ?_
     try (first|rfl|trivial|exact⟨rfl,rfl⟩|exact⟨rfl,rfl,rfl⟩)
  ·have q1:decide (¬Qv x.1=(v:Int))=true:=decide_eq_true e1;have sW:(!decide (Qv x.1=(v:Int)))=true:=by simp[e1]
   rw[if_pos (by simpa using e1)]at cU;refine Sz7 j6 j7 fF d1 hx q1 sW ?_;refine Qh (l.length-(i+1)) (by omega) ⟨i+1,rfl,by omega,?_⟩;rw[cU];refine Sz2 j6 j7 ?_
   try (first|rfl|trivial|exact⟨rfl,rfl⟩|exact⟨rfl,rfl,rfl⟩)
 ·obtain rfl:i=l.length:=by omega
  have d1:decide ((l.length:Int)<(l.length:Int))=false:=decide_eq_false (by omega);refine Sz4 j6 j7 fF d1 ?_;exact fl (by unfold cH;rw[aG]) rfl rfl (Qx _) (Qx _)
def yT(x:aB)(e:Int):aB:=if e=0 then x else([],[])
theorem Q9b(x:aB):oH (bh x.1) (x.2.any bh) (decide (Qv x.1<0)) x.1 x.2= .aw [PV.el (yT x (eU x)),.int .i64 (eU x)]:=by
 unfold oH eU uE yT;cases h1:(bh x.1||x.2.any bh)
 ·simp only[KaK,if_false];by_cases h2:0<x.1.length
  ·by_cases h3:Qv x.1<0
   ·simp[h2,h3]
   ·simp[h2,h3]
  ·simp[h2]
 ·simp
structure uP(p:List Tm)(cs:List (List Tm)):Prop where
 b:PB 115200 2500 p
 n:au p
 l:p.length<=4000
 r:rs (eP p)<=115200
 k:cs.length<=100
 c:∀c∈cs,PB 400000 5000 c/\au c/\c.length<=2^34
theorem uP.x{p:List Tm}{cs:List (List Tm)}(h:uP p cs):PB 800000 5000 (dh p cs).1/\au (dh p cs).1/\(dh p cs).1.length<=4000/\∀y∈(dh p cs).2,PB 800000 5000 y/\au y/\y.length<=2^34:=by have hr:=h.r;refine⟨(xf (L:=115201) h.b (by omega)).mono (by omega) (by omega),qB h.n.s _,Kaw (uU _ _) h.l,fun y hy=>?_⟩;obtain⟨c,hc,rfl⟩:=KaE.1 hy;obtain⟨c1,c2,c3⟩:=h.c c hc;exact⟨(xf (L:=115201) c1 (by omega)).mono (by omega) (by omega),qB c2.s _,Kaw (uU _ _) c3⟩
theorem Qtj:Qc Tryz.prog 120 [PV.aj []] (· = .aw [PV.aj [],PV.rat ((1:Int):Rat)]):=Qva
theorem Iq{p:List Tm}{cs:List (List Tm)}(h:uP p cs):Qc Tryz.prog 66 [PV.aj p,PV.bX cs] (· = .aw [PV.el (yT (dh p cs) (eU (dh p cs))),.int .i64 (eU (dh p cs))]):=by
 obtain⟨x1,x2,x3,x4⟩:=h.x;have hr:=h.r;have hl:=h.l;have e:(dh p cs).2.length=cs.length:=by simp[dh]
 have hP:Qc Tryz.prog 120 [PV.aj p] (· = .aw [PV.aj (dh p cs).1,PV.rat (eP p)]):=by
  show Qc _ _ _ (· = .aw [PV.aj (b8 p (eP p)),PV.rat (eP p)]);unfold eP;split
  ·rename_i h0;subst h0;rw[xc];exact Qtj
  ·exact RA (K:=115200) (E:=2500) h.b h.n ‹_› (by omega) (by omega) (by omega)
 have hG:=R0 (p:=p) (q:=(dh p cs).1) (cs:=cs) (ds:=(dh p cs).2) (a:=eP p) e h.k hP (fun i hi=>?_) (DS (fun t ht=>(x1 t ht).m) (by omega)) (Ry (g:=bh) (fun t ht=>DS (fun s hs=>((x4 t ht).1 s hs).m) (by have:=(x4 t ht).2.2;omega)) (by have:=h.k;omega)) (TH x1 (by omega))
 ·rwa[Q9b]at hG
 ·obtain⟨c1,c2,c3⟩:=h.c _ (Kag hi);have e2:(dh p cs).2.getD i []=b8 cs[i] (eP p):=by simp[dh,hi]
  rw[e2];exact Cs (K:=400000) (E:=5000) c1 (by omega) (by omega) (by omega) (by omega)
theorem Ht{p:List Tm}{cs:List (List Tm)}(h:uP p cs):Qc Tryz.prog 30 [PV.el (p,cs)] (· =PV.el (dh p cs))/\Qc Tryz.prog 33 [PV.el (dh p cs)] (· = .int .i64 (eU (dh p cs))):=by
 obtain⟨x1,x2,x3,x4⟩:=h.x;have hr:=h.r;have hl:=h.l;have e:(dh p cs).2.length=cs.length:=by simp[dh]
 have hP:Qc Tryz.prog 70 [PV.aj p] (· = .aw [PV.aj (dh p cs).1,PV.rat (eP p)]):=by
  show Qc _ _ _ (· = .aw [PV.aj (b8 p (eP p)),PV.rat (eP p)]);unfold eP;split
  ·rename_i h0;subst h0;rw[xc];exact Qvb
  ·exact Qti (K:=115200) (E:=2500) h.b h.n ‹_› (by omega) (by omega) (by omega)
 refine⟨?_,acz x1 x2 (by omega) (fun y hy=>⟨fun t ht=>((x4 y hy).1 t ht).m,by have:=(x4 y hy).2.2;omega⟩) (by rw[e];exact h.k)⟩;refine XD (p:=p) (q:=(dh p cs).1) (cs:=cs) (ds:=(dh p cs).2) (a:=eP p) e h.k hP (fun i hi=>?_);obtain⟨c1,c2,c3⟩:=h.c _ (Kag hi);have e2:(dh p cs).2.getD i []=b8 cs[i] (eP p):=by simp[dh,hi]
 rw[e2];exact Gq (K:=400000) (E:=5000) c1 c2.z (by omega) (by omega) (by omega) (by omega)
section
variable {m j Tf Tg v : Nat} {f g : aB}
theorem eE.UR(h:eE m j Tf Tg v f g):PB 23100 500 g.1/\PB 23100 500 f.1:=by obtain⟨n1,n2,_⟩:=h.num;have:=(jh h.hj).1;exact⟨h.hg.pb.mono (by omega) (by omega),h.hf.pb.mono (by omega) (by omega)⟩
theorem oD.pw(h:eE m j Tf Tg v f g){q r:List Tm}{n:Nat}(o:oD m j Tf Tg v f g q r n):∀i,i<=n->PB 92200 2000 (cx (cA g.1) i)/\(cx (cA g.1) i).length<=2001:=by
 intro i hi;obtain⟨n1,n2,n3,n4,_⟩:=h.num;obtain⟨h1,h2,h3,h4,h5,h6,h7,h8,h9,bI,ct⟩:=jh h.hj;obtain⟨i1,i2,i3,i4⟩:=o.ni;have hn:=o.nn.2;have hs:=i3.yU i;have e1:i*bL j<=4*23028:=KaJ (by omega) h1;have e2:i*Tg<=nL j*tL j:=KaJ (by omega) h.tg;have hb:=hs.PB;refine⟨hb.mono (by omega) (by omega),?_⟩;have hc:=Yp hb (tz i2 i) (i1.yU i);have hv:v=0∨v=1∨v=2:=by have:=h.hv;omega
 rcases hv with e|e|e
 ·subst e;simp at hc;omega
 ·subst e;simp at hc;omega
 ·obtain⟨l1,l2⟩:=NF (h.lo e);subst e;have:i*Tg+1<=9:=by rw[l1,l2]at e2;omega
  have:=Nat.pow_le_pow_left this 2;omega
theorem oD.LL(h:eE m j Tf Tg v f g){q r:List Tm}{n:Nat}(o:oD m j Tf Tg v f g q r n){u w:List Tm}(hu:u∈f.2)(hw:w∈g.2):
  PB 300000 5000 (Q4 (cx (cA g.1) n) u)/\PB 300000 5000 (Q4 q w)/\(Q4 (cx (cA g.1) n) u).length<=2^33/\(Q4 q w).length<=2^33:=by
 obtain⟨n1,n2,n3,n4,_⟩:=h.num;obtain⟨h1,h2,h3,h4,h5,h6,h7,h8,h9,bI,ct⟩:=jh h.hj;obtain⟨s1,s2,_,_⟩:=o.yg h hu hw;have e1:n*bL j<=4*23028:=KaJ (by have:=o.nn.2;omega) h1;have hn:=o.nn.2;have hc:=(o.pw h n (Kac _))
 have l1:=qE (h.hf.c u hu).2.2;have l2:=qE (h.hg.c w hw).2.2;have p1:=(s0 hc.1 (h.hf.c u hu).1.PB).2;have p2:=(s0 o.sq.PB (h.hg.c w hw).1.PB).2;have m1:(cx (cA g.1) n).length*u.length<=2001*4000:=KaJ hc.2 l1;have m2:q.length*w.length<=4000*4000:=KaJ o.lq l2;exact⟨s1.PB.mono (by omega) (by omega),s2.PB.mono (by omega) (by omega),by omega,by omega⟩
theorem oD.pri(h:eE m j Tf Tg v f g){q r:List Tm}{n:Nat}(o:oD m j Tf Tg v f g q r n):uP r (cD (cx (cA g.1) n) q f.2 g.2):=by
 obtain⟨n1,n2,n3,n4,_⟩:=h.num;obtain⟨h1,h2,h3,h4,h5,h6,h7,h8,h9,bI,ct⟩:=jh h.hj;have hn:=o.nn.2;have e3:nL j*Tg<=4*500:=KaJ n3 n2;refine⟨o.sr.PB.mono (by omega) (by omega),o.nr,o.lr,Kaw o.AJ h6,?_,fun c hc=>?_⟩
 ·have:=h.hm;rw[cD,KbV,h.hf.k,h.hg.k];omega
 ·obtain⟨u,hu,w,hw,rfl⟩:=DH hc;obtain⟨s1,s2,m1,m2⟩:=o.yg h hu hw;obtain⟨_,_,l1,l2⟩:=o.LL h hu hw;have s3:=(s1.mono (Kac _) (Kac _) (by omega:nL j*tL j+eL j<=tL j+nL j*tL j+eL j)).wM s2;have e1:n*bL j<=4*23028:=KaJ (by omega) h1;refine⟨s3.PB.mono (by omega) (by omega),vj m1 m2,?_⟩;have:=s9 (Q4 (cx (cA g.1) n) u) (kZ (Q4 q w));have h5:=uU (Q4 q w) (-1);unfold fM;unfold kZ at *
  omega
theorem PZ(h:eE m j Tf Tg v f g):jD g.1 v (Q3 g.1 v).toNat ((Q3 f.1 v).toNat+1) [] f.1 0=PV.dv (lU f.1 g.1):=by obtain⟨_,_,_,_,_,_,_,n8,_⟩:=h.num;rw[An];unfold lU;rw[n8]
theorem Rv(h:eE m j Tf Tg v f g):Qc Tryz.prog 69 [PV.el f,PV.el g,.int .i64 v] (· = .aw [PV.el (yT (dW f g).1 (dW f g).2),.int .i64 (dW f g).2]):=by
 obtain⟨n1,n2,n3,n4,n5,n6,n7,n8,n9⟩:=h.num;obtain⟨g1,g2⟩:=h.UR;have qX:=h.hd;have hm:=h.hm;have hfk:=h.hf.k;have yB:=h.hg.k;have hD:=Gk (f:=f.1) (g:=g.1) (v:=v) (d:=(Q3 g.1 v).toNat) (N:=(Q3 f.1 v).toNat+1) (K:=115200) (E:=2500) (M:=4000) h.hf.n h.hg.n (g1.mono (by omega) (by omega)) (by have:=h.hv;omega) (rO (by have:=h.mg;omega)) n6.symm (by omega) h.hf.l
  (fun k hk=>h.Xf _ k (by omega)) h.hg.len (by omega) (by omega) (by omega) (by omega) (by omega) (by omega) (by omega)
 rw[PZ h]at hD;unfold dW;cases hd:lU f.1 g.1 with
 |none=>rw[hd,IM]at hD;exact XC hD
 | some d=>
  obtain⟨q,r,n⟩:=d;have o:=h.out hd;rw[hd,Im]at hD;have hn:=o.nn.2;obtain⟨i1,i2,i3,i4⟩:=o.ni;have qe:=o.pw h;have ns:=qe n (Kac _);refine NP (by omega) (by omega) hD (Gg g1 (by have:=h.hg.len;omega)) (IJ (K:=92200) (E:=2000) (L:=4000) (by omega) (i3.PB.mono ?_ (by omega)) (fun i hi=>⟨(qe i hi).1,by have:=(qe i hi).2;omega⟩) i4 (by omega) (by omega) (by omega) (by omega)) ?_ ?_ ?_ (Iq (o.pri h))
  ·have:=(jh h.hj).1;omega
  ·intro y hy;have l1:=qE (h.hf.c y hy).2.2;have m1:(cx (cA g.1) n).length*y.length<=2001*4000:=KaJ ns.2 l1;have m3:min (cx (cA g.1) n).length y.length<=4000:=by omega
   refine rK (K:=140000) (E:=5000) (ns.1.mono (by omega) (by omega)) ((h.hf.c y hy).1.PB.mono ?_ ?_) (by omega) (by omega) (by omega) (by omega) (Kaw (Kaf _ m3) (by decide+kernel)) (by omega)
   ·have:=(jh h.hj);omega
   ·have:=(jh h.hj);omega
  ·intro y hy;have l1:=qE (h.hg.c y hy).2.2;have lq:=o.lq;have m1:q.length*y.length<=4000*4000:=KaJ o.lq l1;have m3:min q.length y.length<=4000:=by omega
   have e3:nL j*Tg<=4*500:=KaJ n3 n2;refine rK (K:=140000) (E:=5000) (o.sq.PB.mono ?_ (by omega)) ((h.hg.c y hy).1.PB.mono ?_ ?_) (by omega) (by omega) (by omega) (by omega) (Kaw (Kaf _ m3) (by decide+kernel)) (by omega)
   ·have:=(jh h.hj);omega
   ·have:=(jh h.hj);omega
   ·have:=(jh h.hj);omega
  ·intro y hy z hz;obtain⟨c1,c2,c3,c4⟩:=o.LL h hy hz;exact G2 c1 c2 (by omega) (by omega) (by omega) (by omega) (by omega)
theorem ahs(h:eE m j Tf Tg v f g):Qc Tryz.prog 36 [PV.el f,PV.el g,.int .i64 v] (· = .aw [PV.el (dW f g).1,.int .i64 (dW f g).2]):=by
 obtain⟨n1,n2,n3,n4,n5,n6,n7,n8,n9⟩:=h.num;obtain⟨g1,g2⟩:=h.UR;have qX:=h.hd;have hm:=h.hm;have hfk:=h.hf.k;have yB:=h.hg.k;have hD:=Qyq (f:=f.1) (g:=g.1) (v:=v) (d:=(Q3 g.1 v).toNat) (N:=(Q3 f.1 v).toNat+1) (K:=115200) (E:=2500) (M:=4000) h.hf.n h.hg.n (g1.mono (by omega) (by omega)) (by have:=h.hv;omega) (rO (by have:=h.mg;omega)) n6.symm (by omega) h.hf.l
  (fun k hk=>h.Xf _ k (by omega)) h.hg.len (by omega) (by omega) (by omega) (by omega) (by omega) (by omega) (by omega) (by omega)
 rw[PZ h]at hD;unfold dW;cases hd:lU f.1 g.1 with
 |none=>rw[hd,IM]at hD;exact Yb hD
 | some d=>
  obtain⟨q,r,n⟩:=d;have o:=h.out hd;rw[hd,Im]at hD;have hn:=o.nn.2;obtain⟨i1,i2,i3,i4⟩:=o.ni;have qe:=o.pw h;have ns:=qe n (Kac _);refine aeA (by omega) (by omega) hD (Qxd g1 h.hg.n (by have:=h.hg.len;omega) (by omega) (by omega)) (acv (K:=92200) (E:=2000) (L:=4000) (by omega) (i3.PB.mono ?_ (by omega)) i2 (fun i hi=>⟨(qe i hi).1,by have:=(qe i hi).2;omega⟩) i4 (by omega) (by omega) (by omega)) ?_ ?_ ?_ (Ht (o.pri h)).1 (Ht (o.pri h)).2
  ·have:=(jh h.hj).1;omega
  ·intro y hy;have l1:=qE (h.hf.c y hy).2.2;have m1:y.length*(cx (cA g.1) n).length<=4000*2001:=KaJ l1 ns.2;have:=qy (K:=140000) (E:=5000) (ns.1.mono (by omega) (by omega)) ((h.hf.c y hy).1.PB.mono (by have:=(jh h.hj);omega) (by have:=(jh h.hj);omega)) (tz i2 n).z (h.hf.c y hy).2.1.z (by omega) (by omega) (by omega) (by omega) (Kaw (Nat.add_le_add_right (Kaf _ l1) _) (by decide+kernel))
   rwa[tw (tz i2 n) (h.hf.c y hy).2.1]at this
  ·intro y hy;have l1:=qE (h.hg.c y hy).2.2;have lq:=o.lq;have m1:y.length*q.length<=4000*4000:=KaJ l1 o.lq;have e3:nL j*Tg<=4*500:=KaJ n3 n2;have:=qy (K:=140000) (E:=5000) (o.sq.PB.mono (by have:=(jh h.hj);omega) (by omega)) ((h.hg.c y hy).1.PB.mono (by have:=(jh h.hj);omega) (by have:=(jh h.hj);omega)) o.nq.z (h.hg.c y hy).2.1.z (by omega) (by omega) (by omega) (by omega) (Kaw (Nat.add_le_add_right (Kaf _ l1) _) (by decide+kernel))
   rwa[tw o.nq (h.hg.c y hy).2.1]at this
  ·intro y hy z hz;obtain⟨c1,c2,c3,c4⟩:=o.LL h hy hz;obtain⟨_,_,_,m2⟩:=o.yg h hy hz;exact CL c1 c2 m2.z (by omega) (by omega) (by omega) (by omega) (by omega)
end
end Go.Proofs.YtdjoomkeehihmaaGreat
namespace Go.Proofs.YtdjoomkeehihmaaGreat
open Go Go.FW
theorem P0{l:List (List Tm×List (List Tm))}{v K E:Nat}(hv:v<64)(hp:∀x∈l,PB K E x.1/\x.1.length<=2^30)(hK:K<=2^33)(hE:E<=2^38)(hl:l.length<=100):
  Qc Tryz.prog 28 [.sl 2 (l.map PV.el),.int .i64 v] (· = .aw [.int .i64 (cH l v).1,.int .i64 (cH l v).2]):=by
 refine Qf Qj Tryz.func28 rfl ajY (by simp[Kx]) fun C hP=>?_;simp only[Kx,Zo,Zg,Zm,Zc,Zf,Zl,Zh,Zs,Zi,Zb,Zk,Zn,Zu,Zq,Zr,Zz];refine Sz0 ?_;refine Qz (by repeat (first|exact Qs|exact Ql|exact Qm|exact Qn|exact Qo|apply Qk|apply Qr|apply Qw|apply Q5|apply Q6|apply Qi|apply Q2)) [(6,11),(14,60)] [9] (fun m J hp=>∃i,m=l.length-i/\i<=l.length/\J 6= .int .i64 (iE l v i).1/\J 7= .int .i64 (iE l v i).2/\J 14= .int .i64 (i:Nat)) l.length ?_ ?_
 ·refine⟨0,rfl,by omega,?_⟩;refine Sz0 ?_
  try (first|rfl|exact⟨rfl,rfl⟩|exact⟨rfl,rfl,rfl⟩)
 rintro _ J h ⟨i,rfl,hi,j6,j7,fF⟩;obtain⟨s1,s2,s3⟩:=DT l v i;have cU:=Df l v i;generalize aG:iE l v i=st at *
 obtain⟨at_,n⟩:=st;simp only at s1 s2 s3 j6 j7;by_cases c1:i<l.length
 ·have d1:decide ((i:Int)<(l.length:Int))=true:=decide_eq_true (by omega);obtain⟨b1,b2⟩:=hp _ (Kag c1);have hm:=wV b1 (by omega:_<=2^36);have eB:l.getD i default=l[i]:=by simp[c1]
  unfold xH at cU;rw[eB]at cU;generalize hx:l[i]=x at *
  refine Sz3 fF d1 hx ?_;refine Qa hP hm rfl rfl rfl ?_;by_cases e1:Qv x.1=v
  ·have q1:decide (¬Qv x.1=(v:Int))=false:=decide_eq_false fun h=>h e1;have sW:(!decide (Qv x.1=(v:Int)))=false:=by simp[e1]
   rw[if_neg (by simpa using e1)]at cU;by_cases e2:at_<0
   ·have q2:decide (at_<0)=true:=decide_eq_true e2;simp only[e2,if_true]at cU;refine Sz8 j6 j7 fF d1 hx q1 sW q2 ?_;refine Qh (l.length-(i+1)) (by omega) ⟨i+1,rfl,by omega,?_⟩;rw[cU];refine Sz2 j6 j7 ?_
    try (first|rfl|trivial|exact⟨rfl,rfl⟩|exact⟨rfl,rfl,rfl⟩)
   ·have q2:decide (at_<0)=false:=decide_eq_false e2;simp only[e2,if_false]at cU;obtain⟨a,rfl⟩:∃a:Nat,at_=a:=⟨at_.toNat,by omega⟩
    have ha:a<l.length:=by omega
    obtain⟨b3,b4⟩:=hp _ (Kag ha);have Mw:l.getD ((a:Int)).toNat default=l[a]:=by simp[ha]
    rw[Mw]at cU;generalize hy:l[a]=y at *
    have fD:=uR (v:=(v:Int)) b1 (by omega:_<=2^36);have gl:=uR (v:=(v:Int)) b3 (by omega:_<=2^36);rw[mH]at fD gl;have hc:=Q8k b1 b3 hK hE (by omega) (by omega);unfold xZ at cU;generalize Q3 x.1 v=dx at *
    generalize Q3 y.1 v=dy at *
    generalize gT x.1 y.1=cv at *
    refine Sz9 j6 j7 fF d1 hx hy q1 sW q2 ?_;refine Qa hP fD rfl rfl rfl ?_;refine Sz0 ?_;refine Qa hP gl rfl rfl rfl ?_;by_cases e3:dx<dy
    ·have q3:decide (dx<dy)=true:=decide_eq_true e3;rw[q3]at cU;simp only[KcM,if_true]at cU;refine Sz7 j6 j7 fF d1 hx hy q3 ?_;refine Qh (l.length-(i+1)) (by omega) ⟨i+1,rfl,by omega,?_⟩;rw[cU];refine Sz2 j6 j7 ?_
     try (first|rfl|trivial|exact⟨rfl,rfl⟩|exact⟨rfl,rfl,rfl⟩)
    have q3:decide (dx<dy)=false:=decide_eq_false e3;rw[q3]at cU;simp only[Kcn]at cU;by_cases e4:dx=dy
    ·have q4:decide (dx=dy)=true:=decide_eq_true e4;rw[q4]at cU;simp only[KbU]at cU;refine Sz8 j6 j7 fF d1 hx hy q3 q4 ?_;refine Qa hP hc rfl rfl rfl ?_;by_cases e5:cv<0
     ·have q5:decide (cv<0)=true:=decide_eq_true e5;simp only[q5,if_true]at cU;refine Sz9 j6 j7 fF d1 hx hy q3 q4 q5 ?_;refine Qh (l.length-(i+1)) (by omega) ⟨i+1,rfl,by omega,?_⟩;rw[cU];refine Sz2 j6 j7 ?_
      try (first|rfl|trivial|exact⟨rfl,rfl⟩|exact⟨rfl,rfl,rfl⟩)
     ·have q5:decide (cv<0)=false:=decide_eq_false e5;simp only[q5,KaK,if_false]at cU;refine Sz9 j6 j7 fF d1 hx hy q3 q4 q5 ?_;refine Qh (l.length-(i+1)) (by omega) ⟨i+1,rfl,by omega,?_⟩;rw[cU];refine Sz2 j6 j7 ?_
      try (first|rfl|trivial|exact⟨rfl,rfl⟩|exact⟨rfl,rfl,rfl⟩)
    ·have q4:decide (dx=dy)=false:=decide_eq_false e4;simp only[q4,Kc6,KaK,if_false]at cU;refine Sz8 j6 j7 fF d1 hx hy q3 q4 ?_;refine Qh (l.length-(i+1)) (by omega) ⟨i+1,rfl,by omega,?_⟩;rw[cU];refine Sz2 j6 j7 ?_
     try (first|rfl|trivial|exact⟨rfl,rfl⟩|exact⟨rfl,rfl,rfl⟩)
  ·have q1:decide (¬Qv x.1=(v:Int))=true:=decide_eq_true e1;have sW:(!decide (Qv x.1=(v:Int)))=true:=by simp[e1]
   rw[if_pos (by simpa using e1)]at cU;refine Sz7 j6 j7 fF d1 hx q1 sW ?_;refine Qh (l.length-(i+1)) (by omega) ⟨i+1,rfl,by omega,?_⟩;rw[cU];refine Sz2 j6 j7 ?_
   try (first|rfl|trivial|exact⟨rfl,rfl⟩|exact⟨rfl,rfl,rfl⟩)
 ·obtain rfl:i=l.length:=by omega
  have d1:decide ((l.length:Int)<(l.length:Int))=false:=decide_eq_false (by omega);refine Sz4 j6 j7 fF d1 ?_;exact fl (by unfold cH;rw[aG]) rfl rfl (Qx _) (Qx _)
def aS(l:List aB)(v:Nat):Nat:=(cH l v).1.toNat
def dz(l:List aB)(v:Nat)(x:aB):aB:=(dW x (l.getD (aS l v) default)).1
def lP(l:List aB)(v i:Nat):Int:=if i=aS l v∨Qv (l.getD i default).1≠v then 0 else(dW (l.getD i default) (l.getD (aS l v) default)).2
def pH(p:Nat->Bool):Nat->Nat->Nat
 |0,i=>i
 |n+1,i=>if p i then i else pH p n (i+1)
theorem Gz(p:Nat->Bool):∀n i,i<=pH p n i/\pH p n i<=i+n/\(∀j,i<=j->j<pH p n i->p j=false)/\(pH p n i<i+n->p (pH p n i)=true)
 |0,i=>⟨Kac _,Kac _,fun j h1 h2=>absurd h2 (by simp[pH];omega),fun h=>absurd h (by simp[pH])⟩
 | n+1,i=>by
  rw[pH];cases h:p i
  ·obtain⟨h1,h2,h3,h4⟩:=Gz p n (i+1);simp only[KaK,if_false];refine⟨by omega,by omega,fun j hj1 v9=>?_,fun h=>h4 (by omega)⟩;by_cases e:j=i
   ·subst e;exact h
   ·exact h3 j (by omega) v9
  ·simp only[if_true];exact⟨Kac _,by omega,fun j h1 h2=>by omega,fun _=>h⟩
def dJ(l:List aB)(v:Nat):Nat:=pH (fun i=>decide (lP l v i≠0)) l.length 0
theorem rM(l:List aB)(v:Nat):dJ l v<=l.length/\(∀i,i<dJ l v->lP l v i=0)/\(dJ l v<l.length->lP l v (dJ l v)≠0):=by
 obtain⟨h1,h2,h3,h4⟩:=Gz (fun i=>decide (lP l v i≠0)) l.length 0;refine⟨by unfold dJ;omega,fun i hi=>?_,fun h=>?_⟩
 ·have:=h3 i (by omega) hi;simpa using this
 ·have:=h4 (by unfold dJ at h;omega);simpa[dJ]using this
def g8(l:List aB)(v:Nat):List aB:=eI l (aS l v) v (dz l v) l.length
structure ph(l:List aB):Prop where
 len:l.length<=100
 el:∀x∈l,PB 115300 2500 x.1/\au x.1/\x.1.length<=4000/\0<x.1.length
structure tT(v:Nat)(l:List aB):Prop where
 lb:ph l
 hv:v<64
 bz:aS l v<l.length
 LP:(cH l v).1=(aS l v:Nat)
 dv:∀i (h:i<l.length),i≠aS l v->Qv l[i].1=v->∃m j Tf Tg,eE m j Tf Tg v l[i] l[aS l v]
inductive eS(v:Nat):Nat->List aB->Except Int (List aB)->Prop
 |stop {l:List aB}:ph l->(cH l v).2<=1->eS v 0 l (.ok l)
 |fail {l:List aB}:tT v l->2<=(cH l v).2->dJ l v<l.length->eS v 0 l (.error (lP l v (dJ l v)))
 |step {l:List aB} {n:Nat} {o:Except Int (List aB)}:tT v l->2<=(cH l v).2->dJ l v=l.length->eS v n (g8 l v) o->eS v (n+1) l o
inductive Mk:Nat->List aB->Except Int (List aB)->Prop
 |done {l:List aB}:ph l->Mk 0 l (.ok l)
 |bad {v n:Nat} {l:List aB} {e:Int}:v<64->eS v n l (.error e)->Mk (v+1) l (.error e)
 |next {v n:Nat} {l l':List aB} {o:Except Int (List aB)}:v<64->eS v n l (.ok l')->Mk v l' o->Mk (v+1) l o
theorem eS.wE{v n:Nat}{l:List aB}{o:Except Int (List aB)}(h:eS v n l o):ph l:=by
 cases h with
 |stop h _=>exact h
 |fail h _ _=>exact h.lb
 |step h _ _ _=>exact h.lb
theorem Mk.wE{v:Nat}{l:List aB}{o:Except Int (List aB)}(h:Mk v l o):ph l:=by
 cases h with
 |done h=>exact h
 |bad _ h=>exact h.wE
 |next _ h _=>exact h.wE
theorem P1{l:List aB}(h:ph l){v:Nat}(hv:v<64):Qc Tryz.prog 34 [PV.cg l,.int .i64 v] (· = .aw [.int .i64 (cH l v).1,.int .i64 (cH l v).2]):=
 Yr (K:=115300) (E:=2500) hv (fun x hx=>⟨(h.el x hx).1,(h.el x hx).2.1,by have:=(h.el x hx).2.2.1;omega⟩) (by omega) (by omega) h.len
theorem Ge{l:List aB}(h:ph l){v:Nat}(hv:v<64):Qc Tryz.prog 28 [PV.cg l,.int .i64 v] (· = .aw [.int .i64 (cH l v).1,.int .i64 (cH l v).2]):=
 P0 (K:=115300) (E:=2500) hv (fun x hx=>⟨(h.el x hx).1,by have:=(h.el x hx).2.2.1;omega⟩) (by omega) (by omega) h.len
def gz(l:List aB)(v:Nat):Option aB:=if 0<=(cH l v).1 then some (l.getD (aS l v) default)else none
def nT(l:List aB):List aB:=(List.range 64).filterMap (gz l)
def tS:Except Int (List aB)->PV
 |.ok l=>.aw [PV.cg (nT l),.int .i64 0]
 |.error e=>.aw [PV.cg [],.int .i64 e]
theorem fA{l:List aB}{i:Nat}(h:i<l.length):l.getD i default=l[i]:=by simp[h]
theorem tT.err{v:Nat}{l:List aB}(_h:tT v l){i:Nat}(hi:i<l.length)(h1:i≠aS l v)(h2:Qv l[i].1=v):lP l v i=(dW l[i] (l.getD (aS l v) default)).2:=by unfold lP;rw[fA hi,if_neg (by simp[h1,h2])]
theorem Rw{v:Nat}{l:List aB}(h:tT v l):Qc Tryz.prog 29 [PV.cg l,.int .i64 (aS l v:Nat),.int .i64 v] (· =if dJ l v=l.length then .aw [PV.cg (g8 l v),.int .i64 0]else .aw [PV.cg [],.int .i64 (lP l v (dJ l v))]):=by
 obtain⟨b1,b2,b3⟩:=rM l v;have bz:=h.bz;refine OU (K:=115300) (E:=2500) (bad:=dJ l v) (er:=lP l v (dJ l v)) (R:=dz l v) h.lb.len h.bz (fun x hx=>⟨(h.lb.el x hx).1,by have:=(h.lb.el x hx).2.2.1;omega⟩) b1 (fun i hi gG h1 h2=>?_) (fun hb=>?_)
 ·obtain⟨m,j,Tf,Tg,hD⟩:=h.dv i hi h1 h2;have hs:=Rv hD;have he:=b2 i gG;rw[h.err hi h1 h2,fA h.bz]at he;rw[he]at hs;have bz:=h.bz;have hR:dz l v l[i]=(dW l[i] l[aS l v]).1:=by unfold dz;rw[fA h.bz]
  rw[hR];refine⟨hs,?_⟩;unfold dW at he⊢;cases hd:lU l[i].1 l[aS l v].1 with
  |none=>simp
  |some d=>obtain⟨q,r,n⟩:=d;have o:=hD.out hd;have:=(o.pri hD).x.2.2.1;show(dh r _).1.length<=_;omega
 ·have he:=b3 hb;have aO:¬(dJ l v=aS l v∨Qv (l.getD (dJ l v) default).1≠v):=fun hc=>he (by unfold lP;rw[if_pos hc]);rw[fA hb]at aO;simp only[not_or,Decidable.not_not]at aO;obtain⟨m,j,Tf,Tg,hD⟩:=h.dv _ hb aO.1 aO.2;refine⟨aO.1,aO.2,he,?_⟩;have hs:=Rv hD;have e2:=h.err hb aO.1 aO.2;rw[fA h.bz]at e2;rw[<-e2]at hs;unfold yT at hs
  rwa[if_neg he]at hs
def dB(v:Nat)(x:aB):Bool:=decide (Qv x.1=(v:Int))
def dG(v:Int)(x:aB):Bool:=decide (v<Qv x.1)
theorem DI(l:List aB)(v:Nat):∀i,i<=l.length->(iE l v i).2=(l.take i).countP (dB v)/\((iE l v i).2=0->(iE l v i).1= -1)/\
  (0<(iE l v i).2->∃a:Nat,(iE l v i).1=a/\a<i/\Qv (l.getD a default).1=v/\∀k,k<i->Qv (l.getD k default).1=v->Q3 (l.getD a default).1 v<=Q3 (l.getD k default).1 v)
 |0,_=>by simp[iE]
 | i +1,h=>by
  have hi:i<l.length:=by omega
  obtain⟨h1,h2,h3⟩:=DI l v i (by omega);have hc:(l.take (i+1)).countP (dB v)=(l.take i).countP (dB v)+if Qv (l.getD i default).1=v then 1 else 0:=by rw[Kah hi,KcH,List.countP_singleton,fA hi];simp[dB]
  rw[hc,Df];generalize iE l v i=st at *
  obtain⟨at_,n⟩:=st;simp only at h1 h2 h3;unfold xH;by_cases e:Qv (l.getD i default).1=v
  ·rw[if_neg (by simpa using e),if_pos e];have Bi:∀k,k<i+1->k<i∨k=i:=fun k hk=>by omega
   by_cases e2:at_<0
   ·simp only[e2,if_true];have l8:n=0:=by apply Decidable.byContradiction;intro hn;obtain⟨a,ha,_⟩:=h3 (by omega);omega
    refine⟨by omega,fun h=>by omega,fun _=>⟨i,rfl,by omega,e,fun k hk hm=>?_⟩⟩;rcases Bi k hk with hk|rfl
    ·exfalso;have:0<(l.take i).countP (dB v):=List.countP_pos_iff.2 ⟨l[k],List.mem_take_iff_getElem.2 ⟨k,by omega,rfl⟩,by rw[fA (by omega)]at hm;simp[dB,hm]⟩;omega
    ·exact KcI _
   ·have hn:0<n:=by apply Decidable.byContradiction;intro hn;have:=h2 (by omega);omega
    obtain⟨a,ha,a1,a2,a3⟩:=h3 hn;subst ha;simp only[e2,if_false,KbM];by_cases e3:xZ v (l.getD i default).1 (l.getD a default).1=true
    ·rw[if_pos e3];refine⟨by simp only;omega,fun h=>by simp only at h;omega,fun _=>⟨i,rfl,by omega,e,fun k hk hm=>?_⟩⟩;simp only[xZ,KbS,Kat,decide_eq_true_eq]at e3;rcases Bi k hk with hk|rfl
     ·have:=a3 k hk hm;omega
     ·exact KcI _
    ·rw[if_neg e3];refine⟨by simp only;omega,fun h=>by simp only at h;omega,fun _=>⟨a,rfl,by omega,a2,fun k hk hm=>?_⟩⟩;simp only[xZ,KbS,Kat,decide_eq_true_eq]at e3;rcases Bi k hk with hk|rfl
     ·exact a3 k hk hm
     ·omega
  ·rw[if_pos e,if_neg e];refine⟨by omega,h2,fun hn=>?_⟩;obtain⟨a,ha,a1,a2,a3⟩:=h3 hn;refine⟨a,ha,by omega,a2,fun k hk hm=>?_⟩;by_cases ek:k=i
   ·subst ek;exact absurd hm e
   ·exact a3 k (by omega) hm
theorem zB(l:List aB)(v:Nat):(cH l v).2=l.countP (dB v):=by
 have:=(DI l v l.length (Kac _)).1
 rwa[Kar]at this
theorem xm{l:List aB}{v:Nat}(h:1<=(cH l v).2):(cH l v).1=(aS l v:Nat)/\∃ha:aS l v<l.length,Qv l[aS l v].1=v/\∀x∈l,Qv x.1=v->Q3 l[aS l v].1 v<=Q3 x.1 v:=by
 obtain⟨a,ha,a1,a2,a3⟩:=(DI l v l.length (Kac _)).2.2 h;have e:aS l v=a:=by unfold aS cH;rw[ha];rfl
 rw[e];refine⟨ha,a1,by rwa[fA a1]at a2,fun x hx hm=>?_⟩;obtain⟨k,hk,rfl⟩:=Kbe hx;have:=a3 k hk (by rwa[fA hk])
 rwa[fA a1,fA hk]at this
theorem He{l:List aB}{v:Nat}(h:(cH l v).2=0):(cH l v).1= -1:=(DI l v l.length (Kac _)).2.1 h
theorem DX{l:List aB}{v:Nat}{y:aB}(h:y∈g8 l v)(hb:dJ l v=l.length)(bz:aS l v<l.length):(y∈l/\(Qv y.1≠v∨y=l[aS l v]))∨∃i,∃hi:i<l.length,i≠aS l v/\Qv l[i].1=v/\y=(dW l[i] l[aS l v]).1/\(dW l[i] l[aS l v]).2=0/\0<y.1.length:=by
 unfold g8 eI at h;obtain⟨i,hi,hy⟩:=Kaq.1 h;have hi:i<l.length:=Kch.1 hi;have he:=(rM l v).2.1 i (by omega);unfold mI at hy;unfold lP at he;unfold dz at hy;rw[fA hi]at hy he;rw[fA bz]at hy he;split at hy
 ·rename_i hc;rw[KaO]at hy;subst hy;refine .inl ⟨Kag _,?_⟩;rcases hc with rfl|hc
  ·exact .inr rfl
  ·exact .inl hc
 ·rename_i hc;rw[if_neg hc]at he;simp only[not_or,Decidable.not_not]at hc;split at hy
  ·rename_i hl;rw[KaO]at hy;subst hy;exact .inr ⟨i,hi,hc.1,hc.2,rfl,he,hl⟩
  ·cases hy
theorem aht(l:List aB)(v:Nat):(g8 l v).length<=l.length:=Ds _ _ _ _ _
theorem Hh(l:List aB)(at_ v:Nat)(R:aB->aB)(i:Nat):eI l at_ v R (i+1)=eI l at_ v R i++mI l at_ v R i:=by unfold eI;rw[Kb0,Kb4];simp
theorem zn{l:List aB}{v i:Nat}(hi:i<l.length)(h:i=aS l v∨Qv l[i].1≠v):mI l (aS l v) v (dz l v) i=[l[i]]:=by unfold mI;rw[fA hi,if_pos h]
theorem TM{l:List aB}{v i:Nat}(hi:i<l.length)(h1:i≠aS l v)(h2:Qv l[i].1=v):mI l (aS l v) v (dz l v) i=if 0<(dz l v l[i]).1.length then [dz l v l[i]]else []:=by unfold mI;rw[fA hi,if_neg (by simp[h1,h2])]
theorem akj{l:List aB}{v:Nat}(bz:aS l v<l.length)(hm:Qv l[aS l v].1=v):l.countP (dG v)+1<=(g8 l v).countP (dG ((v:Int)-1))/\l.countP (dG v)<=(g8 l v).countP (dG v):=by
 have key:∀i,i<=l.length->(l.take i).countP (dG v)+(if aS l v<i then 1 else 0)<=(eI l (aS l v) v (dz l v) i).countP (dG ((v:Int)-1))/\(l.take i).countP (dG v)<=(eI l (aS l v) v (dz l v) i).countP (dG v):=by
  intro i;induction i with
  |zero=>intro _;simp
  | succ i ih=>
   intro hi;have dp:i<l.length:=by omega
   obtain⟨M8,Fy⟩:=ih (by omega);have hx:∀(q:aB->Bool)(x:aB),[x].countP q=if q x=true then 1 else 0:=fun q x=>List.countP_singleton
   rw[Kah dp,Hh,KcH,KcH,KcH,hx];by_cases e1:i=aS l v
   ·have e2:Qv l[i].1=v:=by subst e1;exact hm
    rw[zn dp (.inl e1),hx,hx];have g1:dG v l[i]=false:=by unfold dG;exact decide_eq_false (by omega)
    have g2:dG ((v:Int)-1) l[i]=true:=by unfold dG;exact decide_eq_true (by omega)
    rw[g1,g2];rw[if_neg (by omega)]at M8;have e3:(if aS l v<i+1 then 1 else 0)=1:=if_pos (by omega);rw[e3];simp only[KaK,if_false,if_true];omega
   ·have ar:(if aS l v<i+1 then 1 else 0)=(if aS l v<i then 1 else 0):=by
     by_cases h:aS l v<i
     ·rw[if_pos h,if_pos (by omega)]
     ·rw[if_neg h,if_neg (by omega)]
    rw[ar];by_cases e2:Qv l[i].1=v
    ·have g1:dG v l[i]=false:=by unfold dG;exact decide_eq_false (by omega)
     rw[g1];simp only[KaK,if_false];omega
    ·rw[zn dp (.inr e2),hx,hx];have g:dG v l[i]=dG ((v:Int)-1) l[i]:=by simp only[dG,decide_eq_decide];omega
     rw[<-g];omega
 have:=key l.length (Kac _);rw[Kar,if_pos bz]at this;exact this
theorem ahu{l:List aB}{v:Nat}(h:∀i (hi:i<l.length),i≠aS l v->Qv l[i].1=v->Qv (dz l v l[i]).1≠v):(g8 l v).countP (dB v)<=1:=by
 have key:∀i,i<=l.length->(eI l (aS l v) v (dz l v) i).countP (dB v)<=if aS l v<i then 1 else 0:=by
  intro i;induction i with
  |zero=>intro _;simp[eI]
  | succ i ih=>
   intro hi;have dp:i<l.length:=by omega
   have ih:=ih (by omega);have hx:∀(q:aB->Bool)(x:aB),[x].countP q=if q x=true then 1 else 0:=fun q x=>List.countP_singleton
   rw[Hh,KcH];by_cases e1:i=aS l v
   ·have e3:(if aS l v<i+1 then 1 else 0)=1:=if_pos (by omega);rw[zn dp (.inl e1),hx,e3];rw[if_neg (by omega)]at ih;split<;>omega
   ·have ar:(if aS l v<i+1 then 1 else 0)=(if aS l v<i then 1 else 0):=by
     by_cases h:aS l v<i
     ·rw[if_pos h,if_pos (by omega)]
     ·rw[if_neg h,if_neg (by omega)]
    rw[ar];by_cases e2:Qv l[i].1=v
    ·have:=h i dp e1 e2;rw[TM dp e1 e2];have g:dB v (dz l v l[i])=false:=by unfold dB;exact decide_eq_false this
     split
     ·rw[hx,g];simpa using ih
     ·simpa using ih
    ·have g:dB v l[i]=false:=by unfold dB;exact decide_eq_false e2
     rw[zn dp (.inr e2),hx,g];simpa using ih
 have:=key l.length (Kac _);unfold g8;split at this<;>omega
theorem Ir{l:List aB}{v i:Nat}(hi:i<l.length)(h1:i≠aS l v)(h2:Qv l[i].1=v)(h3:0<(dz l v l[i]).1.length):dz l v l[i]∈g8 l v:=by unfold g8 eI;refine Kaq.2 ⟨i,Kch.2 hi,?_⟩;unfold mI;rw[fA hi,if_neg (by simp[h1,h2]),if_pos h3];simp
theorem Q9d{l:List aB}{v u:Nat}(huv:v<u)(h:∀i (hi:i<l.length),i≠aS l v->Qv l[i].1=v->Qv (dz l v l[i]).1<=v)(hm:∀bz:aS l v<l.length,Qv l[aS l v].1=v):(g8 l v).filter (dB u)=l.filter (dB u):=by
 have key:∀i,i<=l.length->(eI l (aS l v) v (dz l v) i).filter (dB u)=(l.take i).filter (dB u):=by
  intro i;induction i with
  |zero=>intro _;simp[eI]
  | succ i ih=>
   intro hi;have dp:i<l.length:=by omega
   rw[Hh,List.filter_append,ih (by omega),Kah dp,List.filter_append];congr 1;by_cases hc:i=aS l v∨Qv l[i].1≠v
   ·rw[zn dp hc]
   ·simp only[not_or,Decidable.not_not]at hc;rw[TM dp hc.1 hc.2];have g:dB u l[i]=false:=by simp[dB,hc.2];omega
    have:=h i dp hc.1 hc.2;have g2:dB u (dz l v l[i])=false:=by simp[dB];omega
    split
    ·simp[g,g2]
    ·simp[g]
 have:=key l.length (Kac _)
 rwa[Kar]at this
theorem Q9e{p:List Tm}(c:FW.Can p)(a:Rat)(v:Nat){d:Int}(hd:0<=d)(h:p=[]∨Q3 p v<d):Q3 (b8 p a) v<d:=by
 refine Pa (fun t ht=>?_) hd;unfold b8 at ht;split at ht
 ·cases ht
 ·obtain⟨s,hs,e⟩:=zo ht;rw[e,tu (c s hs)];rcases h with rfl|h
  ·cases hs
  ·have:=(rJ p v).2.1 s hs;omega
theorem H4{p:List Tm}{v:Nat}(h:ML (v+1) p):Qv p<=v:=by
 rcases(xa p).2.2 with e|⟨t,ht,e⟩
 ·omega
 ·have:=h t ht;omega
theorem eE.new{m j Tf Tg v:Nat}{f g:aB}(h:eE m j Tf Tg v f g)(he:(dW f g).2=0){T:Nat}(hT:∀n:Nat,(n:Int)<=Q3 f.1 v-Q3 g.1 v+1->n<=nL j->(Tf:Int)+n*((Tg:Int)-Q3 g.1 v)<=T):
  Lv m (j+1) T (dW f g).1/\((dW f g).1.1=[]∨0<=Qv (dW f g).1.1)/\Qv (dW f g).1.1<=v/\Q3 (dW f g).1.1 v<Q3 g.1 v:=by
 obtain⟨_,_,_,_,n5,_⟩:=h.num;unfold dW at he⊢;cases hd:lU f.1 g.1 with
 |none=>rw[hd]at he;cases he
 | some d=>
  obtain⟨q,r,n⟩:=d;have o:=h.out hd;rw[hd]at he;simp only at he⊢;obtain⟨k1,k2⟩:=h.next o (hT n o.nn.1 o.nn.2) he;refine⟨k1,?_,H4 (o.mv.wL o.nr.c _),Q9e o.nr.c _ v (by omega) o.dr⟩;rcases k2 with rfl|k2
  ·left;show b8 [] (eP [])=[]
   exact xc _
  ·exact .inr k2
structure oQ(m:Nat)(x:aB):Prop where
 lv:Lv m 6 2500 x
 pos:0<=Qv x.1
theorem xI{m:Nat}{l:List aB}(hl:l.length<=3)(h:∀x∈l,oQ m x):ph l:=by refine⟨by omega,fun x hx=>?_⟩;have hf:=h x hx;have h6:=FM;exact⟨hf.lv.pb.mono (by omega) (Kac _),hf.lv.n,hf.lv.len,Kbf.2 (rO hf.pos)⟩
theorem Lv.fin{m j T:Nat}{x:aB}(h:Lv m j T x)(hj:j<=6)(hT:T<=2500)(hp:0<=Qv x.1):oQ m x:=⟨(h.to hj).deg hT,hp⟩
theorem Lv.Na{m j T:Nat}{x:aB}(h:Lv m j T x):Qv x.1<=2:=by have:=H4 (p:=x.1) (v:=2) h.v;omega
structure oR(m:Nat)(v:Int)(j T:Nat)(l:List aB):Prop where
 len:l.length<=3
 fin:∀x∈l,oQ m x
 act:∀x∈l,Qv x.1<=v->Lv m j T x
theorem H5{m v j T T':Nat}{l:List aB}(hm:m<=3)(h:oR m v j T l)(hj:j<=5)(hT:T<=tL j)(hTT:T<=T')(hT':T'<=2500)(oZ:v=2->j<=1)(hc:2<=(cH l v).2)(hd:∀x∈l,Qv x.1=v->Q3 x.1 v<=nL j)
  (hTn:∀(n:Nat)(df dg:Int),df<=nL j->dg<=df->1<=dg->(∀x∈l,Qv x.1=v->dg<=Q3 x.1 v)->(∃x∈l,Qv x.1=v/\Q3 x.1 v=dg)->(n:Int)<=df-dg+1->n<=nL j->(T:Int)+n*((T:Int)-dg)<=T'):
  tT v l/\(dJ l v=l.length->oR m v (j+1) T' (g8 l v)/\l.countP (dG v)+1<=(g8 l v).countP (dG ((v:Int)-1))/\l.countP (dG v)<=(g8 l v).countP (dG v)/\
   (∀i (hi:i<l.length),i≠aS l v->Qv l[i].1=v->0<(dz l v l[i]).1.length->∀x∈l,Qv x.1=v->Q3 (dz l v l[i]).1 v<Q3 x.1 v)/\
   (∀y∈g8 l v,Qv y.1=v->y∈l∨∀x∈l,Qv x.1=v->Q3 y.1 v<Q3 x.1 v)):=by
 obtain⟨e1,bz,a2,a3⟩:=xm (l:=l) (v:=v) (by omega);have sN:v<=2:=by have:=(h.act _ (Kag bz) (by omega)).Na;omega
 have hD:∀i (hi:i<l.length),i≠aS l v->Qv l[i].1=v->eE m j T T v l[i] l[aS l v]:=fun i hi h1 h2=>
  ⟨hj,h.act _ (Kag hi) (by omega),h.act _ (Kag bz) (by omega),hT,hT,h2,a2,sN,oZ,hd _ (Kag hi) h2,a3 _ (Kag hi) h2,hm⟩
 have hG:tT v l:=⟨xI h.len h.fin,by omega,bz,e1,fun i hi h1 h2=>⟨m,j,T,T,hD i hi h1 h2⟩⟩
 refine⟨hG,fun hb=>?_⟩;obtain⟨c1,c2⟩:=akj bz a2;have hRe:∀i (hi:i<l.length),dz l v l[i]=(dW l[i] l[aS l v]).1:=fun i hi=>by unfold dz;rw[fA bz]
 have sC:∀i (hi:i<l.length),i≠aS l v->Qv l[i].1=v->(dW l[i] l[aS l v]).2=0:=fun i hi h1 h2=>by have:=hG.err hi h1 h2;rw[fA bz]at this;rw[<-this];exact(rM l v).2.1 i (by omega)
 have hN:∀i (hi:i<l.length) (h1:i≠aS l v) (h2:Qv l[i].1=v),_:=fun i hi h1 h2=>(hD i hi h1 h2).new (sC i hi h1 h2) (T:=T') fun n n1 n2=>hTn n _ _ (hd _ (Kag hi) h2) (a3 _ (Kag hi) h2) (Dg (h.act _ (Kag bz) (by omega)).pb a2) a3 ⟨_,Kag bz,a2,rfl⟩ n1 n2;refine⟨⟨Kaw (aht _ _) h.len,fun y hy=>?_,fun y hy sP=>?_⟩,c1,c2,fun i hi h1 h2 _ x hx fj=>?_,fun y hy BF=>?_⟩
 ·rcases DX hy hb bz with⟨gX,_⟩|⟨i,hi,h1,h2,rfl,h4,h5⟩
  ·exact h.fin y gX
  ·obtain⟨k1,k2,_⟩:=hN i hi h1 h2;exact k1.fin (by omega) hT' (k2.resolve_left fun e=>by rw[e]at h5;simp at h5)
 ·rcases DX hy hb bz with⟨gX,_⟩|⟨i,hi,h1,h2,rfl,h4,h5⟩
  ·exact(h.act y gX sP).up.deg hTT
  ·exact(hN i hi h1 h2).1
 ·rw[hRe i hi];have:=(hN i hi h1 h2).2.2.2;have:=a3 x hx fj;omega
 ·rcases DX hy hb bz with⟨gX,_⟩|⟨i,hi,h1,h2,rfl,h4,h5⟩
  ·exact .inl gX
  ·right;intro x hx fj;have:=(hN i hi h1 h2).2.2.2;have:=a3 x hx fj;omega
structure IQ(m:Nat)(v:Int)(l:List aB):Prop where
 s:oR m v 2 4 l
 v1:v<=1
 c:1<=l.countP (dG v)
structure UF(m:Nat)(v:Int)(l:List aB):Prop where
 len:l.length<=3
 fin:∀x∈l,oQ m x
 c:2<=l.countP (dG v)
theorem NU(v:Nat):∀l:List aB,l.countP (dG ((v:Int)-1))=l.countP (dG v)+l.countP (dB v)
 | []=>rfl
 | x::l=>by
  have ih:=NU v l;rw[List.countP_cons,List.countP_cons,List.countP_cons,ih];by_cases h1:(v:Int)<Qv x.1
  ·have g1:dG ((v:Int)-1) x=true:=by unfold dG;exact decide_eq_true (by omega)
   have g2:dG v x=true:=by unfold dG;exact decide_eq_true h1
   have g3:dB v x=false:=by unfold dB;exact decide_eq_false (by omega)
   rw[g1,g2,g3];simp;omega
  ·have g2:dG v x=false:=by unfold dG;exact decide_eq_false h1
   by_cases h2:Qv x.1=v
   ·have g1:dG ((v:Int)-1) x=true:=by unfold dG;exact decide_eq_true (by omega)
    have g3:dB v x=true:=by unfold dB;exact decide_eq_true h2
    rw[g1,g2,g3];simp;omega
   ·have g1:dG ((v:Int)-1) x=false:=by unfold dG;exact decide_eq_false (by omega)
    have g3:dB v x=false:=by unfold dB;exact decide_eq_false h2
    rw[g1,g2,g3];simp
theorem oR.down{m j T j' T':Nat}{v v':Int}{l:List aB}(h:oR m v j T l)(hv:v'<=v)(hj:j<=j')(hT:T<=T'):oR m v' j' T' l:=⟨h.len,h.fin,fun x hx hm=>((h.act x hx (by omega)).to hj).deg hT⟩
theorem oR.pd{m j T v:Nat}{l:List aB}(h:oR m v j T l){x:aB}(hx:x∈l)(hm:Qv x.1=v):1<=Q3 x.1 v/\Q3 x.1 v<=T:=by have hL:=h.act x hx (by omega);exact⟨Dg hL.pb hm,(oG hL.pb (rO (by omega)) v).2⟩
theorem Rh{l:List aB}{v:Nat}(h:1<=(cH l v).2):∃x∈l,Qv x.1=v:=by obtain⟨_,bz,h2,_⟩:=xm h;exact⟨_,Kag bz,h2⟩
theorem FX{l:List aB}{v:Nat}(h:2<=(cH (g8 l v) v).2):∃i,∃hi:i<l.length,i≠aS l v/\Qv l[i].1=v/\Qv (dz l v l[i]).1=v:=by apply Decidable.byContradiction;intro hc;have:=ahu (l:=l) (v:=v) fun i hi h1 h2 h3=>hc ⟨i,hi,h1,h2,h3⟩;rw[<-zB]at this;omega
theorem OE{m v j:Nat}{l:List aB}(hm:m<=3)(hj:j<=1)(h:oR m v j 2 l)(hc:2<=(cH l v).2)(hx:∃x∈l,Qv x.1=v/\Q3 x.1 v<=1):∃n o,eS v n l o/\∀l',o= .ok l'->IQ m ((v:Int)-1) l':=by
 obtain⟨l1,l2⟩:=NF hj;obtain⟨x0,bw,jY,jI⟩:=hx;have sN:=(h.act x0 bw (by omega)).Na;obtain⟨hG,hR⟩:=H5 (T':=4) hm h (by omega) (by omega) (by omega) (by omega) (fun _=>hj) hc (fun x hx fj=>by have:=(h.pd hx fj).2;omega) (fun n df dg h1 h2 h3 h4 h5 h6 h7=>by
  have ET:=h4 x0 bw jY;have:dg=1:=by omega
  subst this;have:(n:Int)*(((2:Nat):Int)-1)=n:=by omega
  omega)
 by_cases hb:dJ l v=l.length
 ·obtain⟨r1,r2,r3,r4,r5⟩:=hR hb;have jJ:(cH (g8 l v) v).2<=1:=by apply Decidable.byContradiction;intro EW;obtain⟨i,hi,h1,h2,h3⟩:=FX (l:=l) (v:=v) (by omega);have gW:0<(dz l v l[i]).1.length:=Kbf.2 (rO (by omega));have eC:=Ir hi h1 h2 gW;have:=(r1.pd eC h3).1;have:=r4 i hi h1 h2 gW x0 bw jY;omega
  refine⟨1,.ok (g8 l v),eS.step hG hc hb (eS.stop (xI r1.len r1.fin) jJ),fun l' he=>?_⟩;cases he;exact⟨r1.down (by omega) (by omega) (by omega),by omega,by omega⟩
 ·have:=(rM l v).1;exact⟨0,_,eS.fail hG hc (by omega),fun l' he=>by cases he⟩
theorem ahv{m v:Nat}{l:List aB}(hm:m<=3)(h:oR m v 0 2 l)(hc:2<=(cH l v).2):∃n o,eS v n l o/\∀l',o= .ok l'->IQ m ((v:Int)-1) l':=by
 by_cases hx:∃x∈l,Qv x.1=v/\Q3 x.1 v<=1
 ·exact OE hm (by omega) h hc hx
 ·have fX:∀x∈l,Qv x.1=v->2<=Q3 x.1 v:=fun x eo fj=>by apply Decidable.byContradiction;intro ar;exact hx ⟨x,eo,fj,by omega⟩
  obtain⟨x0,bw,jY⟩:=Rh (l:=l) (v:=v) (by omega);have jI:=(h.pd bw jY).2;have sN:=(h.act x0 bw (by omega)).Na;obtain⟨hG,hR⟩:=H5 (T':=2) hm h (by omega) (by decide) (by omega) (by omega) (fun _=>by omega) hc (fun x hx fj=>by have:=(h.pd hx fj).2;have:nL 0=2:=rfl;omega) (fun n df dg h1 h2 h3 h4 h5 h6 h7=>by
   obtain⟨y,hy,BF,WM⟩:=h5;have:=fX y hy BF;have h8:nL 0=2:=rfl;have:dg=2:=by omega
   subst this;have:(n:Int)*(((2:Nat):Int)-2)=0:=by omega
   omega)
  by_cases hb:dJ l v=l.length
  ·obtain⟨r1,r2,r3,r4,r5⟩:=hR hb;by_cases jJ:(cH (g8 l v) v).2<=1
   ·refine⟨1,.ok (g8 l v),eS.step hG hc hb (eS.stop (xI r1.len r1.fin) jJ),fun l' he=>?_⟩;cases he;exact⟨r1.down (by omega) (by omega) (by omega),by omega,by omega⟩
   ·obtain⟨i,hi,h1,h2,h3⟩:=FX (l:=l) (v:=v) (by omega);have gW:0<(dz l v l[i]).1.length:=Kbf.2 (rO (by omega));have:=r4 i hi h1 h2 gW x0 bw jY;obtain⟨n,o,hS,ho⟩:=OE (j:=1) hm (by omega) r1 (by omega) ⟨_,Ir hi h1 h2 gW,h3,by omega⟩;exact⟨n+1,o,eS.step hG hc hb hS,ho⟩
  ·have:=(rM l v).1;exact⟨0,_,eS.fail hG hc (by omega),fun l' he=>by cases he⟩
theorem ahw{j:Nat}(h:2<=j):tL (j+1)=tL j+nL j*tL j/\nL j=4:=by rw[tL,if_neg (by omega)];exact⟨rfl,by unfold nL;rw[if_neg (by omega)]⟩
theorem P2{m v:Nat}(hm:m<=3):∀(k j:Nat)(l:List aB),j+k=6->2<=j->oR m v j (tL j) l->v<=1->1<=l.countP (dG v)->2<=l.countP (dG ((v:Int)-1))->(∀x∈l,Qv x.1=v->Q3 x.1 v<=4)->
  (2<=(cH l v).2->∃x∈l,Qv x.1=v/\Q3 x.1 v<=k)->∃n o,eS v n l o/\∀l',o= .ok l'->UF m ((v:Int)-1) l'
 | k, j,l,hk,hj,h,hv,hg,fN,hd,hx=>by
  by_cases jJ:(cH l v).2<=1
  ·refine⟨0,.ok l,eS.stop (xI h.len h.fin) jJ,fun l' he=>?_⟩;cases he;exact⟨h.len,h.fin,fN⟩
  ·obtain⟨x0,bw,jY,jI⟩:=hx (by omega);have aF:=(h.pd bw jY).1;obtain⟨k,rfl⟩:∃k',k=k'+1:=⟨k-1,by omega⟩
   have VI:j<=5:=by omega
   obtain⟨t1,t2⟩:=ahw hj;have hn:=jh VI;obtain⟨hG,hR⟩:=H5 (T':=tL (j+1)) hm h VI (Kac _) (by omega) (by rw[t1];omega) (fun e=>by omega) (by omega) (fun x hx fj=>by have:=hd x hx fj;omega) (fun n df dg h1 h2 h3 h4 h5 h6 h7=>by
    rw[t1,t2];have a1:(n:Int)*((tL j:Int)-dg)<=4*(tL j:Int):=by
     by_cases hs:0<=(tL j:Int)-dg
     ·exact Int.le_trans (Int.mul_le_mul_of_nonneg_right (by omega:(n:Int)<=4) hs) (Int.mul_le_mul_of_nonneg_left (by omega) (by omega))
     ·have b1:(n:Int)*((tL j:Int)-dg)<=n*0:=Int.mul_le_mul_of_nonneg_left (by omega) (by omega);omega
    omega)
   by_cases hb:dJ l v=l.length
   ·obtain⟨r1,r2,r3,r4,r5⟩:=hR hb;obtain⟨n,o,hS,ho⟩:=P2 hm k (j+1) (g8 l v) (by omega) (by omega) r1 hv (by omega) (by omega) (fun y hy BF=>by
     rcases r5 y hy BF with hy|hy
     ·exact hd y hy BF
     ·have:=hy x0 bw jY;have:=hd x0 bw jY;omega) (fun h2=>by
     obtain⟨i,hi,h1,h2,h3⟩:=FX (l:=l) (v:=v) h2;have gW:0<(dz l v l[i]).1.length:=Kbf.2 (rO (by omega));have:=r4 i hi h1 h2 gW x0 bw jY;exact⟨_,Ir hi h1 h2 gW,h3,by omega⟩)
    exact⟨n+1,o,eS.step hG (by omega) hb hS,ho⟩
   ·have:=(rM l v).1;exact⟨0,_,eS.fail hG (by omega) (by omega),fun l' he=>by cases he⟩
def yb(m:Nat)(v:Int)(l:List aB):Prop:=oR m v 0 2 l∨IQ m v l∨UF m v l
theorem yb.len{m:Nat}{v:Int}{l:List aB}(h:yb m v l):l.length<=3/\∀x∈l,oQ m x:=by
 rcases h with h|h|h
 ·exact⟨h.len,h.fin⟩
 ·exact⟨h.s.len,h.s.fin⟩
 ·exact⟨h.len,h.fin⟩
theorem ak0{m v:Nat}{l:List aB}(hm:m<=3)(h:yb m v l):∃n o,eS v n l o/\∀l',o= .ok l'->yb m ((v:Int)-1) l':=by
 have hs:=NU v l;rw[<-zB]at hs;obtain⟨hl,hf⟩:=h.len;by_cases jJ:(cH l v).2<=1
 ·refine⟨0,.ok l,eS.stop (xI hl hf) jJ,fun l' he=>?_⟩;cases he;rcases h with h|h|h
  ·exact .inl (h.down (by omega) (Kac _) (Kac _))
  ·exact .inr (.inl ⟨h.s.down (by omega) (Kac _) (Kac _),by have:=h.v1;omega,by have:=h.c;omega⟩)
  ·exact .inr (.inr ⟨hl,hf,by have:=h.c;omega⟩)
 ·rcases h with h|h|h
  ·obtain⟨n,o,h1,h2⟩:=ahv hm h (by omega);exact⟨n,o,h1,fun l' he=>.inr (.inl (h2 l' he))⟩
  ·have hv:=h.v1;have hc:=h.c;obtain⟨n,o,h1,h2⟩:=P2 (m:=m) (v:=v) hm 4 2 l (by omega) (by omega) h.s (by omega) hc (by omega) (fun x hx fj=>(h.s.pd hx fj).2) (fun h2=>by obtain⟨x,hx,fj⟩:=Rh (l:=l) (v:=v) (by omega);exact⟨x,hx,fj,(h.s.pd hx fj).2⟩);exact⟨n,o,h1,fun l' he=>.inr (.inr (h2 l' he))⟩
  ·have:=h.c;have:=List.countP_le_length (p:=dG ((v:Int)-1)) (l:=l);omega
theorem Rx{m:Nat}(hm:m<=3):∀(v:Nat)(l:List aB),v<=64->yb m ((v:Int)-1) l->∃o,Mk v l o/\∀l',o= .ok l'->l'.length<=3/\∀x∈l',oQ m x
 |0,l,_,h=>⟨.ok l,Mk.done (xI h.len.1 h.len.2),fun l' he=>by cases he;exact h.len⟩
 | v+1,l,hv,h=>by
  have e:((v+1:Nat):Int)-1=(v:Nat):=by omega
  rw[e]at h;obtain⟨n,o,h1,h2⟩:=ak0 hm h;cases o with
  |error er=>exact⟨.error er,Mk.bad (by omega) h1,fun l' he=>by cases he⟩
  |ok l1=>obtain⟨o,h3,h4⟩:=Rx hm v l1 (by omega) (h2 l1 rfl);exact⟨o,Mk.next (by omega) h1 h3,h4⟩
def c9:aA:=⟨125,[.t 2,.t 3],Zr (Zo (.mv 2 (.c .aa))<|Zc 3 0 .nil)<|Zr (Zo (.mv 4 (.c .aa)) .nil)<| .seq (Zr (Zc 5 0 .nil)<| .block 0<| .loop<| .seq (Zr (Zm 20 5<|Zm 21 0<|Zn 22 21<|Zb 23 .lss 20 22 .nil)<| .cond (.t 23) .skip (.exit 0))<| .seq (.block 1<|Zr (Zm 26 0<|Zm 27 5<|Zi 28 1 26 27<|Zl 29 1 28<|Zm 30 0<|Zn 31 30<|Zm 32 5<| .br (Zq 33 true 32 [.c (Zz 1)]<| .br (Zq 34 true 31 [.t 31,.t 32,.t 33]<|Zo (.bU 35 [.aa,.aa] [(0,1,.t 29),(1,1,.t 34)])<| .br (Zq 36 true 30 [.t 35]<|Zo (.alloc 6 2 34 (.agg [.aa,.aa]))<|Zs 2 6 36 .nil) (Zo (.alloc 6 2 34 (.agg [.aa,.aa]))<|Zq 36 true 30 [.t 35]<|Zs 2 6 36 .nil)) (Zo (.alloc 6 2 34 (.agg [.aa,.aa]))<|Zq 34 true 31 [.t 31,.t 32,.t 33]<|Zo (.bU 35 [.aa,.aa] [(0,1,.t 29),(1,1,.t 34)])<|Zq 36 true 30 [.t 35]<|Zs 2 6 36 .nil)) (Zo (.alloc 6 2 34 (.agg [.aa,.aa]))<|Zq 33 true 32 [.c (Zz 1)]<|Zq 34 true 31 [.t 31,.t 32,.t 33]<|Zo (.bU 35 [.aa,.aa] [(0,1,.t 29),(1,1,.t 34)])<|Zq 36 true 30 [.t 35]<|Zs 2 6 36 .nil))<| .seq (Zr (Zh 37 2 6<|Zq 38 false 33 [.t 37]<|Zm 7 38 .nil)<|Zr (Zm 39 7<|Zk 40 .neq 39 0 .nil)<| .cond (.t 40) (Zr (Zm 41 7<|Zo (.mv 2 (.c .aa))<|Zm 3 41 .nil) .ret) .skip)<|Zr (Zf 42 0 6<|Zl 43 1 42<|Zn 44 43<|Zk 45 .gtr 44 0 .nil)<| .cond (.t 45) (.rg (Zm 46 4<|Zh 47 2 6<|Zo (.bs 48 2 34 [.t 47])<|Zo (.app 49 2 48 34 (.t 46) (.t 48))<|Zm 4 49 .nil)) .skip)<| .rg (Zm 24 5<|Zk 25 .add 24 1<|Zm 5 25 .nil))<| .seq (Zr (Zc 8 63 .nil)<| .block 2<| .loop<| .seq (Zr (Zm 50 8<|Zk 51 .geq 50 0 .nil)<| .cond (.t 51) .skip (.exit 2))<| .seq (.block 3<| .block 4<| .loop<| .block 5<|Zr (Zm 55 4<|Zm 56 8<|Zq 57 false 34 [.t 55,.t 56]<|Zm 54 57<|Zo (.ext 58 (.t 54) 0)<|Zo (.ext 59 (.t 54) 1)<|Zm 9 58<|Zm 10 59 .nil)<| .seq (Zr (Zm 60 10<|Zk 61 .leq 60 1 .nil)<| .cond (.t 61) (.exit 4) .skip)<|Zr (Zo (.mv 11 (.c .aa)) .nil)<| .seq (Zr (Zc 12 0 .nil)<| .block 6<| .loop<| .seq (Zr (Zm 62 12<|Zm 63 4<|Zn 64 63<|Zb 65 .lss 62 64 .nil)<| .cond (.t 65) .skip (.exit 6))<| .seq (.block 7<|Zr (Zm 68 4<|Zm 69 12<|Zi 70 2 68 69<|Zh 71 2 70<|Zo (.alloc 13 2 34 (.agg [.aa,.aa]))<|Zs 2 13 71 .nil)<| .seq (Zr (Zm 72 12<|Zm 73 9<|Zb 74 .neq 72 73<|Zm 75 74<|Zg 75 true (.cE 76 0 (.t 13))<|Zg 75 true (.ld 77 1 false (.t 76))<|Zg 75 true (.call (some 78) false (.c (.fn 35 [] [])) [.t 77])<|Zg 75 true (.mv 79 (.t 8))<|Zg 75 true (.bin 80 .eql false (.t 78) (.t 79))<|Zo (.pick 81 (.t 75) (.t 80) (.c (.bool false))) .nil)<| .cond (.t 81) (Zr (Zh 83 2 13<|Zm 84 4<|Zm 85 9<|Zi 86 2 84 85<|Zh 87 2 86<|Zm 88 8<| .br (Zq 89 true 36 [.t 83,.t 87,.t 88]<|Zm 82 89<|Zo (.ext 90 (.t 82) 0)<|Zo (.ext 91 (.t 82) 1)<|Zo (.alloc 14 2 34 (.agg [.aa,.aa]))<|Zs 2 14 90<|Zm 15 91 .nil) (Zo (.alloc 14 2 34 (.agg [.aa,.aa]))<|Zq 89 true 36 [.t 83,.t 87,.t 88]<|Zm 82 89<|Zo (.ext 90 (.t 82) 0)<|Zo (.ext 91 (.t 82) 1)<|Zs 2 14 90<|Zm 15 91 .nil))<| .seq (Zr (Zm 92 15<|Zk 93 .neq 92 0 .nil)<| .cond (.t 93) (Zr (Zm 94 15<|Zo (.mv 2 (.c .aa))<|Zm 3 94 .nil) .ret) .skip)<| .rg (Zh 95 2 14<|Zs 2 13 95 .nil)) .skip)<|Zr (Zf 96 0 13<|Zl 97 1 96<|Zn 98 97<|Zk 99 .gtr 98 0 .nil)<| .cond (.t 99) (.rg (Zm 100 11<|Zh 101 2 13<|Zo (.bs 102 2 34 [.t 101])<|Zo (.app 103 2 48 34 (.t 100) (.t 102))<|Zm 11 103 .nil)) .skip)<| .rg (Zm 66 12<|Zk 67 .add 66 1<|Zm 12 67 .nil))<| .rg (Zm 104 11<|Zm 4 104 .nil))<| .rg (Zm 52 8<|Zk 53 .sub 52 1<|Zm 8 53 .nil))<|Zr (Zo (.mv 16 (.c .aa)) .nil)<| .seq (Zr (Zc 17 0 .nil)<| .block 8<| .loop<| .seq (Zr (Zm 105 17<|Zk 106 .lss 105 64 .nil)<| .cond (.t 106) .skip (.exit 8))<| .seq (.block 9<|Zr (Zm 110 4<|Zm 111 17<|Zq 112 false 34 [.t 110,.t 111]<|Zm 109 112<|Zo (.ext 113 (.t 109) 0)<|Zo (.ext 114 (.t 109) 1)<|Zm 18 113<|Zm 19 114 .nil)<|Zr (Zm 115 18<|Zk 116 .geq 115 0 .nil)<| .cond (.t 116) (.rg (Zm 117 16<|Zm 118 4<|Zm 119 18<|Zi 120 2 118 119<|Zh 121 2 120<|Zo (.bs 122 2 34 [.t 121])<|Zo (.app 123 2 48 34 (.t 117) (.t 122))<|Zm 16 123 .nil)) .skip)<| .rg (Zm 107 17<|Zk 108 .add 107 1<|Zm 17 108 .nil))<|Zr (Zm 124 16<|Zm 2 124<|Zc 3 0 .nil) .ret⟩
theorem ak1:Qe Tryz.prog Tryz.f9=some c9:=by kernel_rfl
set_option maxHeartbeats 2000000 in
theorem aeB {ps:List (List Tm)} {P:Nat->aB} {bad:Nat} {o:Except Int (List aB)} (hl:ps.length<=100)
  (hp:∀i (h:i<ps.length),Qc Tryz.prog 30 [PV.el (ps[i],ew ps.length i)] (· =PV.el (P i))/\Qc Tryz.prog 33 [PV.el (P i)] (· = .int .i64 (eU (P i))))
  (qW:bad<=ps.length) (cz:∀i,i<bad->eU (P i)=0) (jF:bad<ps.length->eU (P bad)≠0) (ho:bad=ps.length->Mk 64 (gh P ps.length) o):
  Qc Tryz.prog 9 [PV.bX ps] (· =if bad=ps.length then tS o else .aw [PV.cg [],.int .i64 (eU (P bad))]):=by
 obtain⟨tU,oq⟩:∃tU,tU=if bad=ps.length then tS o else .aw [PV.cg [],.int .i64 (eU (P bad))]:=⟨_,rfl⟩
 rw[<-oq];have hu:∀i,i<ps.length->Qc Tryz.prog 31 [.int .i64 ps.length,.int .i64 i,PV.rat ((1:Int):Rat)] (· =PV.bX (ew ps.length i)):=fun i hi=>aez hi hl;have sG:=u5 (x:=1) (by omega) (by omega);refine Qf Qj Tryz.func9 rfl ak1 (by simp[c9]) fun C hP=>?_;simp only[c9,Zo,Zg,Zm,Zc,Zf,Zl,Zh,Zs,Zi,Zb,Zk,Zn,Zu,Zq,Zr,Zz];generalize hA:((1:Int):Rat)=a1 at *
 refine Sz0 ?_;refine kt 4 900 2 34 (by omega) Tz0 ?_;refine xt (by repeat (first|exact Qs|exact Ql|exact Qm|exact Qn|exact Qo|apply Qk|apply Qr|apply Qw|apply Q5|apply Q6|apply Qi|apply Q2)) [(2,7),(20,49)] [6,48,49,900] (fun m J hp=>∃i,m=ps.length-i/\i<=bad/\J 4= .ms 900 (gh P i).length/\J 5= .int .i64 (i:Nat)/\hp 900=some ⟨2,34,(gh P i).map PV.el,false⟩) ps.length ?_ ?_
 ·refine⟨0,rfl,by omega,?_⟩;refine Sz0 ?_
  first|rfl|exact⟨rfl,rfl⟩|exact⟨rfl,rfl,rfl⟩
 rintro _ J h ⟨i,rfl,hi,j4,j5,hh⟩;by_cases c1:i<ps.length
 ·have d1:decide ((i:Int)<(ps.length:Int))=true:=decide_eq_true (by omega);obtain⟨iZ,fh⟩:=hp i c1;have hu:=hu i c1;have sE:=Dt P i;have aG:gh P (i+1)=gh P i++rX P i:=by unfold gh;rw[Kb0,Kb4];simp
  unfold rX at aG;have aoo:=cz i;have yx:¬i<bad->i=bad/\eU (P i)≠0/\¬bad=ps.length:=fun h=>by
   obtain rfl:i=bad:=by omega
   exact⟨rfl,jF c1,by omega⟩
  generalize gh P i=A at *
  generalize hx:ps[i]=x at *
  generalize hz:P i=z at *
  generalize Mm:eU z=ce at *
  refine Sz4 j4 j5 d1 hx ?_;refine OW (by repeat (first|exact Qs|exact Ql|exact Qm|exact Qn|exact Qo|apply Qk|apply Qr|apply Qw|apply Q5|apply Q6|apply Qi|apply Q2)) [(6,6),(33,36)] [6] (fun J' an=>J' 6= .mp 6 0 0/\an 6=some ⟨2,34,[PV.el z],false⟩/\an 900=some ⟨2,34,A.map PV.el,false⟩) ?_ ?_
  ·repeat' first
    |refine nI ?_ ?_
    |refine Qa hP sG rfl rfl rfl ?_
    |refine Qa hP hu rfl rfl rfl ?_
    |refine Qa hP iZ rfl rfl rfl ?_
    |simp+decide (disch:=try exact D3 j4 j5 hx) only[go_sem,j4,j5,hx]
   all_goals
    refine Ai ?_;refine Sz1 hh ?_
    try trivial
  rintro J2 h2 ⟨i6,ib,hh⟩;refine Sz4 j4 j5 i6 ib ?_;refine Qa hP fh rfl rfl rfl ?_;by_cases gG:i<bad
  rotate_left
  ·obtain⟨e1,e2,e3⟩:=yx gG;have sX:decide (¬ce=0)=true:=decide_eq_true e2;refine Sz5 j4 j5 i6 ib sX ?_;subst e1;exact fl (p':=.sl 2 []) (by rw[oq,if_neg e3,hz,Mm];rfl) rfl rfl trivial (Qx _)
  obtain rfl:ce=0:=aoo gG;by_cases e3:0<z.1.length
  ·have q3:decide (0<(z.1.length:Int))=true:=decide_eq_true (by omega);rw[if_pos e3]at aG;refine Sz6 j4 j5 i6 ib hh q3 ?_;rw[Q9 (f:=PV.el) (y:=z) (xs:=A) (ty':=34) (fz:=false) (Tz1 hh) cC (by omega) rfl (by omega) (by omega)];refine Sz3 j4 j5 i6 ?_;simp (disch:=decide) only[zy,CM,nN,CY];refine u9 (ps.length-(i+1)) (by omega) ⟨i+1,rfl,by omega,?_⟩;rw[aG];simp+decide (disch:=first|omega|rfl|(simp+decide only[go_sem,Kan]<;>rfl)|fail) only[go_sem,Kan]
   try trivial
  ·have q3:decide (0<(z.1.length:Int))=false:=decide_eq_false (by omega);rw[if_neg e3,Kak]at aG;refine Sz6 j4 j5 i6 ib hh q3 ?_;simp (disch:=decide) only[zy,CM,nN,CY];refine u9 (ps.length-(i+1)) (by omega) ⟨i+1,rfl,by omega,?_⟩;rw[aG];refine Sz2 j4 hh ?_
   try (first|trivial|exact⟨rfl,rfl⟩)
 obtain rfl:i=ps.length:=by omega
 have fb:bad=ps.length:=by omega
 have L6:=ho fb;rw[if_pos fb]at oq;have d1:decide ((ps.length:Int)<(ps.length:Int))=false:=decide_eq_false (by omega);clear hp hu cz jF ho;generalize gh P ps.length=L0 at *
 refine Sz3 j4 j5 d1 ?_;refine OA 4 (IS j4 hh) ?_;refine kF j4 hh ?_;rw[show List.take L0.length (L0.map PV.el)=L0.map PV.el from Kae (by simp)];refine Qz (by repeat (first|exact Qs|exact Ql|exact Qm|exact Qn|exact Qo|apply Qk|apply Qr|apply Qw|apply Q5|apply Q6|apply Qi|apply Q2)) [(2,4),(8,15),(50,104)] [13,14,102,103,901] (fun m J hp=>∃L,m<=64/\Mk m L o/\J 4=PV.cg L/\J 8= .int .i64 ((m:Int)-1)) 64 ?_ ?_
 ·refine⟨L0,Kac _,L6,?_⟩;refine Sz0 ?_
  try (first|rfl|exact⟨rfl,rfl⟩)
 rintro m J1 h1 ⟨L,hm,EG,k4,k8⟩;have VS:=EG.wE;cases m with
 | zero=>
  obtain⟨aon⟩:Nonempty (o= .ok L):=by cases EG;exact⟨rfl⟩
  subst aon;have d2:decide ((0:Int)<=((0:Nat):Int)-1)=false:=decide_eq_false (by omega);refine Sz3 k4 k8 d2 ?_;refine kt 16 902 2 34 (by omega) Tz0 ?_;have pV:∀j,((List.range j).filterMap (gz L)).length<=j:=fun j=>Kaw (Kcb _ _) (by simp);refine Qz (by repeat (first|exact Qs|exact Ql|exact Qm|exact Qn|exact Qo|apply Qk|apply Qr|apply Qw|apply Q5|apply Q6|apply Qi|apply Q2)) [(16,19),(105,123)] [122,123,902] (fun m J hp=>∃j,m=64-j/\j<=64/\J 16= .ms 902 ((List.range j).filterMap (gz L)).length/\J 17= .int .i64 (j:Nat)/\hp 902=some ⟨2,34,((List.range j).filterMap (gz L)).map PV.el,false⟩) 64 ?_ ?_
  ·refine⟨0,rfl,by omega,?_⟩;refine Sz0 ?_
   first|rfl|exact⟨rfl,rfl⟩|exact⟨rfl,rfl,rfl⟩
  rintro _ J3 h3 ⟨j,rfl,hj,wN,yV,hq⟩;by_cases c1:j<64
  ·have d4:decide ((j:Int)<64)=true:=decide_eq_true (by omega);have oV:=P1 VS c1;have ar:=DT L j L.length;have sE:=pV j;have aG:(List.range (j+1)).filterMap (gz L)=(List.range j).filterMap (gz L)++(gz L j).toList:=by rw[Kb0,KcN];cases h:gz L j<;>simp[h]
   have ra:gz L j=if 0<=(cH L j).1 then some (L.getD (aS L j) default)else none:=rfl
   generalize gz L j=fe at *
   generalize(List.range j).filterMap (gz L)=A at *
   rw[show iE L j L.length=cH L j from rfl]at ar;generalize bz:aS L j=a0 at *
   unfold aS at bz;generalize cH L j=AB at *
   obtain⟨a2,c2⟩:=AB;simp only at ar bz ra;by_cases e1:0<=a2
   ·obtain⟨a,rfl⟩:∃a:Nat,a2=a:=⟨a2.toNat,by omega⟩
    have ha:a<L.length:=by omega
    have haa:a0=a:=by omega
    subst haa;have d5:decide ((0:Int)<=(a0:Int))=true:=decide_eq_true e1;rw[if_pos e1,fA ha]at ra;rw[ra]at aG;generalize hx:L[a0]=x at *
    refine Sz4 k4 wN yV d4 ?_;refine Qa hP oV rfl rfl rfl ?_;refine Sz5 k4 wN yV d5 hx ?_;rw[Q9 (f:=PV.el) (y:=x) (xs:=A) (ty':=34) (fz:=false) (Tz1 hq) cC (by omega) rfl (by omega) (by omega)];refine Sz3 k4 wN yV ?_;refine Qh (64-(j+1)) (by omega) ⟨j+1,rfl,by omega,?_⟩;rw[aG];simp+decide (disch:=first|omega|rfl|(simp+decide only[go_sem,Kan,Option.toList_some]<;>rfl)|fail) only[go_sem,Kan,Option.toList_some]
    try trivial
   ·have d5:decide ((0:Int)<=a2)=false:=decide_eq_false e1;rw[if_neg e1]at ra;rw[ra,Option.toList_none,Kak]at aG;refine Sz4 k4 wN yV d4 ?_;refine Qa hP oV rfl rfl rfl ?_;refine Sz4 k4 wN yV d5 ?_;refine Qh (64-(j+1)) (by omega) ⟨j+1,rfl,by omega,?_⟩;rw[aG];refine Sz2 wN hq ?_
    try (first|trivial|exact⟨rfl,rfl⟩)
  ·obtain rfl:j=64:=by omega
   refine Ay wN yV hq ?_;exact fl (by rw[oq,Kae (by simp)];rfl) rfl rfl (Qx _) (Qx _)
 | succ v=>
  have hv:v<64:=by omega
  have e8:((v+1:Nat):Int)-1=(v:Int):=by omega
  rw[e8]at k8;have d2:decide ((0:Int)<=(v:Int))=true:=decide_eq_true (by omega);refine Sz3 k4 k8 d2 ?_;obtain⟨n,o2,Vj,UU⟩:∃n o2,eS v n L o2/\(∀e,o2= .error e->o= .error e)/\∀L',o2= .ok L'->Mk v L' o:=by
   cases EG with
   |bad _ h=>exact⟨_,_,h,(fun e he=>he),(fun L' he=>by cases he)⟩
   |next _ h h2=>exact⟨_,_,h,(fun e he=>by cases he),(fun L' he=>by cases he;exact h2)⟩
  clear EG VS;refine HZ (by repeat (first|exact Qs|exact Ql|exact Qm|exact Qn|exact Qo|apply Qk|apply Qr|apply Qw|apply Q5|apply Q6|apply Qi|apply Q2)) [(2,4),(9,15),(54,104)] [13,14,102,103,901] (fun m J hp=>∃L,eS v m L o2/\J 4=PV.cg L) n ?_ ?_
  ·refine⟨L,Vj,?_⟩;refine Sz1 k4 ?_
   try trivial
  clear Vj k4 d2;rintro n2 J2 h2 ⟨L2,yu,k4⟩;have cT:=yu.wE;have oV:=P1 cT hv;by_cases hc:(cH L2 v).2<=1
  ·obtain⟨MQ⟩:Nonempty (o2= .ok L2):=by
    cases yu with
    |stop _ _=>exact⟨rfl⟩
    |fail _ h _=>omega
    |step _ h _ _=>omega
   have hMv:=UU.2 L2 MQ;generalize cH L2 v=AB at *
   obtain⟨a2,c2⟩:=AB;have d3:decide ((c2:Int)<=1)=true:=decide_eq_true (by simp only at hc;omega);refine Sz2 k4 k8 ?_;refine Qa hP oV rfl rfl rfl ?_;refine Sz3 k4 k8 d3 ?_;simp (disch:=decide) only[zy,CM,nN,CY,GG,ks];refine Qh v (by omega) ⟨L2,by omega,hMv,?_⟩;refine Sz2 k4 k8 ?_
   try trivial
  ·obtain⟨hG,iT⟩:tT v L2/\2<=(cH L2 v).2:=by
    cases yu with
    |stop _ h=>exact absurd h hc
    |fail h h2 _=>exact⟨h,h2⟩
    |step h h2 _ _=>exact⟨h,h2⟩
   have hlen:=cT.len;have bz:=hG.bz;have anv:=hG.LP;obtain⟨bl1,bl2,IV⟩:=rM L2 v;have d3:decide (((cH L2 v).2:Int)<=1)=false:=decide_eq_false (by omega);have hS6:dJ L2 v=L2.length->∃n3,n2=n3+1/\eS v n3 (g8 L2 v) o2:=fun hb=>by
    cases yu with
    |stop _ h=>exact absurd h hc
    |fail _ _ h=>omega
    |step _ _ _ h=>exact⟨_,rfl,h⟩
   have hS4:dJ L2 v<L2.length->o2= .error (lP L2 v (dJ L2 v)):=fun hb=>by
    cases yu with
    |stop _ h=>exact absurd h hc
    |fail _ _ h=>rfl
    |step _ _ h _=>omega
   clear yu;rw[anv]at oV;generalize(cH L2 v).2=c2 at *
   refine Sz2 k4 k8 ?_;refine Qa hP oV rfl rfl rfl ?_;refine Sz3 k4 k8 d3 ?_;refine kt 11 901 2 34 (by omega) Tz0 ?_;refine Qz (by repeat (first|exact Qs|exact Ql|exact Qm|exact Qn|exact Qo|apply Qk|apply Qr|apply Qw|apply Q5|apply Q6|apply Qi|apply Q2)) [(2,3),(11,15),(62,103)] [13,14,102,103,901] (fun m J hp=>∃i,m=L2.length-i/\i<=dJ L2 v/\J 11= .ms 901 (eI L2 (aS L2 v) v (dz L2 v) i).length/\J 12= .int .i64 (i:Nat)/\hp 901=some ⟨2,34,(eI L2 (aS L2 v) v (dz L2 v) i).map PV.el,false⟩) L2.length ?_ ?_
   ·refine⟨0,rfl,by omega,?_⟩;refine Sz0 ?_
    first|rfl|exact⟨rfl,rfl⟩|exact⟨rfl,rfl,rfl⟩
   rintro _ J3 h3 ⟨i,rfl,hi,iu,nA,hq⟩;by_cases c1:i<L2.length
   ·have d4:decide ((i:Int)<(L2.length:Int))=true:=decide_eq_true (by omega);have gE:=cT.el _ (Kag c1);obtain⟨b1,b2,b3,b4⟩:=gE;have hm:=za b1 b2 (by omega:_<=2^36);have sE:=Ds L2 (aS L2 v) v (dz L2 v) i;have aG:eI L2 (aS L2 v) v (dz L2 v) (i+1)=eI L2 (aS L2 v) v (dz L2 v) i++mI L2 (aS L2 v) v (dz L2 v) i:=by unfold eI;rw[Kb0,Kb4];simp
    unfold mI at aG;rw[fA c1]at aG;have ant:=hG.dv i c1;have sC:=fun a b=>hG.err c1 a b;rw[fA bz]at sC;have L8:dz L2 v L2[i]=(dW L2[i] L2[aS L2 v]).1:=by unfold dz;rw[fA bz]
    have fb:=bl2 i;have AW:¬i<dJ L2 v->i=dJ L2 v:=fun h=>by omega
    have oY:(dz L2 v L2[i]).1.length=(dz L2 v L2[i]).1.length:=rfl;generalize eI L2 (aS L2 v) v (dz L2 v) i=A at *
    have d5:decide (0<(L2[i].1.length:Int))=true:=decide_eq_true (by omega);generalize hx:L2[i]=x at *
    generalize hy:L2[aS L2 v]=y at *
    by_cases e1:i=aS L2 v
    ·have q1:decide (¬(i:Int)=(aS L2 v:Int))=false:=decide_eq_false fun h=>h (by omega);rw[if_pos (.inl e1)]at aG;refine Sz8 k4 k8 iu nA d4 d5 hx q1 ?_;rw[Q9 (f:=PV.el) (y:=x) (xs:=A) (ty':=34) (fz:=false) (Tz1 hq) cC (by omega) rfl (by omega) (by omega)];refine Sz4 k4 k8 iu nA ?_;refine Qh (L2.length-(i+1)) (by omega) ⟨i+1,rfl,?_,?_⟩
     ·by_cases gG:i<dJ L2 v
      ·omega
      ·exfalso;have:=AW gG;apply IV (by omega);unfold lP;rw[if_pos (.inl (by omega))]
     rw[aG];simp+decide (disch:=first|omega|rfl|(simp+decide only[go_sem,Kan]<;>rfl)|fail) only[go_sem,Kan]
     try trivial
    ·have q1:decide (¬(i:Int)=(aS L2 v:Int))=true:=decide_eq_true fun h=>e1 (by omega);by_cases e2:Qv x.1=v
     ·have q2:decide (Qv x.1=(v:Int))=true:=decide_eq_true e2;obtain⟨m0,j0,Tf,Tg,hD⟩:=ant e1 e2;have ft:=ahs hD;have sC:=sC e1 e2;rw[if_neg (by simp[e1,e2]),L8]at aG;have Fx:(dW x y).1.1.length<=4000∨True:=.inr trivial;generalize hz:dW x y=z at *
      obtain⟨z,ez⟩:=z;simp only at aG ft sC;refine Sz7 k4 k8 iu nA d4 hx q1 ?_;refine Qa hP hm rfl rfl rfl ?_;refine Sz7 k4 k8 iu nA q2 hx hy ?_;refine nI ?_ ?_
      all_goals
       repeat' first
        |refine Qa hP ft rfl rfl rfl ?_
        |simp+decide (disch:=try exact D6 k4 k8 iu nA hx hy) only[go_sem,k4,k8,iu,nA,hx,hy]
       by_cases gG:i<dJ L2 v
       rotate_left
       ·have yx:=AW gG;have hez:ez≠0:=by rw[<-sC,yx];exact IV (by omega)
        have hoe:=UU.1 _ (hS4 (by omega));have q3:decide (¬ez=0)=true:=decide_eq_true hez;refine Sz5 k4 k8 iu nA q3 ?_;exact fl (p':=.sl 2 []) (by rw[oq,hoe,<-yx,sC];rfl) rfl rfl trivial (Qx _)
       obtain rfl:ez=0:=by rw[<-sC];exact fb gG
       by_cases e3:0<z.1.length
       ·have q3:decide (0<(z.1.length:Int))=true:=decide_eq_true (by omega);rw[if_pos e3]at aG;refine Sz5 k4 k8 iu nA q3 ?_;rw[Q9 (f:=PV.el) (y:=z) (xs:=A) (ty':=34) (fz:=false) (Tz1 hq) cC (by omega) rfl (by omega) (by omega)];refine Sz4 k4 k8 iu nA ?_;refine Qh (L2.length-(i+1)) (by omega) ⟨i+1,rfl,by omega,?_⟩;rw[aG];simp+decide (disch:=first|omega|rfl|(simp+decide only[go_sem,Kan]<;>rfl)|fail) only[go_sem,Kan]
        try trivial
       ·have q3:decide (0<(z.1.length:Int))=false:=decide_eq_false (by omega);rw[if_neg e3,Kak]at aG;refine Sz5 k4 k8 iu nA q3 ?_;refine Qh (L2.length-(i+1)) (by omega) ⟨i+1,rfl,by omega,?_⟩;rw[aG];refine Sz2 iu hq ?_
        try (first|trivial|exact⟨rfl,rfl⟩)
     ·have q2:decide (Qv x.1=(v:Int))=false:=decide_eq_false e2;rw[if_pos (.inr e2)]at aG;refine Sz7 k4 k8 iu nA d4 hx q1 ?_;refine Qa hP hm rfl rfl rfl ?_;refine Sz6 k4 k8 iu nA d5 q2 ?_;rw[Q9 (f:=PV.el) (y:=x) (xs:=A) (ty':=34) (fz:=false) (Tz1 hq) cC (by omega) rfl (by omega) (by omega)];refine Sz4 k4 k8 iu nA ?_;refine Qh (L2.length-(i+1)) (by omega) ⟨i+1,rfl,?_,?_⟩
      ·by_cases gG:i<dJ L2 v
       ·omega
       ·exfalso;have:=AW gG;apply IV (by omega);unfold lP;rw[<-this,fA c1,hx,if_pos (.inr e2)]
      rw[aG];simp+decide (disch:=first|omega|rfl|(simp+decide only[go_sem,Kan]<;>rfl)|fail) only[go_sem,Kan]
      try trivial
   ·obtain rfl:i=L2.length:=by omega
    have hbL:dJ L2 v=L2.length:=by omega
    have d4:decide ((L2.length:Int)<(L2.length:Int))=false:=decide_eq_false (by omega);obtain⟨n3,rfl,Vh⟩:=hS6 hbL;unfold g8 at Vh;generalize eI L2 (aS L2 v) v (dz L2 v) L2.length=L3 at *
    refine Sz5 k4 k8 iu nA d4 ?_;rw[GG (V:=[(4,4),(104,104),(2,3),(11,15),(62,103)]) (W:=[(2,4),(9,15),(54,104)]) (h:=by decide) (hB:= ?_)]
    rotate_left
    ·decide
    refine GX 4 n3 (by decide) ?_ (by omega) ⟨_,Vh,?_⟩
    ·simp+decide (disch:=try exact E1 hq) only[go_sem,hq,ee,Kav,KaC,Kau,KaA,Kak]<;>rfl
    ·refine sg hq ?_;show PV.sl 2 _=PV.sl 2 _;rw[Kae (by simp)]
def jV(t:aZ):Bool:=decide (t.a.length<=1)&&decide (t.d.length<=1)
def vN(ls:List (List aZ))(most:Nat)(deg:Int):Bool:=decide (ls.length<=most)&&ls.all fun l=>kW 4 3 3 l&&(decide (jE (l.map aZ.tm)<=deg)&&l.all jV)
theorem ak2{ls:List (List aZ)}{most:Nat}{deg:Int}(hl:ls.length<=1048576)(hp:∀l∈ls,l.length<=1048576/\∀t∈l,RB 1048576 t)(hm:most<=100):
  Qc Tryz.prog 6 [.sl 1 (ls.map PV.kp),.int .i64 most,.int .i64 deg] (· = .bool (vN ls most deg)):=by
 refine Qf Qj Tryz.func6 rfl akY (by simp[c6]) fun C hP=>?_;simp only[c6,Zo,Zg,Zm,Zc,Zf,Zl,Zh,Zs,Zi,Zb,Zk,Zn,Zu,Zq,Zr,Zz];refine Sz0 ?_;refine Qb (fun h6=>?_) (fun h6=>?_)
 ·refine Sz0 ?_;exact Qd (by rw[vN,decide_eq_false (by omega),Kc6]) rfl
 have hF:vN ls most deg=ls.all fun l=>kW 4 3 3 l&&(decide (jE (l.map aZ.tm)<=deg)&&l.all jV):=by rw[vN,decide_eq_true (by omega),KbU]
 rw[hF];clear hF;refine Sz0 ?_;refine Qz (by repeat (first|exact Qs|exact Ql|exact Qm|exact Qn|exact Qo|apply Qk|apply Qr|apply Qw|apply Q5|apply Q6|apply Qi|apply Q2)) [(6,8),(13,67)] [] (fun m J hp=>∃i,m=ls.length-i/\i<=ls.length/\(∀j (h:j<ls.length),j<i->(kW 4 3 3 ls[j]&&(decide (jE (ls[j].map aZ.tm)<=deg)&&ls[j].all jV))=true)/\J 7= .int .i64 (i:Nat)) ls.length ?_ ?_
 ·refine⟨0,rfl,by omega,by omega,?_⟩;refine Sz0 ?_
  try (first|rfl|exact⟨rfl,rfl⟩)
 rintro _ J h ⟨i,rfl,hi,cw,j7⟩;by_cases c1:i<ls.length
 ·have d1:decide ((i:Int)<(ls.length:Int))=true:=decide_eq_true (by omega);obtain⟨b1,b2⟩:=hp _ (Kag c1);have eC:=Kag c1;have sM:=Xy (n:=4) (v:=3) (e:=3) b2 (by omega) (by omega) (by omega:_<2^40);have gU:(kW 4 3 3 ls[i]&&(decide (jE (ls[i].map aZ.tm)<=deg)&&ls[i].all jV))=true->∀j (h:j<ls.length),j<i+1->(kW 4 3 3 ls[j]&&(decide (jE (ls[j].map aZ.tm)<=deg)&&ls[j].all jV))=true:=fun h j hj eh=>by
   by_cases e:j=i
   ·subst e;exact h
   ·exact cw j hj (by omega)
  have jF:(kW 4 3 3 ls[i]&&(decide (jE (ls[i].map aZ.tm)<=deg)&&ls[i].all jV))=false->(ls.all fun l=>kW 4 3 3 l&&(decide (jE (l.map aZ.tm)<=deg)&&l.all jV))=false:=fun h=>by rw[Kc4];exact⟨_,eC,by simp[h]⟩
  generalize hx:ls[i]=x at *
  cases hs:kW 4 3 3 x
  ·rw[hs]at sM jF;refine Sz3 j7 d1 hx ?_;refine Qa hP sM rfl rfl rfl ?_;refine Sz3 j7 d1 hx ?_;exact Qd (by rw[jF (by simp)]) rfl
  ·have sp:=Tc (e:=3) b2 hs;have ET:=Qyu sp.b (by omega) (by have:=sp.ln;omega);rw[<-sp.eq]at ET;rw[hs]at sM;generalize uj:jE (x.map aZ.tm)=dx at *
   rw[hs,KbU]at gU jF;by_cases c2:dx<=deg
   ·have d2:decide (deg<dx)=false:=decide_eq_false (by omega);rw[decide_eq_true c2,KbU]at gU jF;refine Sz3 j7 d1 hx ?_;refine Qa hP sM rfl rfl rfl ?_;refine Sz3 j7 d1 hx ?_;refine Qa hP ET rfl rfl rfl ?_;refine Sz4 j7 d1 d2 hx ?_;refine Qz (by repeat (first|exact Qs|exact Ql|exact Qm|exact Qn|exact Qo|apply Qk|apply Qr|apply Qw|apply Q5|apply Q6|apply Qi|apply Q2)) [(6,6),(8,8),(34,67)] [] (fun m J hp=>∃k,m=x.length-k/\k<=x.length/\(∀j (h:j<x.length),j<k->jV x[j]=true)/\J 8= .int .i64 (k:Nat)) x.length ?_ ?_
    ·refine⟨0,rfl,by omega,by omega,?_⟩;refine Sz0 ?_
     try (first|rfl|exact⟨rfl,rfl⟩)
    rintro _ J2 h2 ⟨k,rfl,hk,jJ,j8⟩;by_cases c3:k<x.length
    ·have d3:decide ((k:Int)<(x.length:Int))=true:=decide_eq_true (by omega);have MK:=Kag c3;have Vs:jV x[k]=false->x.all jV=false:=fun h=>by rw[Kc4];exact⟨_,MK,by simp[h]⟩
     have vV:jV x[k]=true->∀j (h:j<x.length),j<k+1->jV x[j]=true:=fun h j hj eh=>by
      by_cases e:j=k
      ·subst e;exact h
      ·exact jJ j hj (by omega)
     generalize hy:x[k]=y at *
     by_cases c4:y.a.length<=1
     ·have q4:decide (1<(y.a.length:Int))=false:=decide_eq_false (by omega);by_cases c5:y.d.length<=1
      ·have q5:decide (1<(y.d.length:Int))=false:=decide_eq_false (by omega);refine Sz7 j7 j8 d3 hx hy q4 q5 ?_;refine Qh (x.length-(k+1)) (by omega) ⟨k+1,rfl,by omega,vV (by rw[jV,decide_eq_true c4,decide_eq_true c5];rfl),?_⟩;refine Sz0 ?_
       try trivial
      ·have q5:decide (1<(y.d.length:Int))=true:=decide_eq_true (by omega);refine Sz7 j7 j8 d3 hx hy q4 q5 ?_;exact Qd (by rw[jF (Vs (by rw[jV,decide_eq_false c5,Bool.and_false]))]) rfl
     ·have q4:decide (1<(y.a.length:Int))=true:=decide_eq_true (by omega);refine Sz6 j7 j8 d3 hx hy q4 ?_;exact Qd (by rw[jF (Vs (by rw[jV,decide_eq_false c4,Kc6]))]) rfl
    ·obtain rfl:k=x.length:=by omega
     have d3:decide ((x.length:Int)<(x.length:Int))=false:=decide_eq_false (by omega);have Fq:x.all jV=true:=by rw[Kay];intro t ht;obtain⟨j,hj,rfl⟩:=Kbe ht;exact jJ j hj hj
     refine Sz4 j7 j8 d3 hx ?_;simp (disch:=decide) only[ks,nN];refine Qh (ls.length-(i+1)) (by omega) ⟨i+1,rfl,by omega,gU Fq,?_⟩;refine Sz0 ?_
     try trivial
   ·have d2:decide (deg<dx)=true:=decide_eq_true (by omega);rw[decide_eq_false c2,Kc6]at jF;refine Sz3 j7 d1 hx ?_;refine Qa hP sM rfl rfl rfl ?_;refine Sz3 j7 d1 hx ?_;refine Qa hP ET rfl rfl rfl ?_;refine Sz4 j7 d1 d2 hx ?_;exact Qd (by rw[jF rfl]) rfl
 ·obtain rfl:i=ls.length:=by omega
  have d1:decide ((ls.length:Int)<(ls.length:Int))=false:=decide_eq_false (by omega);refine Sz2 j7 d1 ?_;refine Qd ?_ rfl;congr 1;symm;rw[Kay];intro t ht;obtain⟨j,hj,rfl⟩:=Kbe ht;exact cw j hj hj
abbrev wP(ls:List (List aZ)):List (List Tm):=ls.map (List.map aZ.tm)
structure mw(deg:Int)(p:List Tm):Prop where
 b:PB 2 3 p
 v:rE p
 l:p.length<=4
 m:ML 3 p
 d:jE p<=deg
theorem P3{l:List aZ}{deg:Int}{k:Nat}(hb:∀t∈l,RB k t)(h:(kW 4 3 3 l&&(decide (jE (l.map aZ.tm)<=deg)&&l.all jV))=true):PV.kp l=PV.aj (l.map aZ.tm)/\mw deg (l.map aZ.tm):=by simp only[Kat,decide_eq_true_eq,Kay]at h;obtain⟨h1,h2,h3⟩:=h;have sp:=Tc (e:=3) hb h1;refine⟨sp.eq,fun t ht=>?_,sp.va,sp.ln,sp.ml,h2⟩;have iS:=sp.b t ht;obtain⟨x,hx,rfl⟩:=KaE.1 ht;have ho:=h3 x hx;simp only[jV,Kat,decide_eq_true_eq]at ho;have hr:=(show Raw 1 x.n x.a x.d from⟨(hb x hx).r.1,(hb x hx).r.2.1,ho.1,ho.2,by omega⟩).rs;refine⟨?_,iS.m,iS.l⟩;show rs (rv x.n x.a x.d)+1<=2;omega
theorem ahx{ls:List (List aZ)}{most:Nat}{deg:Int}{k:Nat}(hb:∀l∈ls,∀t∈l,RB k t)(h:vN ls most deg=true):ls.length<=most/\PV.sl 1 (ls.map PV.kp)=PV.bX (wP ls)/\∀p∈wP ls,mw deg p:=by
 simp only[vN,Kat,decide_eq_true_eq]at h;obtain⟨h1,h2⟩:=h;rw[Kay]at h2;refine⟨h1,?_,fun p hp=>?_⟩
 ·show PV.sl 1 _=PV.sl 1 _;congr 1;rw[Kc8];exact Kbb fun l hl=>(P3 (hb l hl) (by have:=h2 l hl;simpa using this)).1
 ·obtain⟨l,hl,rfl⟩:=KaE.1 hp;exact(P3 (hb l hl) (by have:=h2 l hl;simpa using this)).2
theorem eE.apd{m j Tf Tg v:Nat}{f g:aB}(h:eE m j Tf Tg v f g):Qv (dW f g).1.1<=v:=by
 unfold dW;cases hd:lU f.1 g.1 with
 |none=>show Qv []<=_;have:Qv []= -1:=rfl;omega
 |some d=>obtain⟨q,r,n⟩:=d;have o:=h.out hd;exact H4 (o.mv.wL o.nr.c _)
theorem eS.filter{v n:Nat}{l:List aB}{o:Except Int (List aB)}(h:eS v n l o):∀l',o= .ok l'->∀u,v<u->l'.filter (dB u)=l.filter (dB u):=by
 induction h with
 |stop=>intro l' e u _;cases e;rfl
 |fail=>intro l' e;cases e
 | @step l n o hG _ _ _ ih=>
  intro l' e u hu;rw[ih l' e u hu];have bz:=hG.bz;refine Q9d hu (fun i hi h1 h2=>?_) (fun bz=>?_)
  ·obtain⟨m,j,Tf,Tg,hD⟩:=hG.dv i hi h1 h2;unfold dz;rw[fA bz];exact hD.apd
  ·by_cases hi:∃i,∃hi:i<l.length,i≠aS l v/\Qv l[i].1=v
   ·obtain⟨i,hi,h1,h2⟩:=hi;obtain⟨m,j,Tf,Tg,hD⟩:=hG.dv i hi h1 h2;exact hD.mg
   ·exact(xm (l:=l) (v:=v) (by omega)).2.2.1
theorem SH{l:List aB}{u:Nat}(h:(cH l u).2<=1):gz l u=(l.filter (dB u)).head? :=by
 have hc:=zB l u;rw[List.countP_eq_length_filter]at hc;unfold gz;by_cases h0:(cH l u).2=0
 ·rw[He h0,if_neg (by omega)];have:l.filter (dB u)=[]:=Kas.1 (by omega);rw[this];rfl
 ·obtain⟨e,bz,hm,_⟩:=xm (l:=l) (v:=u) (by omega);rw[e,if_pos (by omega),fA bz];have eC:l[aS l u]∈l.filter (dB u):=List.mem_filter.2 ⟨Kag _,by unfold dB;exact decide_eq_true hm⟩;generalize l.filter (dB u)=F at *
  match F,hc,eC with
  | [x],_,eC=>rw[KaO.1 eC];rfl
  | [],hc,_=>simp at hc;omega
  |_::_::_,hc,_=>simp at hc;omega
theorem H6{l:List aB}{u:Nat}{e:aB}(h:gz l u=some e):e∈l/\Qv e.1=u:=by
 unfold gz at h;split at h
 ·rename_i h0;have hn:1<=(cH l u).2:=by apply Decidable.byContradiction;intro hc;have:=He (l:=l) (v:=u) (by omega);omega
  obtain⟨_,bz,hm,_⟩:=xm hn;rw[fA bz]at h;cases h;exact⟨Kag _,hm⟩
 ·cases h
theorem eS.Xl{v n:Nat}{l:List aB}{o:Except Int (List aB)}(h:eS v n l o)(hv:v<64):(∀l',o= .ok l'->jj v l l' (gz l' v) n/\(cH l' v).2<=1/\ph l')/\∀e,o= .error e->nS v e l n:=by
 induction h with
 | @stop l cT hc=>
  refine⟨fun l' e=>?_,fun e h=>by cases h⟩;cases e;refine⟨?_,hc,cT⟩;have hs:=Ge cT hv;by_cases h0:(cH l v).2=0
  ·have e:=He h0;have hf:gz l v=none:=by unfold gz;rw[e,if_neg (by omega)]
   rw[hf];rw[h0]at hs;exact jj.none l _ hs
  ·have h1:(cH l v).2=1:=by omega
   obtain⟨e,bz,hm,_⟩:=xm (l:=l) (v:=v) (by omega);have hf:gz l v=some l[aS l v]:=by unfold gz;rw[e,if_pos (by omega),fA bz]
   rw[hf];rw[h1,e]at hs;exact jj.one l _ bz hs
 | @fail l hG h2 hb=>refine⟨fun l' e=>(by cases e),fun e h=>?_⟩;cases h;have hs:=Ge hG.lb hv;rw[hG.LP]at hs;have hr:=Rw hG;rw[if_neg (by omega)]at hr;exact nS.fail l _ _ hs (by omega) ((rM l v).2.2 hb) hr
 | @step l n o hG h2 hb _ ih=>
  have hs:=Ge hG.lb hv;rw[hG.LP]at hs;have hr:=Rw hG;rw[if_pos hb]at hr;refine⟨fun l' e=>?_,fun e h=>?_⟩
  ·obtain⟨i1,i2,i3⟩:=ih.1 l' e;exact⟨jj.more l _ l' _ _ _ _ hs (by omega) hr i1,i2,i3⟩
  ·exact nS.more l _ _ _ _ hs (by omega) hr (ih.2 e h)
structure Path(v:Nat)(l:List aB)(o:Except Int (List aB))(Ls:Nat->List aB)(F:Option (Nat×Int)):Prop where
 top:Ls v=l
 lb:∀u,ph (Ls u)
 tn:∀u,u<v->(∀p,F=some p->p.1<u)->∃m,jj u (Ls (u+1)) (Ls u) (gz (Ls u) u) m
 tx:∀p,F=some p->p.1<v/\∃m,nS p.1 p.2 (Ls (p.1+1)) m
 ok:F=none->o= .ok (Ls 0)/\(∀u,u<v->(cH (Ls u) u).2<=1)/\∀u w,w<=u->w<=v->(Ls w).filter (dB u)=(Ls (min u v)).filter (dB u)
 er:∀p,F=some p->o= .error p.2
theorem Mk.path{v:Nat}{l:List aB}{o:Except Int (List aB)}(h:Mk v l o):∃Ls F,Path v l o Ls F:=by
 induction h with
 | @done l cT=>exact⟨fun _=>l,none,rfl,fun _=>cT,fun u hu=>absurd hu (by omega),fun p hp=>(by cases hp),fun _=>⟨rfl,fun u hu=>absurd hu (by omega),fun _ _ _ _=>rfl⟩,fun p hp=>(by cases hp)⟩
 | @bad v n l e hv hS=>
  refine⟨fun _=>l,some (v,e),rfl,fun _=>hS.wE,fun u hu hp=>?_,fun p hp=>?_,fun h=>(by cases h),fun p hp=>?_⟩
  ·have:=hp _ rfl;simp only at this;omega
  ·cases hp;exact⟨by show v<v+1;omega,n,(hS.Xl hv).2 e rfl⟩
  ·cases hp;rfl
 | @next v n l l' o hv hS _ ih=>
  obtain⟨Ls,F,hP⟩:=ih;obtain⟨t1,t2,t3⟩:=(hS.Xl hv).1 l' rfl;have anF:=hS.filter l' rfl;have cT:∀u,ph (if u<=v then Ls u else l):=fun u=>by
   split
   ·exact hP.lb u
   ·exact hS.wE
  refine⟨fun u=>if u<=v then Ls u else l,F,?_,cT,fun u hu hp=>?_,fun p hp=>?_,fun hF=>?_,hP.er⟩
  ·exact if_neg (by omega)
  ·by_cases e:u=v
   ·subst e;rw[if_neg (by omega),if_pos (Kac _),hP.top];exact⟨n,t1⟩
   ·rw[if_pos (by omega),if_pos (by omega)];exact hP.tn u (by omega) hp
  ·obtain⟨k1,m,k2⟩:=hP.tx p hp;refine⟨by omega,m,?_⟩;rw[if_pos (by omega)];exact k2
  ·obtain⟨k1,k2,k3⟩:=hP.ok hF;refine⟨by rw[if_pos (Kbx _)];exact k1,fun u hu=>?_,fun u w hw hu=>?_⟩
   ·rw[if_pos (by omega)];by_cases e:u=v
    ·subst e;rw[hP.top];exact t2
    ·exact k2 u (by omega)
   ·by_cases wB:w<=v
    ·rw[if_pos wB,k3 u w hw wB];by_cases e:u<=v
     ·have e1:min u v=u:=by omega
      have e2:min u (v+1)=u:=by omega
      rw[e1,e2,if_pos e]
     ·have e1:min u v=v:=by omega
      have e2:min u (v+1)=v+1:=by omega
      rw[e1,e2,if_neg (by omega),hP.top];exact anF u (by omega)
    ·have e1:w=v+1:=by omega
     have e2:min u (v+1)=v+1:=by omega
     rw[e1,e2]
def kR(ps:List (List Tm))(i:Nat):aB:=dh (ps.getD i []) (ew ps.length i)
theorem mw.td{deg:Int}{p:List Tm}(h:mw deg p):TD deg p:=fun t ht=>by have h1:=(adQ p).1 t ht;rw[ago (by have:=(h.b t ht).m.len;omega)];have:=h.d;omega
theorem Dh{n i:Nat}{c:List Tm}(h:c∈ew n i):c=[]∨c=dk 1:=by
 unfold ew at h;rcases KcT h with h|h
 ·exact .inl (KcY.1 h).2
 ·exact .inr h
theorem mw.sz{p:List Tm}(h:mw 2 p):SZ 9 8 2 p:=(SZ.of h.b h.l).W9 (OZ (T:=2) h.td ⟨3,2,h.b⟩)
theorem mw.AJ{p:List Tm}(h:mw 2 p):rs (eP p)<=29:=by
 unfold eP;split
 ·have:=ob;have e:((1:Int):Rat)=1:=rfl;rw[e];omega
 ·have:=(h.sz.wK h.v.ny ‹_›).2;omega
theorem mw.pri{p:List Tm}(h:mw 2 p){n i:Nat}(hn:n<=3):uP p (ew n i):=by
 refine⟨h.b.mono (by omega) (by omega),h.v.ny,by have:=h.l;omega,by have:=h.AJ;omega,by unfold ew;simp;omega,fun c hc=>?_⟩;rcases Dh hc with rfl|rfl
 ·exact⟨PB.nil _ _,au.nil,by simp⟩
 ·exact⟨SZ.FC.PB.mono (by omega) (by omega),w9 1,by decide+kernel⟩
theorem mw.lv{p:List Tm}(h:mw 2 p){n i:Nat}(hc:eU (dh p (ew n i))=0):Lv n 0 2 (dh p (ew n i))/\(p=[]∨0<=Qv (dh p (ew n i)).1):=by
 have ou:uE (dh p (ew n i))=false:=by
  unfold eU at hc;split at hc
  ·cases hc
  ·rename_i h1;simpa using h1
 have MH:=ou;simp only[uE,Kcf]at ou;obtain⟨g1,g2⟩:=ou;rw[KbC]at g2;have hn:=h.v.ny;have hf:=h.AJ;refine⟨⟨?_,TD.wL h.td hn.c _,qB hn.s _,g1,ML.wL h.m hn.c _,fun y hy=>?_,?_⟩,?_⟩
 ·show SZ 1 17 2 (b8 p (eP p));unfold eP;split
  ·rename_i h0;subst h0;rw[xc];exact SZ.nil _ _ _ (by omega) (by omega)
  ·exact(h.sz.wK hn ‹_›).1.mono (Kac _) (by omega) (Kac _)
 ·obtain⟨c,gV,rfl⟩:=KaE.1 hy;have hs:SZ 1 1 0 c/\au c:=by
   rcases Dh gV with rfl|rfl
   ·exact⟨SZ.nil _ _ _ (by omega) (by omega),au.nil⟩
   ·exact⟨SZ.FC,w9 1⟩
  refine⟨(hs.1.scale hf).mono (by decide) (by decide) (by decide),qB hs.2.s _,?_⟩;have:=g2 _ hy;simpa using this
 ·simp[dh,ew]
 ·by_cases h0:p=[]
  ·exact .inl h0
  ·right;unfold eU at hc;rw[MH]at hc;simp only[KaK,if_false]at hc;split at hc
   ·cases hc
   ·rename_i rm;have aO:0<(dh p (ew n i)).1.length:=by show 0<(b8 p (eP p)).length;rw[TL hn.z (O0 hn)];exact Kbf.2 h0
    omega
def kv(ps:List (List Tm)):Nat:=pH (fun i=>decide (eU (kR ps i)≠0)) ps.length 0
theorem Hf(ps:List (List Tm)):kv ps<=ps.length/\(∀i,i<kv ps->eU (kR ps i)=0)/\(kv ps<ps.length->eU (kR ps (kv ps))≠0):=by
 obtain⟨h1,h2,h3,h4⟩:=Gz (fun i=>decide (eU (kR ps i)≠0)) ps.length 0;refine⟨by unfold kv;omega,fun i hi=>?_,fun h=>?_⟩
 ·have:=h3 i (by omega) hi;simpa using this
 ·have:=h4 (by unfold kv at h;omega);simpa[kv]using this
inductive wQ(ps:List (List Tm)):Except Int (List aB)->Prop
 |bad:kv ps<ps.length->wQ ps (.error (eU (kR ps (kv ps))))
 |go {o:Except Int (List aB)}:kv ps=ps.length->Mk 64 (gh (kR ps) ps.length) o->(∀l',o= .ok l'->l'.length<=3/\∀x∈l',oQ ps.length x)->wQ ps o
theorem xJ{ps:List (List Tm)}{i:Nat}(hi:i<ps.length):kR ps i=dh ps[i] (ew ps.length i):=by
 unfold kR;have:ps.getD i []=ps[i]:=by simp[hi]
 rw[this]
theorem akk{ps:List (List Tm)}(hl:ps.length<=3)(hF:∀p∈ps,mw 2 p):∃o,wQ ps o:=by
 obtain⟨b1,b2,b3⟩:=Hf ps;by_cases hb:kv ps=ps.length
 ·have hA:yb ps.length ((64:Nat)-1:Int) (gh (kR ps) ps.length):=by
   have cw:∀x∈gh (kR ps) ps.length,Lv ps.length 0 2 x/\0<=Qv x.1:=fun x hx=>by
    unfold gh at hx;obtain⟨i,hi,hx⟩:=Kaq.1 hx;have hi:i<ps.length:=Kch.1 hi;unfold rX at hx;split at hx
    ·rename_i gW;rw[KaO]at hx;subst hx;have h0:=b2 i (by omega);rw[xJ hi]at h0 gW⊢;obtain⟨k1,k2⟩:=(hF _ (Kag hi)).lv h0;refine⟨k1,k2.resolve_left fun e=>?_⟩;rw[e]at gW;have:(dh [] (ew ps.length i)).1=[]:=by
      show b8 [] (eP [])=[]
      exact xc _
     rw[this]at gW;simp at gW
    ·cases hx
   refine .inl ⟨Kaw (Dt _ _) hl,fun x hx=>?_,fun x hx _=>(cw x hx).1⟩;exact(cw x hx).1.fin (by omega) (by omega) (cw x hx).2
  obtain⟨o,h1,h2⟩:=Rx hl 64 _ (Kac _) hA;exact⟨o,.go hb h1 h2⟩
 ·exact⟨_,.bad (by omega)⟩
theorem TN{α β:Type}{f g:α->Option β}:∀ {l:List α},(∀x∈l,f x=g x)->l.filterMap f=l.filterMap g
 | [],_=>rfl
 |x::l,h=>by rw[Kbg,Kbg,h x (by simp),TN fun y hy=>h y (by simp[hy])]
theorem acA{ps:List (List Tm)}(hl:ps.length<=3)(hF:∀p∈ps,mw 2 p){o:Except Int (List aB)}(h:wQ ps o):Qc Tryz.prog 8 [PV.bX ps] (· =tS o)/\Qc Tryz.prog 9 [PV.bX ps] (· =tS o):=by
 obtain⟨b1,b2,b3⟩:=Hf ps;have hP:∀i (h:i<ps.length),uP ps[i] (ew ps.length i):=fun i hi=>(hF _ (Kag hi)).pri hl;have aG:=OV (ps:=ps) (R:=kR ps) (bad:=kv ps) (er:=eU (kR ps (kv ps))) (by omega) b1 (fun i hi hb=>by
  have h0:=b2 i hb;have hs:=Iq (hP i hi);rw[<-xJ hi,h0]at hs;refine⟨hs,?_⟩;rw[xJ hi];have:=(hP i hi).x.2.2.1;omega) (fun hb=>by
  have h0:=b3 hb;have hs:=Iq (hP _ hb);rw[<-xJ hb]at hs;unfold yT at hs;rw[if_neg h0]at hs;exact⟨h0,hs⟩)
 have hr:∀o',(kv ps=ps.length->Mk 64 (gh (kR ps) ps.length) o')->Qc Tryz.prog 9 [PV.bX ps] (· =if kv ps=ps.length then tS o' else .aw [PV.cg [],.int .i64 (eU (kR ps (kv ps)))]):=fun o' wm=>
  aeB (P:=kR ps) (by omega) (fun i hi=>by
   have:=Ht (hP i hi)
   rwa[<-xJ hi]at this) b1 b2 b3 wm
 cases h with
 |bad hb=>have hr:=hr (.ok []) (fun e=>by omega);rw[if_neg (by omega)]at hr aG;exact⟨Zy (b3 hb) aG,hr⟩
 | go hb hM _=>
  have hr:=hr o (fun _=>hM);rw[if_pos hb]at hr aG;refine⟨?_,hr⟩;obtain⟨Ls,F,yq⟩:=hM.path;have hG:=PD (F:=F) (Ls:=Ls) (K:=fun u=>gz (Ls u) u) (list:=ps) (by rw[yq.top];exact aG) (fun v hv hp=>yq.tn v hv hp) (fun p hp=>yq.tx p hp) (fun v e he=>((yq.lb v).el e (H6 he).1).2.2.2);have dw:Nq F (fun u=>gz (Ls u) u)=tS o:=by
   cases yp:F with
   | none=>
    obtain⟨k1,k2,k3⟩:=yq.ok yp;rw[k1];show PV.aw [PV.cg ((List.range 64).filterMap fun u=>gz (Ls u) u),.int .i64 0]=PV.aw [PV.cg (nT (Ls 0)),.int .i64 0];have:(List.range 64).filterMap (fun u=>gz (Ls u) u)=nT (Ls 0):=by
     unfold nT;refine TN fun u hu=>?_;have hu:u<64:=Kch.1 hu;have hf:(Ls 0).filter (dB u)=(Ls u).filter (dB u):=by have h1:=k3 u 0 (by omega) (by omega);have h2:=k3 u u (Kac _) (by omega);rw[h1,h2]
     have c1:=k2 u hu;have c2:(cH (Ls 0) u).2<=1:=by rw[zB,List.countP_eq_length_filter,hf,<-List.countP_eq_length_filter,<-zB];exact c1
     rw[SH c1,SH c2,hf]
    rw[this]
   |some p=>rw[yq.er p yp];rfl
  rwa[dw]at hG
def iN(p:List Tm)(cs:List (List Tm)):List Tm×List (List Tm):=(b8 p (dO p),cs.map (fun c=>b8 c (dO p)))
def Ri(p:List Tm)(cs:List (List Tm)):Bool:=BR 100 10 p&&(Ci p&&(decide (0<p.length)&&(decide (p.length<=10)&&(decide (cs.length<=10)&&(cs.all (fun c=>BR 100 10 c&&decide (c.length<=10))&&(decide (rs (dO p)+1<=100)&&(BR 100 10 (iN p cs).1&&(decide (bh (iN p cs).1=false)&&(decide (0<(iN p cs).1.length)&&(decide ((iN p cs).1.length<=10)&&(decide (0<=Qv (iN p cs).1)&&((iN p cs).2.all (fun c=>BR 100 10 c&&(decide (c.length<=10)&&decide (bh c=false)))))))))))))))
theorem Is{p:List Tm}{cs:List (List Tm)}(h:Ri p cs=true):Qc Tryz.prog 66 [PV.aj p,PV.bX cs] (· = .aw [PV.el (iN p cs),.int .i64 0]):=by
 simp only[Ri,Kat,decide_eq_true_eq,Kay]at h;obtain⟨h1,h2,h3,h4,h5,h6,h7,h8,h9,bI,ct,bO,bV⟩:=h;have hlen:(iN p cs).2.length=cs.length:=by simp[iN]
 refine YD (p:=p) (q:=(iN p cs).1) (cs:=cs) (ds:=(iN p cs).2) (a:=dO p) hlen (by omega) ?_ (fun i hi=>?_) ?_ bI ?_ ?_
 ·exact RA (K:=100) (E:=10) (dm h1) (tG h2) (Kbf.1 h3) (by omega) (by omega) (by omega)
 ·have hc:=h6 _ (Kag hi);have e:(iN p cs).2.getD i []=b8 cs[i] (dO p):=by simp[iN,hi]
  rw[e];exact Cs (K:=100) (E:=10) (dm hc.1) h7 (by omega) (by omega) (by omega)
 ·have:=DS (p:=(iN p cs).1) (E:=10) (fun t ht=>((dm h8) t ht).m) (by omega)
  rwa[h9]at this
 ·have:=Ry (p:=(iN p cs).2) (f:=61) (g:=bh) (fun t ht=>by have hc:=bV t ht;exact DS (E:=10) (fun s hs=>((dm hc.1) s hs).m) (by omega)) (by omega)
  rwa[show(iN p cs).2.any bh=false from by rw[KbC];intro t ht;have hc:=bV t ht;simp[hc.2.2]]at this
 ·have:=TH (p:=(iN p cs).1) (K:=100) (E:=10) (dm h8) (by omega)
  rwa[show decide (Qv (iN p cs).1<0)=false from decide_eq_false (by omega)]at this
abbrev eR:List Tm:=[(1,[])]
abbrev jM:List Tm:=[(1,[1])]
abbrev mi:List Tm:=[(1,[0,1]),(-1,[1])]
abbrev o7:List Tm:=[(1,[0,1]),(1,[1])]
abbrev gP:List Tm:=[(1,[1,1]),(-1,[])]
abbrev nC:List Tm:=[(1,[0,2])]
abbrev E0:List Tm×List (List Tm):=(mi,[eR,[]])
abbrev E1:List Tm×List (List Tm):=(o7,[[],eR])
abbrev E2:List Tm×List (List Tm):=(jM,[[(mkRat (-1) 2,[])],[(mkRat 1 2,[])]])
theorem ak3:iN mi (ew 2 0)=E0:=by decide+kernel
theorem ak4:iN o7 (ew 2 1)=E1:=by decide+kernel
theorem ak5:iN [(2,[1])] (cD eR eR E1.2 E0.2)=E2:=by decide+kernel
theorem aeC:Qc Tryz.prog 27 [PV.bX [mi,o7]] (· = .aw [PV.cg [E0,E1],.int .i64 0]):=by
 have h:=ahi (ps:=[mi,o7]) (R:=fun i=>if i=0 then E0 else E1) (by simp) (fun i hi=>by
  have:i=0∨i=1:=by simp at hi;omega
  rcases this with rfl|rfl
  ·have:=Is (p:=mi) (cs:=ew 2 0) (by decide+kernel)
   rwa[ak3]at this
  ·have:=Is (p:=o7) (cs:=ew 2 1) (by decide+kernel)
   rwa[ak4]at this) (fun i hi=>by split<;>simp)
 exact h
theorem ahy:mW mi 1 1 2 [] o7 0=some (eR,[(2,[1])],1):=by decide+kernel
theorem ajM:Qc Tryz.prog 57 [PV.aj o7,PV.aj mi,.int .i64 (1:Nat)] (· = .aw [PV.aj eR,PV.aj [(2,[1])],.int .i64 (1:Nat),.int .i64 0]):=by
 have h:=Gk (f:=o7) (g:=mi) (v:=1) (d:=1) (N:=2) (K:=100) (E:=10) (M:=10) (tG (by decide+kernel)) (tG (by decide+kernel)) (dm (by decide+kernel)) (by omega) (by simp) (by decide+kernel) (by decide+kernel) (by decide+kernel) (fun k hk=>by
  have:k=0∨k=1:=by omega
  rcases this with rfl|rfl<;>exact⟨dm (by decide+kernel),dm (by decide+kernel)⟩) (by simp) (by omega) (by omega) (by omega) (by omega) (by omega) (by omega) (by omega)
 rwa[An,ahy]at h
theorem ahz:cA mi=eR:=by decide+kernel
theorem ajN:cx eR 1=eR:=by decide+kernel
theorem Q9f:Qc Tryz.prog 69 [PV.el E1,PV.el E0,.int .i64 (1:Nat)] (· = .aw [PV.el E2,.int .i64 0]):=by
 refine NP (f:=E1) (g:=E0) (v:=1) (q:=eR) (r:=[(2,[1])]) (c:=eR) (n:=1) (x:=E2) (e:=0) (by simp) rfl ajM ?_ ?_ ?_ ?_ ?_ ?_
 ·exact Gg (K:=100) (E:=10) (dm (by decide+kernel)) (by simp)
 ·have h:=IJ (p:=eR) (n:=1) (K:=100) (E:=10) (L:=10) (by omega) (dm (by decide+kernel)) (fun i hi=>by
   have:i=0∨i=1:=by omega
   rcases this with rfl|rfl<;>exact⟨dm (by decide+kernel),by decide+kernel⟩) (by simp) (by omega) (by omega) (by omega) (by omega)
  rw[ajN]at h;show Qc Tryz.prog _ [PV.aj (cA mi),_] _;rw[ahz];exact h
 ·intro y hy;have:y=[]∨y=eR:=by simpa using hy
  rcases this with rfl|rfl<;>exact rK (K:=100) (E:=10) (dm (by decide+kernel)) (dm (by decide+kernel)) (by omega) (by simp) (by simp) (by simp) (by simp) (by omega)
 ·intro y hy;have:y=eR∨y=[]:=by simpa using hy
  rcases this with rfl|rfl<;>exact rK (K:=100) (E:=10) (dm (by decide+kernel)) (dm (by decide+kernel)) (by omega) (by simp) (by simp) (by simp) (by simp) (by omega)
 ·intro y hy z hz;have h1:y=[]∨y=eR:=by simpa using hy
  have h2:z=eR∨z=[]:=by simpa using hz
  rcases h1 with rfl|rfl<;>rcases h2 with rfl|rfl<;>exact G2 (K:=100) (E:=10) (dm (by decide+kernel)) (dm (by decide+kernel)) (by omega) (by omega) (by omega) (Kaw (by decide+kernel:_<=10) (by omega)) (Kaw (by decide+kernel:_<=10) (by omega))
 ·have h:=Is (p:=[(2,[1])]) (cs:=cD eR eR E1.2 E0.2) (by decide+kernel)
  rwa[ak5]at h
theorem Rj:∀x∈[E0,E1,E2],PB 100 10 x.1/\x.1.length<=2^30:=by
 intro x hx;have:x=E0∨x=E1∨x=E2:=by simpa using hx
 rcases this with rfl|rfl|rfl<;>exact⟨dm (by decide+kernel),by simp⟩
theorem aeD:Qc Tryz.prog 29 [PV.cg [E0,E1],.int .i64 (0:Nat),.int .i64 (1:Nat)] (· = .aw [PV.cg [E0,E2],.int .i64 0]):=by
 have h:=ahh (l:=[E0,E1]) (at_:=0) (v:=1) (K:=100) (E:=10) (R:=fun _=>E2) (by simp) (by simp) (fun x hx=>Rj x (by simp at hx ⊢;rcases hx with h|h<;>simp[h])) (fun i hi h0 hm=>by
  have:i=1:=by simp at hi;omega
  subst this;exact Q9f) (fun _ _ _=>by simp)
 have e:eI [E0,E1] 0 1 (fun _=>E2) 2=[E0,E2]:=by decide+kernel
 have h2:([E0,E1]:List (List Tm×List (List Tm))).length=2:=rfl;rw[h2,e]at h;exact h
theorem DJ{l:List (List Tm×List (List Tm))}{v:Nat}{a:Int}{n:Nat}(hl:∀x∈l,x∈[E0,E1,E2])(gm:l.length<=100)(hv:v<64)(h:cH l v=(a,n)):Qc Tryz.prog 28 [PV.cg l,.int .i64 v] (· = .aw [.int .i64 a,.int .i64 n]):=by
 have:=P0 (l:=l) (v:=v) (K:=100) (E:=10) hv (fun x hx=>Rj x (hl x hx)) (by omega) (by omega) gm
 rwa[h]at this
theorem ajO:∀v,v<64->2<=v->cH [E0,E1] v=(-1,0):=by decide+kernel
def AA(v:Nat):Option (List Tm×List (List Tm)):=if v=0 then some E2 else if v=1 then some E0 else none
theorem ahA:Qc Tryz.prog 8 [PV.bX [mi,o7]] (· = .aw [PV.cg [E2,E0],.int .i64 0]):=by
 have h:=ahH (list:=[mi,o7]) (Ls:=fun v=>if 2<=v then [E0,E1]else [E0,E2]) (K:=AA) aeC (fun v hv=>?_) (fun v e h=>?_)
 ·have e:(List.range 64).filterMap AA=[E2,E0]:=by decide+kernel
  rw[e]at h;exact h
 ·by_cases h2:2<=v
  ·refine⟨0,?_⟩;have e1:AA v=none:=by unfold AA;rw[if_neg (by omega),if_neg (by omega)]
   rw[e1];simp only[h2,if_true,show 2<=v+1 by omega];exact jj.none _ (-1) (DJ (by simp) (by simp) hv (ajO v hv h2))
  ·have:v=0∨v=1:=by omega
   rcases this with rfl|rfl
   ·refine⟨0,?_⟩;exact jj.one [E0,E2] 1 (by simp) (DJ (by simp) (by simp) hv (by decide+kernel))
   ·refine⟨1,?_⟩;exact jj.more [E0,E1] [E0,E2] [E0,E2] (0:Nat) (2:Nat) (some E0) 0 (DJ (by simp) (by simp) hv (by decide+kernel)) (by simp) aeD (jj.one [E0,E2] 0 (by simp) (DJ (by simp) (by simp) hv (by decide+kernel)))
 ·unfold AA at h;split at h
  ·cases h;simp
  ·split at h
   ·cases h;simp
   ·cases h
abbrev nB:List Tm:=[(1,[0,1])]
abbrev Az(f _:List Tm):Option (List Tm×List Tm×Nat):=mW gP 1 1 3 [] f 0
theorem aeE:mW gP 1 1 3 [] nC 0=some ([(1,[1,1]),(1,[])],eR,2):=by decide+kernel
instance ap0 : DecidableEq qT := instDecidableEqProd
theorem aeF:tM [gP] Az 1 ([0],[[]],nC)=some ([2],[[(1,[1,1]),(1,[])]],eR):=by decide+kernel
theorem Gf:uO 100 10 gP:=⟨dm (by decide+kernel),(tG (by decide+kernel)).Nm (dm (K:=100) (E:=10) (by decide+kernel)) (by omega),by simp⟩
theorem ak6:uO 100 10 nC:=⟨dm (by decide+kernel),(tG (by decide+kernel)).Nm (dm (K:=100) (E:=10) (by decide+kernel)) (by omega),by simp⟩
theorem ahB:QW 60 61 58 59 57 41 gP 0 (Az nC gP) ([0],[[]],nC):=by
 have hm:Qv gP=1:=by decide+kernel
 have hi:cA gP=jM:=by decide+kernel
 have hd:Az nC gP=some ([(1,[1,1]),(1,[])],eR,2):=aeE;refine⟨?_,?_,?_,fun q r n h=>?_,fun q r n h k hk na=>?_,fun q r n h k hk na=>?_⟩
 ·exact wV (K:=100) (E:=10) Gf.b (by simp)
 ·rw[hm];have h:=Gk (f:=nC) (g:=gP) (v:=1) (d:=1) (N:=3) (K:=100) (E:=10) (M:=10) (tG (by decide+kernel)) (tG (by decide+kernel)) (dm (by decide+kernel)) (by omega) (by simp) (by decide+kernel) (by decide+kernel) (by decide+kernel) (fun k hk=>by
   have:k=0∨k=1∨k=2:=by omega
   rcases this with rfl|rfl|rfl<;>exact⟨dm (by decide+kernel),dm (by decide+kernel)⟩) (by simp) (by omega) (by omega) (by omega) (by omega) (by omega) (by omega) (by omega)
  rwa[An]at h
 ·exact Gg (K:=100) (E:=10) Gf.b (by simp)
 ·rw[hd]at h;obtain⟨rfl,rfl,rfl⟩:[(1,[1,1]),(1,[])]=q/\eR=r/\2=n:=by simpa using h
  rw[hi];exact IJ (p:=jM) (n:=2) (K:=100) (E:=10) (L:=10) (by omega) (dm (by decide+kernel)) (fun i hi=>by
   have:i=0∨i=1∨i=2:=by omega
   rcases this with rfl|rfl|rfl<;>exact⟨dm (by decide+kernel),by decide+kernel⟩) (by simp) (by omega) (by omega) (by omega) (by omega)
 ·simp at hk;omega
 ·simp at hk;omega
theorem acB:Qc Tryz.prog 23 [PV.aj nC,PV.bX [gP]] (· = .aw [PV.BW ([2],[[(1,[1,1]),(1,[])]],eR),.int .i64 0]):=by
 have hc:sj (-1) [gP]=true:=by decide+kernel
 have hR:=OY (gs:=[gP]) (by simp) (fun p hp=>by rw[KaO.1 hp];exact Gf) (by omega) (by omega);rw[hc]at hR;have h:=aeu (p:=nC) (gs:=[gP]) (D:=Az) (G:=fun i s=>i=0∨s=([0],[[]],nC)) (by simp) (aev ak6 (by omega)) hR (.inr rfl) (fun i hi s hs=>by
  have:i=0:=by simp at hi;omega
  subst this;have:s=([0],[[]],nC):=hs.resolve_left (by omega);subst this;exact⟨ahB,fun s' _=>.inl rfl⟩)
 have e:tM [gP] Az [gP].length (List.replicate [gP].length 0,List.replicate [gP].length [],nC)=some ([2],[[(1,[1,1]),(1,[])]],eR):=aeF;rw[e]at h;exact h
theorem alH:vM 0=jM:=by decide+kernel
theorem alI:vM 1=nB:=by decide+kernel
theorem ajP:fM nB jM=mi:=by decide+kernel
theorem ajQ:Q8 nB jM=o7:=by decide+kernel
theorem ak7:mM nB nB=nC:=by decide+kernel
theorem ak8:mM jM nB=[(1,[1,1])]:=by decide+kernel
theorem ajR:dk ((1:Int):Rat)=eR:=by decide+kernel
theorem alG:fM [(1,[1,1])] eR=gP:=by decide+kernel
theorem xO{p:List Tm}(h:Ci p=true):NZ p:=(tG h).z
theorem ahC:Qc Tryz.prog 7 [] (· = .bool true):=by
 have hx:Qc Tryz.prog 20 [.int .i64 (0:Nat)] (· =PV.aj jM):=by have:=SD (v:=0) (by omega);rwa[show vM ((0:Nat):Int)=jM from alH]at this
 have hy:Qc Tryz.prog 20 [.int .i64 (1:Nat)] (· =PV.aj nB):=by have:=SD (v:=1) (by omega);rwa[show vM ((1:Nat):Int)=nB from alI]at this
 have h1:=CL (p:=nB) (q:=jM) (K:=100) (E:=10) (dm (by decide+kernel)) (dm (by decide+kernel)) (xO (by decide+kernel)) (by omega) (by omega) (by omega) (by simp) (by simp);rw[ajP]at h1;have h2:=zk (p:=nB) (q:=jM) (K:=100) (E:=10) (dm (by decide+kernel)) (dm (by decide+kernel)) (by omega) (by omega) (by simp) (by simp);rw[ajQ]at h2;have h3:=qy (p:=nB) (q:=nB) (K:=100) (E:=10) (dm (by decide+kernel)) (dm (by decide+kernel)) (xO (by decide+kernel)) (xO (by decide+kernel)) (by omega) (by simp) (by simp) (by simp) (by simp);rw[ak7]at h3;have h4:=qy (p:=jM) (q:=nB) (K:=100) (E:=10) (dm (by decide+kernel)) (dm (by decide+kernel)) (xO (by decide+kernel)) (xO (by decide+kernel)) (by omega) (by simp) (by simp) (by simp) (by simp);rw[ak8]at h4;have h5:=GS (a:=((1:Int):Rat)) (k:=1) (by have:((1:Int):Rat)=1:=rfl;rw[this];exact ob) (by omega);rw[ajR]at h5;have sG:=vb (x:=1) (by omega) (by omega);have h6:=CL (p:=[(1,[1,1])]) (q:=eR) (K:=100) (E:=10) (dm (by decide+kernel)) (dm (by decide+kernel)) (xO (by decide+kernel)) (by omega) (by omega) (by omega) (by simp) (by simp);rw[alG]at h6;have h7:=Gp (p:=jM) (q:=jM) (K:=100) (E:=10) (dm (by decide+kernel)) (dm (by decide+kernel)) (by omega) (by omega) (by simp) (by simp);rw[decide_eq_true (p:=jM=jM) rfl]at h7;have h8:=Gp (p:=eR) (q:=eR) (K:=100) (E:=10) (dm (by decide+kernel)) (dm (by decide+kernel)) (by omega) (by omega) (by simp) (by simp);rw[decide_eq_true (p:=eR=eR) rfl]at h8;have hM:=ahA;obtain⟨c2,iT⟩:∃c2,E2=(jM,c2):=⟨_,rfl⟩
 obtain⟨c0,vY⟩:∃c0,E0=(mi,c0):=⟨_,rfl⟩
 rw[iT,vY]at hM;have hR:=acB;generalize([[(1,[1,1]),(1,[])]]:List (List Tm))=qq at hR;generalize uv:([(1,[1,1])]:List Tm)=mm at *
 clear iT vY uv;have n1:jM.length=1:=rfl;generalize jM=vx at *
 generalize nB=vy at *
 generalize mi=p0 at *
 generalize o7=p1 at *
 generalize nC=yy at *
 generalize gP=gg at *
 generalize eR=on at *
 generalize((1:Int):Rat)=r1 at *
 refine Qf Qj Tryz.func7 rfl akZ (by simp[c7]) fun C hP=>?_;simp only[c7,Zo,Zg,Zm,Zc,Zf,Zl,Zh,Zs,Zi,Zb,Zk,Zn,Zu,Zq,Zr,Zz];refine Sz0 ?_;refine Qa hP hx rfl rfl rfl ?_;refine Sz0 ?_;refine Qa hP hy rfl rfl rfl ?_;refine Sz0 ?_;refine Qa hP h1 rfl rfl rfl ?_;refine Sz0 ?_;refine Qa hP h2 rfl rfl rfl ?_;refine Sz0 ?_;refine ig hP hM Cg rfl ?_;refine eK ?_;refine Qa hP h3 rfl rfl rfl ?_;refine eK ?_;refine Qa hP h4 rfl rfl rfl ?_;refine eK ?_;refine Qa hP sG rfl rfl rfl ?_;refine eK ?_;refine Qa hP h5 rfl rfl rfl ?_;refine eK ?_;refine Qa hP h6 rfl rfl rfl ?_;refine eK ?_;refine ig hP hR Cg rfl ?_;refine eK ?_;refine Qa hP h7 rfl rfl rfl ?_;refine eK ?_;refine Qa hP sG rfl rfl rfl ?_;refine eK ?_;refine Qa hP h5 rfl rfl rfl ?_;refine eK ?_;refine Qa hP h8 rfl rfl rfl ?_;refine eK ?_;exact Qd rfl rfl
def c3:aA:=⟨32,[.t 2],Zr (Zo (.mv 2 (.c (.bool false))) .nil)<| .seq (Zr (Zm 7 0<|Zq 8 false 6 [.t 7,.c (Zz 3),.c (Zz 2)]<|Zu 9 8 .nil)<| .cond (.t 9) (Zr (Zq 10 false 7 []<|Zm 2 10 .nil) .ret) .skip)<|Zr (Zm 12 0<|Zq 13 false 8 [.t 12]<|Zm 11 13<|Zo (.ext 14 (.t 11) 0)<|Zo (.ext 15 (.t 11) 1)<|Zm 3 14<|Zm 4 15 .nil)<|Zr (Zm 17 0<|Zq 18 false 9 [.t 17]<|Zm 16 18<|Zo (.ext 19 (.t 16) 0)<|Zo (.ext 20 (.t 16) 1)<|Zm 5 19<|Zm 6 20 .nil)<|Zr (Zm 21 3<|Zm 22 5<|Zq 23 false 10 [.t 21,.t 22]<|Zm 24 23<|Zg 24 true (.mv 25 (.t 4))<|Zg 24 true (.mv 26 (.t 6))<|Zg 24 true (.bin 27 .eql false (.t 25) (.t 26))<|Zo (.pick 28 (.t 24) (.t 27) (.c (.bool false)))<|Zm 29 28<|Zg 29 true (.call (some 30) false (.c (.fn 7 [] [])) [])<|Zo (.pick 31 (.t 29) (.t 30) (.c (.bool false)))<|Zm 2 31 .nil) .ret⟩
theorem OF{l:List aB}{x:aB}(h:x∈nT l):x∈l:=by unfold nT at h;obtain⟨u,_,hu⟩:=KbR.1 h;exact(H6 hu).1
theorem oQ.b{m:Nat}{x:aB}(h:oQ m x)(hm:m<=3):PB 900000 5000 x.1/\x.1.length<=4000/\x.2.length<=3/\∀y∈x.2,PB 900000 5000 y/\au y/\y.length<=4000:=by have h6:=FM;refine⟨h.lv.pb.mono (by omega) (by omega),h.lv.len,by rw[h.lv.k];exact hm,fun y hy=>?_⟩;obtain⟨c1,c2,c3⟩:=h.lv.c y hy;exact⟨c1.PB.mono (by omega) (by omega),c2,qE c3⟩
theorem aeG(l:List aB):(nT l).length<=64:=by unfold nT;exact Kaw (Kcb _ _) (by simp)
def cv(φ:List Int->Rat):List (List Tm)->List (List Tm)->Rat
 |c::cs,p::ps=>aX φ (Q4 c p)+cv φ cs ps
 |_,_=>0
def BU(φ:List Int->Rat)(c:List Tm):List Int->Rat:=fun n=>aX (fun m=>φ (bC m n)) c
theorem DK(φ:List Int->Rat)(c x:List Tm):aX φ (Q4 c x)=aX (BU φ c) x:=by rw[ie,xu];rfl
theorem OG(φ:List Int->Rat)(a:Rat):∀(cs ps:List (List Tm)),(∀c∈cs,au c)->cv φ (cs.map (fun c=>b8 c a)) ps=a*cv φ cs ps
 | [],ps,_=>by simp only[Kbt,cv];grind
 |c::cs,[],_=>by simp only[Kba,cv];grind
 |c::cs,p::ps,h=>by have ih:=OG φ a cs ps fun x hx=>h x (by simp[hx]);rw[Kba,cv,cv,ih,ie,G5 _ (h c (by simp)).c,<-ie];grind
theorem Rk(φ:List Int->Rat){c q:List Tm}(nc:au c)(nq:au q):∀(a b ps:List (List Tm)),a.length=b.length->(∀x∈a,au x)->(∀x∈b,au x)->(∀x∈ps,au x)->cv φ (cD c q a b) ps=cv (BU φ c) a ps-cv (BU φ q) b ps
 | [],[],ps,_,_,_,_=>by simp only[cD,List.zipWith_nil_left,cv];grind
 | [],_::_,_,h,_,_,_=>by simp at h
 |_::_,[],_,h,_,_,_=>by simp at h
 |u::a,w::b,[],_,_,_,_=>by simp only[cD,List.zipWith_cons_cons,cv];grind
 | u::a,w::b,p::ps,h,ha,hb,hp=>by
  have ih:=Rk φ nc nq a b ps (by simpa using h) (fun x hx=>ha x (by simp[hx])) (fun x hx=>hb x (by simp[hx])) (fun x hx=>hp x (by simp[hx]));have nu:=ha u (by simp);have nw:=hb w (by simp);have np:=hp p (by simp);have e:cD c q (u::a) (w::b)=fM (Q4 c u) (Q4 q w)::cD c q a b:=rfl;have n1:=dC nc.s nu.s;have n2:=dC nq.s nw.s;have e1:aX φ (Q4 (fM (Q4 c u) (Q4 q w)) p)=aX (BU φ c) (Q4 u p)-aX (BU φ q) (Q4 w p):=by rw[ie,Hu _ n1.c n2,<-ie,<-ie,CV nc nu np,CV nq nw np,DK φ c,DK φ q]
  rw[e,cv,cv,cv,ih,e1];grind
structure CB(ps:List (List Tm))(x:aB):Prop where
 k:x.2.length=ps.length
 n:au x.1
 c:∀y∈x.2,au y
 b:∀y∈x.2,∃K E,PB K E y
 e:∀φ,aX φ x.1=cv φ x.2 ps
theorem CB.wK{ps:List (List Tm)}{p:List Tm}{cs:List (List Tm)}(h:CB ps (p,cs)):CB ps (dh p cs):=by
 refine⟨by simp[dh];exact h.k,qB h.n.s _,fun y hy=>?_,fun y hy=>?_,fun φ=>?_⟩
 ·obtain⟨c,hc,rfl⟩:=KaE.1 hy;exact qB (h.c c hc).s _
 ·obtain⟨c,hc,rfl⟩:=KaE.1 hy;obtain⟨K,E,hb⟩:=h.b c hc;exact⟨_,E,xf hb (Kac _)⟩
 ·show aX φ (b8 p (eP p))=cv φ (cs.map (fun c=>b8 c (eP p))) ps;rw[G5 _ h.n.c,OG φ _ _ _ h.c,h.e φ]
section
variable {m j Tf Tg v : Nat} {f g : aB} {ps : List (List Tm)}
theorem eE.eqn(h:eE m j Tf Tg v f g){q r:List Tm}{n:Nat}(he:lU f.1 g.1=some (q,r,n)):Q4 (cx (cA g.1) n) f.1=Q8 (Q4 q g.1) r:=by obtain⟨_,_,_,_,_,n6,_,n8,_⟩:=h.num;unfold lU at he;rw[n8]at he;obtain⟨e1,e2,_,_⟩:=Dw (f:=f.1) _ 0 he (fun h=>absurd h (by omega));rw[h.yM.1,<-n6,e1,e2];exact Rf h.hf.n h.hg.n n
theorem eE.cb(h:eE m j Tf Tg v f g)(hp:∀p∈ps,au p)(hf:CB ps f)(hg:CB ps g){q r:List Tm}{n:Nat}(he:lU f.1 g.1=some (q,r,n)):CB ps (dW f g).1:=by
 have o:=h.out he;have heq:=h.eqn he;obtain⟨i1,i2,i3,i4⟩:=o.ni;unfold dW;rw[he];refine CB.wK ⟨?_,o.nr,fun y hy=>?_,fun y hy=>?_,fun φ=>?_⟩
 ·show(cD _ q f.2 g.2).length=_;rw[cD,KbV,hf.k,hg.k,Nat.min_self]
 ·obtain⟨u,hu,w,hw,rfl⟩:=DH hy;obtain⟨_,_,m1,m2⟩:=o.yg h hu hw;exact vj m1 m2
 ·obtain⟨u,hu,w,hw,rfl⟩:=DH hy;obtain⟨s1,s2,_,_⟩:=o.yg h hu hw;exact⟨_,_,((s1.mono (Kac _) (Kac _) (by omega:nL j*tL j+eL j<=tL j+nL j*tL j+eL j)).wM s2).PB⟩
 ·show aX φ r=cv φ (cD _ q f.2 g.2) ps;rw[Rk φ (tz i2 n) o.nq _ _ _ (by rw[hf.k,hg.k]) hf.c hg.c hp,<-hf.e,<-hg.e,<-DK,<-DK,heq,oF (dC o.nq.s h.hg.n.s).c o.nr.c];grind
end
theorem eS.cb{ps:List (List Tm)}(hp:∀p∈ps,au p){v n:Nat}{l:List aB}{o:Except Int (List aB)}(h:eS v n l o):(∀x∈l,CB ps x)->(∀l',o= .ok l'->∀x∈l',CB ps x)/\∀e,o= .error e->e=4∨e=13/\∃x,CB ps x/\x.1≠[]/\Qv x.1<0:=by
 induction h with
 |stop=>exact fun h=>⟨fun l' e=>(by cases e;exact h),fun e he=>(by cases he)⟩
 | @fail l hG _ hb=>
  refine fun h=>⟨fun l' e=>(by cases e),fun e he=>?_⟩
  cases he;have h0:=(rM l v).2.2 hb;have bz:=hG.bz;have aO:¬(dJ l v=aS l v∨Qv (l.getD (dJ l v) default).1≠v):=fun hc=>h0 (by unfold lP;rw[if_pos hc]);rw[fA hb]at aO;simp only[not_or,Decidable.not_not]at aO;obtain⟨m,j,Tf,Tg,hD⟩:=hG.dv _ hb aO.1 aO.2;have e2:=hG.err hb aO.1 aO.2;rw[fA bz]at e2;rw[e2]at h0⊢;cases hd:lU l[dJ l v].1 l[aS l v].1 with
  |none=>left;unfold dW;rw[hd]
  | some d=>
   obtain⟨q,r,n⟩:=d;have hc:=hD.cb hp (h _ (Kag hb)) (h _ (Kag bz)) hd;have Mm:(dW l[dJ l v] l[aS l v]).2=eU (dW l[dJ l v] l[aS l v]).1:=by unfold dW;rw[hd]
   rw[Mm]at h0⊢;generalize(dW l[dJ l v] l[aS l v]).1=x at *
   unfold eU at h0⊢;split
   ·exact .inl rfl
   ·rename_i h1;rw[if_neg h1]at h0;split
    ·rename_i h2;exact .inr ⟨rfl,x,hc,Kbf.1 h2.1,h2.2⟩
    ·rename_i h2;rw[if_neg h2]at h0;exact absurd rfl h0
 | @step l n o hG _ hb _ ih=>
  refine fun h=>ih fun y hy=>?_;have bz:=hG.bz;rcases DX hy hb bz with⟨gX,_⟩|⟨i,hi,h1,h2,rfl,h4,h5⟩
  ·exact h y gX
  ·obtain⟨m,j,Tf,Tg,hD⟩:=hG.dv i hi h1 h2;cases hd:lU l[i].1 l[aS l v].1 with
   |none=>unfold dW at h4;rw[hd]at h4;cases h4
   |some d=>obtain⟨q,r,n⟩:=d;exact hD.cb hp (h _ (Kag hi)) (h _ (Kag bz)) hd
theorem Mk.cb{ps:List (List Tm)}(hp:∀p∈ps,au p){v:Nat}{l:List aB}{o:Except Int (List aB)}(h:Mk v l o):(∀x∈l,CB ps x)->(∀l',o= .ok l'->∀x∈l',CB ps x)/\∀e,o= .error e->e=4∨e=13/\∃x,CB ps x/\x.1≠[]/\Qv x.1<0:=by
 induction h with
 |done=>exact fun h=>⟨fun l' e=>(by cases e;exact h),fun e he=>(by cases he)⟩
 |bad _ hS=>exact fun h=>hS.cb hp h
 |next _ hS _ ih=>exact fun h=>ih ((hS.cb hp h).1 _ rfl)
theorem P4(φ:List Int->Rat):∀(ps:List (List Tm))(i:Nat)(hi:i<ps.length),(∀p∈ps,au p)->cv φ (ew ps.length i) ps=aX φ ps[i]
 | p::ps,0,_,hp=>by
  have e:ew (p::ps).length 0=dk ((1:Int):Rat)::List.replicate ps.length []:=by simp[ew,Kbq]
  have hz:∀(qs:List (List Tm)),cv φ (List.replicate qs.length []) qs=0:=fun qs=>by
   induction qs with
   |nil=>rfl
   |cons q qs ih=>rw[KaW,Kbq,cv,ih,ie,iy];grind
  have hn:=hp p (by simp);rw[e,cv,hz];have e2:Q4 (dk ((1:Int):Rat)) p=p:=Om hn;rw[e2];simp only[KcE];grind
 |p::ps,i+1,hi,hp=>by
  have e:ew (p::ps).length (i+1)=[]::ew ps.length i:=by simp[ew,Kbq]
  have ih:=P4 φ ps i (by simpa using hi) fun q hq=>hp q (by simp[hq]);rw[e,cv,ih,ie,iy];simp only[List.getElem_cons_succ];grind
theorem Rl{ps:List (List Tm)}(hp:∀p∈ps,au p){i:Nat}(hi:i<ps.length):CB ps (kR ps i):=by
 rw[xJ hi];refine CB.wK ⟨by simp[ew],hp _ (Kag hi),fun y hy=>?_,fun y hy=>?_,fun φ=>(P4 φ ps i hi hp).symm⟩
 ·rcases Dh hy with rfl|rfl
  ·exact au.nil
  ·exact w9 1
 ·rcases Dh hy with rfl|rfl
  ·exact⟨0,0,PB.nil _ _⟩
  ·exact⟨_,_,SZ.FC.PB⟩
theorem wQ.cb{ps:List (List Tm)}(hp:∀p∈ps,au p){o:Except Int (List aB)}(h:wQ ps o):(∀l',o= .ok l'->∀x∈l',CB ps x)/\∀e,o= .error e->e=4∨e=13/\∃x,CB ps x/\x.1≠[]/\Qv x.1<0:=by
 obtain⟨b1,b2,b3⟩:=Hf ps;cases h with
 | bad hb=>
  refine⟨fun l' e=>(by cases e),fun e he=>?_⟩;cases he;have h0:=b3 hb;have hc:=Rl hp hb;generalize kR ps (kv ps)=x at *
  unfold eU at h0⊢;split
  ·exact .inl rfl
  ·rename_i h1;rw[if_neg h1]at h0;split
   ·rename_i h2;exact .inr ⟨rfl,x,hc,Kbf.1 h2.1,h2.2⟩
   ·rename_i h2;rw[if_neg h2]at h0;exact absurd rfl h0
 | go hb hM _=>
  refine hM.cb hp fun x hx=>?_;unfold gh at hx;obtain⟨i,hi,hx⟩:=Kaq.1 hx;have hi:i<ps.length:=Kch.1 hi;unfold rX at hx;split at hx
  ·rw[KaO]at hx;subst hx;exact Rl hp hi
  ·cases hx
end Go.Proofs.YtdjoomkeehihmaaGreat
namespace Go.Proofs.YtdjoomkeehihmaaGreat
open Go Go.FW
def c4:aA:=⟨80,[.t 2],Zr (Zo (.mv 2 (.c (.bool false))) .nil)<| .seq (Zr (Zm 7 0<|Zq 8 false 6 [.t 7,.c (Zz 3),.c (Zz 2)]<|Zu 9 8 .nil)<| .cond (.t 9) (Zr (Zq 10 false 7 []<|Zm 2 10 .nil) .ret) .skip)<|Zr (Zm 12 0<|Zq 13 false 8 [.t 12]<|Zm 11 13<|Zo (.ext 14 (.t 11) 0)<|Zo (.ext 15 (.t 11) 1)<|Zm 3 14<|Zm 4 15 .nil)<| .seq (Zr (Zm 16 4<|Zk 17 .neq 16 0 .nil)<| .cond (.t 17) (Zr (Zm 18 3<|Zn 19 18<|Zk 20 .eql 19 0<|Zm 21 20<|Zg 21 true (.mv 22 (.t 4))<|Zg 21 true (.bin 23 .eql false (.t 22) (.c (Zz 13)))<|Zg 21 true (.mv 24 (.t 23))<|Zg 24 false (.mv 25 (.t 4))<|Zg 24 false (.bin 26 .eql false (.t 25) (.c (Zz 4)))<|Zg 21 true (.pick 27 (.t 24) (.c (.bool true)) (.t 26))<|Zo (.pick 28 (.t 21) (.t 27) (.c (.bool false)))<|Zm 29 28<|Zg 29 true (.call (some 30) false (.c (.fn 7 [] [])) [])<|Zo (.pick 31 (.t 29) (.t 30) (.c (.bool false)))<|Zm 2 31 .nil) .ret) .skip)<|Zr (Zo (.mv 5 (.c .aa)) .nil)<| .seq (Zr (Zc 6 0 .nil)<| .block 0<| .loop<| .seq (Zr (Zm 32 6<|Zm 33 3<|Zn 34 33<|Zb 35 .lss 32 34 .nil)<| .cond (.t 35) .skip (.exit 0))<| .seq (.block 1<| .seq (Zr (Zm 38 3<|Zm 39 6<|Zi 40 2 38 39<|Zf 41 1 40<|Zl 42 1 41<|Zn 43 42<|Zm 44 0<|Zn 45 44<|Zb 46 .neq 43 45<|Zm 47 46<|Zg 47 false (.mv 48 (.t 3))<|Zg 47 false (.mv 49 (.t 6))<|Zg 47 false (.idx 50 2 (.t 48) (.t 49))<|Zg 47 false (.cE 51 1 (.t 50))<|Zg 47 false (.ld 52 1 false (.t 51))<|Zg 47 false (.mv 53 (.t 0))<|Zg 47 false (.mv 55 (.t 3))<|Zg 47 false (.mv 56 (.t 6))<|Zg 47 false (.idx 57 2 (.t 55) (.t 56))<|Zg 47 false (.cE 58 0 (.t 57))<|Zg 47 false (.ld 59 1 false (.t 58))<|Zg 47 false (.call (some 54) true (.c (.fn 12 [] [])) [.t 52,.t 53])<|Zg 47 false (.call (some 60) true (.c (.fn 11 [] [])) [.t 54,.t 59])<|Zg 47 false (.un 61 .not (.t 60))<|Zo (.pick 62 (.t 47) (.c (.bool true)) (.t 61)) .nil)<| .cond (.t 62) (Zr (Zo (.mv 2 (.c (.bool false))) .nil) .ret) .skip)<| .rg (Zm 63 5<|Zm 64 3<|Zm 65 6<|Zi 66 2 64 65<|Zf 67 0 66<|Zl 68 1 67<|Zo (.bs 69 1 32 [.t 68])<|Zo (.app 70 1 24 32 (.t 63) (.t 69))<|Zm 5 70 .nil))<| .rg (Zm 36 6<|Zk 37 .add 36 1<|Zm 6 37 .nil))<|Zr (Zm 71 5<|Zq 72 false 13 [.t 71]<|Zm 73 72<|Zg 73 true (.mv 74 (.t 5))<|Zg 73 true (.call (some 75) false (.c (.fn 14 [] [])) [.t 74])<|Zo (.pick 76 (.t 73) (.t 75) (.c (.bool false)))<|Zm 77 76<|Zg 77 true (.call (some 78) false (.c (.fn 7 [] [])) [])<|Zo (.pick 79 (.t 77) (.t 78) (.c (.bool false)))<|Zm 2 79 .nil) .ret⟩
theorem ak9:Qe Tryz.prog Tryz.f4=some c4:=by kernel_rfl
def kX(cs ps:List (List Tm)):Nat->List Tm
 |0=>[]
 |i+1=>Q8 (kX cs ps i) (Q4 (cs.getD i []) (ps.getD i []))
theorem P5(φ:List Int->Rat)(c p:List Tm):∀(cs ps:List (List Tm)),cs.length=ps.length->cv φ (cs++[c]) (ps++[p])=cv φ cs ps+aX φ (Q4 c p)
 | [],[],_=>by simp only[KaM,cv];grind
 | [],_::_,h=>by simp at h
 |_::_,[],h=>by simp at h
 |a::cs,b::ps,h=>by rw[KaP,KaP,cv,cv,P5 φ c p cs ps (by simpa using h)];grind
theorem H7(φ:List Int->Rat){cs ps:List (List Tm)}(hl:cs.length=ps.length)(hc:∀c∈cs,au c)(hp:∀p∈ps,au p):∀i,i<=cs.length->au (kX cs ps i)/\aX φ (kX cs ps i)=cv φ (cs.take i) (ps.take i)
 |0,_=>⟨au.nil,by simp[kX,cv,iy]⟩
 |i+1,h=>by
  obtain⟨h1,h2⟩:=H7 φ hl hc hp i (by omega);have hi:i<cs.length:=by omega
  have iG:i<ps.length:=by omega
  have n1:=dC (hc _ (Kag hi)).s (hp _ (Kag iG)).s;rw[kX,show cs.getD i []=cs[i]by simp[hi],show ps.getD i []=ps[i]by simp[iG]];refine⟨nJ h1 n1,?_⟩;rw[oF h1.c n1.c,h2,Kah hi,Kah iG,P5 _ _ _ _ _ (by simp;omega)]
theorem CB.comb{ps:List (List Tm)}{x:aB}(h:CB ps x)(hp:∀p∈ps,au p):kX x.2 ps x.2.length=x.1:=by
 refine qL (H7 (fun _=>0) h.k h.c hp _ (Kac _)).1 h.n fun φ=>?_;rw[(H7 φ h.k h.c hp _ (Kac _)).2,Kar,h.e φ];have:ps.take x.2.length=ps:=by rw[h.k,Kar]
 rw[this]
theorem Rm{cs ps:List (List Tm)}(hl:cs.length=ps.length)(hc:∀c∈cs,PB 900000 5000 c/\au c/\c.length<=4000)(hp:∀p∈ps,PB 2 3 p/\au p/\p.length<=4):∀i,i<=cs.length->PB (i*3600008+i) 5003 (kX cs ps i)/\(kX cs ps i).length<=i*16000
 |0,_=>⟨PB.nil _ _,by simp[kX]⟩
 |i+1,h=>by
  obtain⟨h1,h2⟩:=Rm hl hc hp i (by omega);have hi:i<cs.length:=by omega
  have iG:i<ps.length:=by omega
  obtain⟨c1,c2,c3⟩:=hc _ (Kag hi);obtain⟨p1,p2,p3⟩:=hp _ (Kag iG);rw[kX,show cs.getD i []=cs[i]by simp[hi],show ps.getD i []=ps[i]by simp[iG]];obtain⟨m1,m2⟩:=s0 c1 p1;have m3:min cs[i].length ps[i].length*(900000+2)<=4*(900000+2):=Kaf _ (by omega);have m4:cs[i].length*ps[i].length<=4000*4:=KaJ c3 p3;have m5:=m1.mono (K':=3600008) (E':=5003) (Kaw m3 (by decide+kernel)) (by omega);clear m3 m1;have hb:=tE _ _ h1 m5;have hlen:=s9 (kX cs ps i) (Q4 cs[i] ps[i]);exact⟨hb.mono (by omega) (by omega),by omega⟩
theorem Ys{cs ps:List (List Tm)}(hl:cs.length=ps.length)(h3:cs.length<=3)(hc:∀c∈cs,PB 900000 5000 c/\au c/\c.length<=4000)(hp:∀p∈ps,PB 2 3 p/\au p/\p.length<=4):
  Qc Tryz.prog 12 [PV.bX cs,PV.bX ps] (· =PV.aj (kX cs ps cs.length)):=by
 have hb:=Rm hl hc hp;refine Qf Qj Tryz.func12 rfl akg (by simp[Jg]) fun C hP=>?_;simp only[Jg,Zo,Zg,Zm,Zc,Zf,Zl,Zh,Zs,Zi,Zb,Zk,Zn,Zu,Zq,Zr,Zz];refine Sz0 ?_;refine qK 5 4 Tz0 ?_;refine Qz (by repeat (first|exact Qs|exact Ql|exact Qm|exact Qn|exact Qo|apply Qk|apply Qr|apply Qw|apply Q5|apply Q6|apply Qi|apply Q2)) [(5,29)] [] (fun m J hp=>∃i,m=cs.length-i/\i<=cs.length/\J 5=PV.aj (kX cs ps i)/\J 6= .int .i64 (i:Nat)) cs.length ?_ ?_
 ·refine⟨0,rfl,by omega,?_⟩;refine Sz0 ?_
  try (first|rfl|exact⟨rfl,rfl⟩)
 rintro _ J hh ⟨i,rfl,hi,j5,j6⟩;by_cases c1:i<cs.length
 ·have c2:i<ps.length:=by omega
  have d1:decide ((i:Int)<(cs.length:Int))=true:=decide_eq_true (by omega);have d2:decide ((i:Int)<(ps.length:Int))=true:=decide_eq_true (by omega);obtain⟨b1,b2⟩:=hb i hi;obtain⟨q1,q2,q3⟩:=hc _ (Kag c1);obtain⟨p1,p2,p3⟩:=hp _ (Kag c2);have hm:=qy (K:=900000) (E:=5000) q1 (p1.mono (by omega) (by omega)) q2.z p2.z (by omega) (by omega) (by omega) (by have:=KaJ p3 q3;omega) (Kaw (Nat.add_le_add_right (Kaf _ p3) _) (by decide+kernel));rw[tw q2 p2]at hm;obtain⟨m1,m2⟩:=s0 q1 p1;have m3:min cs[i].length ps[i].length*(900000+2)<=4*(900000+2):=Kaf _ (by omega);have m6:=m1.mono (K':=20000000) (E':=6000) (Kaw m3 (by decide+kernel)) (by omega);have m4:cs[i].length*ps[i].length<=4000*4:=KaJ q3 p3;clear m3 m1;have ha:=zk (K:=20000000) (E:=6000) (b1.mono (by omega) (by omega)) m6 (by omega) (by omega) (by omega) (by omega);have aG:kX cs ps (i+1)=Q8 (kX cs ps i) (Q4 cs[i] ps[i]):=by rw[kX,show cs.getD i []=cs[i]by simp[c1],show ps.getD i []=ps[i]by simp[c2]]
  rw[<-aG]at ha;generalize hx:cs[i]=x at *
  generalize hy:ps[i]=y at *
  refine Sz6 j5 j6 d1 d2 hx hy ?_;refine Qa hP hm rfl rfl rfl ?_;refine Sz2 j5 j6 ?_;refine Qa hP ha rfl rfl rfl ?_;refine Sz2 j5 j6 ?_;refine Qh (cs.length-(i+1)) (by omega) ⟨i+1,rfl,by omega,?_⟩;refine Sz0 ?_
  try trivial
 ·obtain rfl:i=cs.length:=by omega
  have d1:decide ((cs.length:Int)<(cs.length:Int))=false:=decide_eq_false (by omega);refine Sz3 j5 j6 d1 ?_;exact Qd rfl rfl
theorem FY{f:Nat->Option aB}(hf:∀u e,f u=some e->Qv e.1=(u:Nat)):∀(n k:Nat)(last:Int),last<k->sj last (((List.range' k n).filterMap f).map (·.1))=true
 |0,_,_,_=>rfl
 | n+1,k,last,hl=>by
  rw[List.range'_succ,Kbg];cases h:f k with
  |none=>exact FY hf n (k+1) last (by omega)
  |some e=>have hm:=hf k e h;simp only[Kba,sj,Kat,decide_eq_true_eq];exact⟨by omega,FY hf n (k+1) _ (by omega)⟩
theorem ag5(l:List aB):sj (-1) ((nT l).map (·.1))=true:=by unfold nT;rw[List.range_eq_range'];exact FY (fun u e h=>(H6 h).2) 64 0 (-1) (by omega)
theorem oQ.W8{m:Nat}{x:aB}(h:oQ m x):uO 115300 2500 x.1:=by have h6:=FM;have hb:=h.lv.pb.mono (K':=115300) (E':=2500) (by omega) (by omega);exact⟨hb,h.lv.n.Nm hb (by omega),by have:=h.lv.len;omega⟩
theorem Qo4{ls:List (List aZ)}(hl:ls.length<=1048576)(hp:∀l∈ls,l.length<=1048576/\∀t∈l,RB 1048576 t):Qc Tryz.prog 4 [.sl 1 (ls.map PV.kp)] (· = .bool true):=by
 have EK:=ahC;have EU:=ak2 (ls:=ls) (most:=3) (deg:=2) hl hp (by omega);refine Qf Qj Tryz.func4 rfl ak9 (by simp[c4]) fun C hP=>?_;simp only[c4,Zo,Zg,Zm,Zc,Zf,Zl,Zh,Zs,Zi,Zb,Zk,Zn,Zu,Zq,Zr,Zz];refine Sz0 ?_;cases h2:vN ls 3 2
 ·rw[h2]at EU;refine Qa hP EU rfl rfl rfl ?_;refine Sz0 ?_;refine Qa hP EK rfl rfl rfl ?_;refine Sz0 ?_;exact Qd rfl rfl
 rw[h2]at EU;obtain⟨k1,k2,k3⟩:=ahx (fun l h=>(hp l h).2) h2;have oY:(wP ls).length<=3:=by simpa using k1
 obtain⟨o,hM⟩:=akk oY k3;obtain⟨m1,-⟩:=acA oY k3 hM;have ns:∀p∈wP ls,au p:=fun p hp=>(k3 p hp).v.ny;obtain⟨c1,c2⟩:=hM.cb ns;refine Qa hP EU rfl rfl rfl ?_;refine Sz0 ?_;rw[<-k2]at m1;cases o with
 | error e=>
  have he:e=4∨e=13:=(c2 e rfl).imp id (·.1);rw[show tS (.error e)= .aw [PV.cg [],.int .i64 e]from rfl]at m1;refine Qa hP m1 rfl rfl rfl ?_;rcases he with rfl|rfl
  ·refine Sz0 ?_;refine Qa hP EK rfl rfl rfl ?_;refine Sz0 ?_;exact Qd rfl rfl
  ·refine Sz0 ?_;refine Qa hP EK rfl rfl rfl ?_;refine Sz0 ?_;exact Qd rfl rfl
 | ok l=>
  rw[show tS (.ok l)= .aw [PV.cg (nT l),.int .i64 0]from rfl]at m1;have jq:∀x∈nT l,oQ (wP ls).length x/\CB (wP ls) x:=fun x hx=>⟨by
   cases hM with
   |go _ _ h=>exact(h l rfl).2 x (OF hx),c1 l rfl x (OF hx)⟩
  have pU:=ag5 l;have Vc:=aeG l;generalize nT l=L at *
  have yr:=OY (gs:=L.map (·.1)) (by simp;omega) (fun g hg=>by obtain⟨x,hx,rfl⟩:=KaE.1 hg;exact(jq x hx).1.W8) (by omega) (by omega);have yt:=Q89 (gs:=L.map (·.1)) (by simp;omega) (fun g hg=>by obtain⟨x,hx,rfl⟩:=KaE.1 hg;exact(jq x hx).1.W8) (by omega) (by omega);rw[pU]at yr yt;have hlen:ls.length=(wP ls).length:=by simp
  refine Qa hP m1 rfl rfl rfl ?_;refine Sz0 ?_;refine kt 5 900 1 32 (by omega) Tz0 ?_;refine xt (by repeat (first|exact Qs|exact Ql|exact Qm|exact Qn|exact Qo|apply Qk|apply Qr|apply Qw|apply Q5|apply Q6|apply Qi|apply Q2)) [(2,2),(5,6),(32,70)] [69,70,900] (fun m J hp=>∃i,m=L.length-i/\i<=L.length/\J 5= .ms 900 ((L.map (·.1)).take i).length/\J 6= .int .i64 (i:Nat)/\hp 900=some ⟨1,32,((L.map (·.1)).take i).map PV.aj,false⟩) L.length ?_ ?_
  ·refine⟨0,rfl,by omega,?_⟩;refine Sz0 ?_
   first|rfl|exact⟨rfl,rfl⟩|exact⟨rfl,rfl,rfl⟩
  rintro _ J hh ⟨i,rfl,hi,j5,j6,hq⟩;by_cases c3:i<L.length
  ·have d1:decide ((i:Int)<(L.length:Int))=true:=decide_eq_true (by omega);obtain⟨f1,f2⟩:=jq _ (Kag c3);obtain⟨b1,b2,b3,b4⟩:=f1.b oY;have hk:=f2.k;have gV:=Ys hk b3 b4 (fun p hp=>⟨(k3 p hp).b,ns p hp,(k3 p hp).l⟩);rw[f2.comb ns,<-k2]at gV;have UX:=Gp b1 b1 (by omega) (by omega) (by omega) (by omega);rw[decide_eq_true rfl]at UX;have bk:(L.map (·.1)).take (i+1)=(L.map (·.1)).take i++[L[i].1]:=by rw[Kah (by simpa using c3)];simp
   have qj:((L.map (·.1)).take i).length<=64:=by rw[KaF];omega
   generalize(L.map (·.1)).take i=A at *
   generalize hx:L[i]=x at *
   have d2:decide (¬(x.2.length:Int)=(ls.length:Int))=false:=decide_eq_false fun h=>h (by omega);refine Sz5 j5 j6 d1 d2 hx ?_;refine Qa hP gV rfl rfl rfl ?_;refine Sz5 j5 j6 d1 d2 hx ?_;refine Qa hP UX rfl rfl rfl ?_;refine Sz3 j5 j6 hx ?_;rw[Q9 (f:=PV.aj) (y:=x.1) (xs:=A) (ty':=32) (fz:=false) (Tz1 hq) cC (by omega) rfl (by omega) (by omega)];refine Sz2 j5 j6 ?_;refine u9 (L.length-(i+1)) (by omega) ⟨i+1,rfl,by omega,?_⟩;rw[bk];simp+decide (disch:=first|omega|rfl|(simp+decide only[go_sem,Kan]<;>rfl)|fail) only[go_sem,Kan]
   try trivial
  ·obtain rfl:i=L.length:=by omega
   have d1:decide ((L.length:Int)<(L.length:Int))=false:=decide_eq_false (by omega);rw[Kae (by simp)]at j5 hq;have e0:List.take (L.map (·.1)).length ((L.map (·.1)).map PV.aj)=(L.map (·.1)).map PV.aj:=Kae (by simp);generalize L.map (·.1)=G at *
   refine Sz3 j5 j6 d1 ?_;refine ig hP yt (IS hq e0) rfl ?_;refine kF j5 hq ?_;refine ig hP yr (IS hq e0) rfl ?_;refine sg hq ?_;refine Qa hP EK rfl rfl rfl ?_;refine Sz0 ?_;exact Qd rfl rfl
open Go Go.FW Go.ChangeShapes Go.WideShapes Go.ChangeAt Go.RowKit
theorem Ql2(H:Type)(enc:TypeId×Value->H)(W:World)(base:Nat)(args:Array Value)(ds gs:List (DataW H))(before:List MemPlace)
  (gS:∀(j:Nat) t v,Tryz.f4.params[j]? =some t->args[j]? =some v->Value.okWide Tryz.prog W .any base t v)
  (hW:DataW.Whole enc Tryz.prog Tryz.f4.params.toList Rows.triangularElementsSpec.vars false W args.toList ds gs before) (hk:Rows.uptoSmall H (ds++gs)=true):
  Calls Tryz.prog 4 args W fun e W'=>∃v,e= .returned v/\Rows.triangularElementsSpec.post enc Tryz.prog Tryz.f4 false true false false W args v W':=by
 have AS:=hW;obtain⟨p,q,hA0,hV,rfl,l5,MP⟩:=hW;have hA:DataW.TrodAll enc Tryz.prog W 0 (fun _=>true) true Tryz.f4.params.toList args.toList ds p:=hA0;rw[Tryz.params4]at hA gS;obtain⟨v0,vs0,e0,ds0,p0,q0,dQ,rfl,rfl,h0,r0⟩:=trodAll_cons hA;obtain⟨rfl,rfl,rfl⟩:=trodAll_nil r0;obtain rfl:args= #[v0]:=by cases args;simp_all
 obtain⟨rfl,rfl⟩:=trodVars_none hV;have hb:=aed hk;simp only[Kak,Rows.uptoBulkAll]at hb;obtain⟨a0,g0,b0⟩:=acg (gS 0 _ v0 rfl rfl) h0 (by omega);exact ach AS rfl (by kernel_rfl) (by kernel_rfl) rfl (Qo4 b0.1 fun l hl=>⟨(b0.2 l hl).1,fun t ht=>((b0.2 l hl).2 t ht).1⟩) rfl
  (aef (vs:=[v0]) (by
   intro i x hx v hv
   match i,hx,hv with
   |0,hx,hv=>simp at hx hv;subst hx hv;exact g0
   |i+1,hx,hv=>simp at hx) rfl)
theorem Qmy(os:Os)(started:os.Started)(H:Type)(enc:TypeId×Value->H)(F:Stop.Interp):
  ReturnsInHanded {} Tryz.checked os 4 .any ((Rows.OpenSpec.upto Rows.triangularElementsSpec).pre6 enc Tryz.prog Tryz.f4 Rows.triangularElementsUptoRow.domain false) (((Rows.OpenSpec.upto Rows.triangularElementsSpec).at F).post enc Tryz.prog Tryz.f4 false true false false):=by
 refine returnsInHanded_of_cond (C:=Tryz.checked) (s:=Rows.OpenSpec.upto Rows.triangularElementsSpec) (k:=Rows.uptoSmall) rfl own started (by kernel_rfl) Tryz.func4
  (OpenSpec.witness (enc:=enc) (C:=Tryz.checked) (s:=Rows.OpenSpec.upto Rows.triangularElementsSpec) (k:=Rows.uptoSmall) rfl false ⟨#[],#[.slice none 0 0],[]⟩ 8 (by kernel_rfl) (by kernel_rfl) (by kernel_rfl)
   (x:=([.nil],[],[])) (by kernel_rfl) rfl (by kernel_rfl)) ?_
 intro W base args ds gs before gS hW _ hk _;exact Ql2 H enc W base args ds gs before gS hW hk
theorem triangularElements_proved:Rows.TriangularElementsUptoSaid:=
 OpenClaim.holds_of_cond 4 Tryz.f4 rfl rfl rfl rfl rfl rfl rfl ⟨rfl,rfl,rfl,rfl,rfl⟩ rfl rfl rfl rfl rfl (by kernel_rfl) Tryz.func4 (by kernel_rfl)
  (of_decide_eq_true (by kernel_rfl)) (by unfold Func.isWrapper;first|(rw[if_pos (by decide+kernel)];kernel_rfl)|(rw[if_neg (by decide+kernel)];exact⟨rfl,rfl⟩))
  (fun os started H enc _ F=>Qmy os started H enc F)
end Go.Proofs.YtdjoomkeehihmaaGreat
