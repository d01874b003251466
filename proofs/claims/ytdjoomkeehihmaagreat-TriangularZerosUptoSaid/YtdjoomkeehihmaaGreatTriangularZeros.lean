/- TriangularZeros holds, for arguments of bulk at most 1048576. -/
import Derived.Test.YtdjoomkeehihmaaGreatTriangularZerosPart17
set_option maxHeartbeats 1000000
set_option linter.unusedSimpArgs false
set_option linter.unusedVariables false
set_option linter.unnecessarySimpa false
set_option maxRecDepth 100000
namespace Go.Proofs.YtdjoomkeehihmaaGreat
open Go Go.FW
def eT(p:List Tm):Rat:=if p=[]then((1:Int):Rat)else dP p
def di(p:List Tm)(cs:List (List Tm)):aC:=(b8 p (eT p),cs.map (fun c=>b8 c (eT p)))
def uJ(x:aC):Bool:=bh x.1||x.2.any bh
def eZ(x:aC):Int:=if uJ x then 4 else if 0<x.1.length/\Qv x.1<0 then 13 else 0
def eh(f g:aC):aC×Int:=
 match l5 f.1 g.1 with
 |none=>(([],[]),4)
 |some (q,r,n)=>(di r (cD (cy (cA g.1) n) q f.2 g.2),eZ (di r (cD (cy (cA g.1) n) q f.2 g.2)))
def nL(j:Nat):Nat:=if j<2 then 2 else 4
def bL:Nat->Nat
 |0=>17
 |j+1=>bL j+nL j*(bL j+2)+(nL j+1)
def tL:Nat->Nat
 |0=>4
 |j+1=>if j<2 then 4 else tL j+nL j*tL j
def kL(j:Nat):Nat:=2*(1+nL j)+(bL j+nL j*(bL j+2))+3
def aL:Nat->Nat
 |0=>30
 |j+1=>2*(1+nL j+aL j)+kL j
def cL:Nat->Nat
 |0=>31
 |j+1=>bL j+nL j*(bL j+2)+cL j+2+kL j
def eL:Nat->Nat
 |0=>0
 |j+1=>tL j+nL j*tL j+eL j
theorem jm{j:Nat}(h:j<=5):bL j<=23028/\aL j<=40000/\cL j<=57700/\eL j<=700/\tL j<=500/\kL j<=115200/\nL j<=4/\2<=nL j/\17<=bL j/\nL j*tL j<=2000/\bL j+nL j*(bL j+2)<=115150:=by
 have:j=0∨j=1∨j=2∨j=3∨j=4∨j=5:=by omega
 rcases this with rfl|rfl|rfl|rfl|rfl|rfl<;>decide
theorem N9{j:Nat}(h:j<=1):nL j=2/\tL j=4:=by
 have:j=0∨j=1:=by omega
 rcases this with rfl|rfl<;>decide
theorem Gf:bL 6<=115200/\aL 6<=200000/\cL 6<=300000/\eL 6<=3200/\tL 6<=2500:=by decide
structure Lv(m j T:Nat)(x:aC):Prop where
 s:SZ 1 (bL j) T x.1
 t:TD T x.1
 n:az x.1
 l:bh x.1=false
 v:ML 3 x.1
 c:∀y∈x.2,SZ (aL j) (cL j) (eL j) y/\az y/\bh y=false
 k:x.2.length=m
theorem ahE(j:Nat):bL j<=bL (j+1)/\aL j<=aL (j+1)/\cL j<=cL (j+1)/\eL j<=eL (j+1):=by simp only[bL,aL,cL,eL];omega
theorem Lv.up{m j T:Nat}{x:aC}(h:Lv m j T x):Lv m (j+1) T x:=by obtain⟨h1,h2,h3,h4⟩:=ahE j;exact⟨h.s.mono (Kac _) h1 (Kac _),h.t,h.n,h.l,h.v,fun y hy=>⟨(h.c y hy).1.mono h2 h3 h4,(h.c y hy).2⟩,h.k⟩
theorem Lv.to{m j j' T:Nat}{x:aC}(h:Lv m j T x)(hj:j<=j'):Lv m j' T x:=by
 obtain⟨k,rfl⟩:∃k,j'=j+k:=⟨j'-j,by omega⟩
 clear hj;induction k with
 |zero=>exact h
 |succ k ih=>exact ih.up
theorem Lv.deg{m j T T':Nat}{x:aC}(h:Lv m j T x)(hT:T<=T'):Lv m j T' x:=⟨h.s.mono (Kac _) (Kac _) hT,h.t.mono (by omega),h.n,h.l,h.v,h.c,h.k⟩
theorem Lv.pb{m j T:Nat}{x:aC}(h:Lv m j T x):PB (bL j+5) T x.1:=h.s.PB.mono (by omega) (Kac _)
theorem Lv.len{m j T:Nat}{x:aC}(h:Lv m j T x):x.1.length<=4000:=qE h.l
theorem QE{g f:List Tm}{v d:Nat}:∀(fuel k:Nat) {q r:List Tm} {n:Nat},na g v d fuel (aD g v d f k).1 (aD g v d f k).2 k=some (q,r,n)->k<=n/\∀j,k<=j->j<n->(aD g v d f j).2≠[]/\(d:Int)<=Q3 (aD g v d f j).2 v
 |0,k,q,r,n,h=>by simp only[na,KaB,KcP]at h;obtain⟨_,_,rfl⟩:=h;exact⟨Kac _,fun j h1 h2=>by omega⟩
 | fuel+1,k,q,r,n,h=>by
  rw[na]at h;split at h
  ·simp only[KaB,KcP]at h;obtain⟨_,_,rfl⟩:=h;exact⟨Kac _,fun j h1 h2=>by omega⟩
  ·rename_i hs;split at h
   ·cases h
   ·obtain⟨h1,h2⟩:=QE fuel (k+1) h;refine⟨by omega,fun j hj1 wh=>?_⟩;by_cases e:j=k
    ·subst e;simp only[not_or]at hs;exact⟨hs.1,by omega⟩
    ·exact h2 j (by omega) wh
structure eK(m j Tf Tg v:Nat)(f g:aC):Prop where
 hj:j<=5
 hf:Lv m j Tf f
 hg:Lv m j Tg g
 tf:Tf<=tL j
 tg:Tg<=tL j
 mf:Qv f.1=v
 mg:Qv g.1=v
 hv:v<=2
 lo:v=2->j<=1
 hd:Q3 f.1 v<=nL j
 le:Q3 g.1 v<=Q3 f.1 v
 hm:m<=3
theorem rW{p:List Tm}(h:0<=Qv p):p≠[]:=fun e=>by subst e;exact absurd h (by decide)
theorem DA{p:List Tm}{K E v:Nat}(hb:PB K E p)(h:Qv p=v):1<=Q3 p v:=by
 have h0:=rW (p:=p) (by omega);rcases(vg p).2.2 with e|⟨t,ht,e⟩
 ·omega
 ·have hl:t.2.length=v+1:=by omega
  have hc:=(hb t ht).l;have h1:=(rO p v).2.1 t ht;have ar:v<t.2.length:=by omega
  have h2:=(hb t ht).m.eN v;have:eN t.2 v≠0:=fun e0=>by rw[fj ar]at e0;apply hc;rw[Ka4,hl,Nat.add_sub_cancel,Kam ar,e0]
  omega
section
variable {m j Tf Tg v : Nat} {f g : aC}
theorem eK.num(h:eK m j Tf Tg v f g):Tf<=500/\Tg<=500/\nL j<=4/\2<=nL j/\1<=Q3 g.1 v/\(((Q3 g.1 v).toNat:Nat):Int)=Q3 g.1 v/\(((Q3 f.1 v).toNat:Nat):Int)=Q3 f.1 v/\(Qv g.1).toNat=v/\Q3 g.1 v<=Tg:=by obtain⟨h1,h2,h3,h4,h5,h6,h7,h8,h9,bK,cu⟩:=jm h.hj;have hd:=DA h.hg.pb h.mg;have hf:=DA h.hf.pb h.mf;have hm:=h.mg;have:=(oI h.hg.pb (rW (by omega)) v).2;exact⟨by have:=h.tf;omega,by have:=h.tg;omega,h7,h8,hd,by omega,by omega,by omega,this⟩
theorem eK.st(h:eK m j Tf Tg v f g)(d k:Nat)(hk:k<=nL j):DV (1+nL j) (bL j+nL j*(bL j+2)) (Tf+nL j*Tg) (aD g.1 v d f.1 k).1 (aD g.1 v d f.1 k).2:=by have hs:=DV.steps (d:=d) h.hf.s h.hf.n h.hg.s h.hg.n (by have:=h.hv;omega:v<64) k;obtain⟨⟨D,N,h1,h2,h3,h4,h5⟩,⟨K1,x1⟩,K2,x2⟩:=hs;have e1:k*1<=nL j*1:=Kaf _ hk;have e2:k*(bL j+2)<=nL j*(bL j+2):=Kaf _ hk;have e3:k*Tg<=nL j*Tg:=Kaf _ hk;exact⟨⟨D,N,h1,h2,by omega,by omega,h5⟩,⟨K1,x1.mono (Kac _) (by omega)⟩,K2,x2.mono (Kac _) (by omega)⟩
theorem eK.XU(h:eK m j Tf Tg v f g)(d k:Nat)(hk:k<=nL j):PB 115200 2500 (aD g.1 v d f.1 k).1/\PB 115200 2500 (aD g.1 v d f.1 k).2:=by obtain⟨n1,n2,n3,n4,_⟩:=h.num;obtain⟨h1,h2,h3,h4,h5,h6,h7,h8,h9,bK,cu⟩:=jm h.hj;have e3:nL j*Tg<=4*500:=KaK n3 n2;have hs:=h.st d k hk;exact⟨hs.q.PB.mono (by omega) (by omega),hs.r.PB.mono (by omega) (by omega)⟩
theorem eK.amv(h:eK m j Tf Tg v f g)(d k:Nat):∃K E,PB K E (aD g.1 v d f.1 k).2:=by have hs:=DV.steps (d:=d) h.hf.s h.hf.n h.hg.s h.hg.n (by have:=h.hv;omega:v<64) k;obtain⟨K,hx⟩:=hs.xr;exact⟨K,_,hx⟩
structure oF(m j Tf Tg v:Nat)(f g:aC)(q r:List Tm)(n:Nat):Prop where
 nn:(n:Int)<=Q3 f.1 v-Q3 g.1 v+1/\n<=nL j
 sq:SZ (1+nL j) (bL j+nL j*(bL j+2)) (Tf+nL j*Tg) q
 sr:SZ (1+nL j) (bL j+nL j*(bL j+2)) (Tf+nL j*Tg) r
 nq:az q
 nr:az r
 lq:q.length<=4000
 lr:r.length<=4000
 tr:TD ((Tf:Int)+n*((Tg:Int)-Q3 g.1 v)) r
 dr:r=[]∨Q3 r v<Q3 g.1 v
 mr:ML 3 r
 mv:ML (v+1) r
 ni:ML v (cA g.1)/\az (cA g.1)/\SZ 1 (bL j) Tg (cA g.1)/\(cA g.1).length<=4000
theorem ML.aD{w v d:Nat}{f g:List Tm}(hf:ML w f)(hg:ML w g)(nf:az f)(ng:az g)(hv:v<w):∀k,ML w (FW.aD g v d f k).2:=by
 intro k;induction k with
 |zero=>exact hf
 | succ k ih=>
  obtain⟨n1,n2⟩:=r7 (v:=v) (d:=d) nf ng k;have hb:=rQ (jU n2 v (Q3 (FW.aD g v d f k).2 v).toNat) v ((Q3 (FW.aD g v d f k).2 v).toNat-d);show ML w (ej _ _ _ _ _);refine fun t ht=>?_;rcases Ik (dN (show fi (c8 (FW.aD g v d f k).2 v (Q3 (FW.aD g v d f k).2 v).toNat d)from hb.s) ng.s).c ht with⟨s,hs,e⟩|⟨s,hs,e⟩
  ·rw[<-e];exact((hg.m9 v d).mA ih) s hs
  ·rw[<-e];obtain⟨a,ha,b,aw,e2⟩:=vu hs;rw[e2];have h1:=hg b aw;have h2:=Pv a.2 b.2;have h3:a.2.length<=w:=by
    obtain⟨u,hu,e3⟩:=Df (show a∈gH (aZ (FW.aD g v d f k).2 v (Q3 (FW.aD g v d f k).2 v).toNat) v ((Q3 (FW.aD g v d f k).2 v).toNat-d)from ha);have wJ:=(ih.m9 v _) u hu;apply Decidable.byContradiction;intro hc;have hl:0<a.2.length:=by omega
    have hz:eN a.2 (a.2.length-1)=0:=by rw[e3,fA (by omega),if_neg (by omega)];rfl
    have Fk:=hb.c a ha;rw[fj (by omega)]at hz;apply Fk;rw[Ka4,Kam (by omega),hz]
   omega
theorem aie{f g q r:List Tm}{v d n fuel:Nat}(nf:az f)(ng:az g)(hd:Q3 g v=d)(hb:∀k,∃K E,PB K E (aD g v d f k).2)(hN:f=[]∨Q3 f v<fuel)(he:na g v d fuel [] f 0=some (q,r,n)):r=[]∨Q3 r v<d:=by
 obtain⟨e1,e2,_,_⟩:=DZ (f:=f) fuel 0 he (fun h=>absurd h (by omega));have h1:=AB g v d fuel [] f 0;rw[he]at h1;rcases OD nf ng hd hb fuel 0 hN with h2|⟨j,_,_,j3,h2⟩
 ·rw[show(aD g v d f 0).1=[]from rfl,show(aD g v d f 0).2=f from rfl,h1]at h2;simp only[PV.dv,PV.au.injEq,KcL,PV.int.injEq]at h2;omega
 ·rw[show(aD g v d f 0).1=[]from rfl,show(aD g v d f 0).2=f from rfl,h1]at h2;simp only[PV.dv,PV.au.injEq,KcL,PV.int.injEq]at h2;have:n=j:=by omega
  subst this;rw[e2];exact j3
theorem eK.yY(h:eK m j Tf Tg v f g):cA g.1=aZ g.1 v (Q3 g.1 v)/\ML v (cA g.1)/\az (cA g.1)/\SZ 1 (bL j) Tg (cA g.1)/\(cA g.1).length<=4000:=by
 have hm:=h.mg;have e:cA g.1=aZ g.1 v (Q3 g.1 v):=by unfold cA cS;rw[if_neg (by omega),if_neg (by omega),hm];rfl
 rw[e];refine⟨rfl,ML.top h.hg.pb (fun t ht=>?_) _,jU h.hg.n _ _,h.hg.s.m9 _ _,Kaw (qA _ _ _) h.hg.len⟩;have:=(vg g.1).2.1 t ht;omega
theorem eK.out(h:eK m j Tf Tg v f g){q r:List Tm}{n:Nat}(he:l5 f.1 g.1=some (q,r,n)):oF m j Tf Tg v f g q r n:=by
 obtain⟨n1,n2,n3,n4,n5,n6,n7,n8,n9⟩:=h.num;have hi:=h.yY.2;have aG:=h.st;have v7:=h.amv;have hle:=h.le;have Wi:=h.hd;unfold l5 at he;rw[n8]at he;generalize qX:(Q3 g.1 v).toNat=d at *
 obtain⟨e1,e2,e3,e4⟩:=DZ (f:=f.1) _ 0 he (fun h=>absurd h (by omega));obtain⟨-,bp⟩:=QE (f:=f.1) _ 0 he;have eH:∀t∈g.1,eN t.2 v<=d:=fun t ht=>by have:=(rO g.1 v).2.1 t ht;omega
 have hnn:(n:Int)<=Q3 f.1 v-d+1:=by
  cases n with
  |zero=>omega
  |succ n=>
   have h1:=(QD h.hf.n h.hg.n eH (v7 d) n fun j hj=>bp j (by omega) (by omega))
   have h2:=bp n (by omega) (by omega);have:=h1.resolve_left h2.1;omega
 obtain⟨k1,k2⟩:=r7 (v:=v) (d:=d) h.hf.n h.hg.n n;have hs:=aG d n (by omega);have hT:=TD.aD (d:=d) h.hf.t h.hf.n h.hg.t h.hg.n (by have:=h.hv;omega:v<64) (v7 d) n fun j hj=>bp j (by omega) hj;have hM:=ML.aD (d:=d) h.hf.v h.hg.v h.hf.n h.hg.n (by have:=h.hv;omega:v<3) n;have Fb:=ML.aD (d:=d) (w:=v+1) (f:=f.1) (g:=g.1) (fun t ht=>by have h1:=(vg f.1).2.1 t ht;have h2:=h.mf;omega) (fun t ht=>by have h1:=(vg g.1).2.1 t ht;have h2:=h.mg;omega) h.hf.n h.hg.n (Kdd v) n;have uw:=aie h.hf.n h.hg.n (by omega:Q3 g.1 v=d) (v7 d) (.inr (by omega)) he;have hl:q.length<=4000/\r.length<=4000:=by
  by_cases h0:0<n
  ·exact⟨qE (e4 h0).1,qE (e4 h0).2⟩
  ·obtain rfl:n=0:=by omega
   rw[e1,e2];exact⟨by simp[aD],h.hf.len⟩
 rw[<-e2]at k2 hT hM Fb;rw[<-e1]at k1;have sq:=hs.q;have sr:=hs.r;rw[<-e1]at sq;rw[<-e2]at sr;exact⟨⟨by omega,by omega⟩,sq,sr,k1,k2,hl.1,hl.2,hT.mono (by rw[n6];omega),uw.imp id (fun h=>by omega),hM,Fb,hi⟩
theorem PF{p:List Tm}(np:az p):eT p≠0:=by
 unfold eT;split
 ·decide
 ·exact Rj np ‹_›
theorem Eb{c q:List Tm}{a b:List (List Tm)}{y:List Tm}(h:y∈cD c q a b):∃u∈a,∃w∈b,y=fV (Q4 c u) (Q4 q w):=by unfold cD at h;obtain⟨i,hi,rfl⟩:=Ka8 h;rw[KbU]at hi;exact⟨a[i],Kag _,b[i],Kag _,by rw[List.getElem_zipWith]⟩
theorem oF.yx(h:eK m j Tf Tg v f g){q r:List Tm}{n:Nat}(o:oF m j Tf Tg v f g q r n){u w:List Tm}(hu:u∈f.2)(hw:w∈g.2):
  SZ (1+n*1+aL j) (1+n*bL j+cL j) (nL j*tL j+eL j) (Q4 (cy (cA g.1) n) u)/\SZ (1+nL j+aL j) (bL j+nL j*(bL j+2)+cL j) (tL j+nL j*tL j+eL j) (Q4 q w)/\az (Q4 (cy (cA g.1) n) u)/\az (Q4 q w):=by
 obtain⟨u1,u2,u3⟩:=h.hf.c u hu;obtain⟨w1,w2,w3⟩:=h.hg.c w hw;obtain⟨i1,i2,i3,i4⟩:=o.ni;have e1:n*Tg<=nL j*tL j:=KaK o.nn.2 h.tg;have e2:nL j*Tg<=nL j*tL j:=Ka7 _ h.tg;have:=h.tf;exact⟨((i3.y9 n).mA u1).mono (Kac _) (Kac _) (by omega),(o.sq.mA w1).mono (by omega) (Kac _) (by omega),dN (tE i2 n).s u2.s,dN o.nq.s w2.s⟩
theorem oF.AY{q r:List Tm}{n:Nat}(o:oF m j Tf Tg v f g q r n):rs (eT r)<=kL j:=by
 unfold eT kL;split
 ·have:=l4;show rs ((1:Int):Rat)<=_;have e:((1:Int):Rat)=1:=rfl;rw[e];omega
 ·have:=(o.sr.wU o.nr ‹_›).2;omega
theorem eK.next(h:eK m j Tf Tg v f g){q r:List Tm}{n:Nat}(o:oF m j Tf Tg v f g q r n){T:Nat}(hT:(Tf:Int)+n*((Tg:Int)-Q3 g.1 v)<=T)(hc:eZ (di r (cD (cy (cA g.1) n) q f.2 g.2))=0):Lv m (j+1) T (di r (cD (cy (cA g.1) n) q f.2 g.2))/\(r=[]∨0<=Qv (di r (cD (cy (cA g.1) n) q f.2 g.2)).1):=by
 have ow:uJ (di r (cD (cy (cA g.1) n) q f.2 g.2))=false:=by
  unfold eZ at hc;split at hc
  ·cases hc
  ·rename_i h1;simpa using h1
 have M7:=ow;simp only[uJ,Kcf]at ow;obtain⟨g1,g2⟩:=ow;rw[Kbs]at g2;have hx:XB T r:=PE (o.tr.mono hT) (let⟨K,hk⟩:=o.sr.x;⟨_,K,hk⟩);have hr:=o.sr.XO hx;have Wg:=o.nr.c;refine⟨⟨?_,(o.tr.mono hT).wV Wg _,?_,g1,?_,fun y hy=>?_,?_⟩,?_⟩
 ·show SZ 1 (bL (j+1)) T (b8 r (eT r));unfold eT;split
  ·rename_i h0;subst h0;rw[xt];exact SZ.nil _ _ _ (by omega) (by rw[bL];omega)
  ·have:=(hr.wU o.nr ‹_›).1;exact this.mono (Kac _) (by rw[bL];omega) (Kac _)
 ·exact qC o.nr.s (eT r)
 ·exact o.mr.wV Wg _
 ·obtain⟨y0,cX,rfl⟩:=KaE.1 hy;obtain⟨u,hu,w,hw,rfl⟩:=Eb cX;obtain⟨s1,s2,m1,m2⟩:=o.yx h hu hw;have s3:=(s1.mono (Kac _) (Kac _) (by have:=h.tf;omega:nL j*tL j+eL j<=tL j+nL j*tL j+eL j)).wW s2;have s4:=s3.scale o.AY;have e1:n*1<=nL j*1:=Kaf _ o.nn.2;have e2:n*bL j<=nL j*(bL j+2):=KaK o.nn.2 (by omega);have e3:=(jm h.hj).2.2.2.2.2.2.2.2.1;refine⟨s4.mono (by rw[aL];omega) (by rw[cL];omega) (by rw[eL];omega),qC (vn m1 m2).s _,?_⟩;have:=g2 _ hy;simpa using this
 ·show((cD _ q f.2 g.2).map _).length=m;rw[KaV,cD,KbU,h.hf.k,h.hg.k,Nat.min_self]
 ·by_cases h0:r=[]
  ·exact .inl h0
  ·right;unfold eZ at hc;rw[M7]at hc;simp only[KaJ,if_false]at hc;split at hc
   ·cases hc
   ·rename_i hn;have aO:0<(di r (cD (cy (cA g.1) n) q f.2 g.2)).1.length:=by show 0<(b8 r (eT r)).length;rw[UI o.nr.z (PF o.nr)];exact Kbf.2 h0
    omega
end
end Go.Proofs.YtdjoomkeehihmaaGreat
namespace Go.Proofs.YtdjoomkeehihmaaGreat
open Go Go.FW
def LD:aA:=⟨25,[.t 2],Zr (Zo (.box 1 2 34 (.t 0))<|Zo (.mv 2 (.c (.bool false))) .nil)<|Zr (Zf 5 0 1<|Zl 6 1 5<|Zq 7 false 135 [.t 6]<|Zm 3 7 .nil)<| .seq (Zr (Zc 4 0 .nil)<| .block 0<| .loop<| .seq (Zr (Zm 8 4<|Zf 9 1 1<|Zl 10 1 9<|Zn 11 10<|Zb 12 .lss 8 11 .nil)<| .cond (.t 12) .skip (.exit 0))<| .seq (.block 1<| .rg (Zm 15 3<|Zm 16 15<|Zg 16 false (.cC 17 1 (.t 1))<|Zg 16 false (.ld 18 1 false (.t 17))<|Zg 16 false (.mv 19 (.t 4))<|Zg 16 false (.idx 20 1 (.t 18) (.t 19))<|Zg 16 false (.ld 21 1 false (.t 20))<|Zg 16 false (.call (some 22) false (.c (.fn 135 [] [])) [.t 21])<|Zo (.pick 23 (.t 16) (.c (.bool true)) (.t 22))<|Zm 3 23 .nil))<| .rg (Zm 13 4<|Zk 14 .add 13 1<|Zm 4 14 .nil))<|Zr (Zm 24 3<|Zm 2 24 .nil) .ret⟩
theorem akY:Qe Tryz.prog Tryz.f75=some LD:=by kernel_rfl
def KX:aA:=⟨15,[.t 2],Zr (Zo (.box 1 2 34 (.t 0))<|Zc 2 0 .nil)<| .seq (Zr (Zh 3 2 1<|Zq 4 false 75 [.t 3] .nil)<| .cond (.t 4) (Zr (Zc 2 4 .nil) .ret) .skip)<| .seq (Zr (Zf 5 0 1<|Zl 6 1 5<|Zn 7 6<|Zk 8 .gtr 7 0<|Zm 9 8<|Zg 9 true (.cC 10 0 (.t 1))<|Zg 9 true (.ld 11 1 false (.t 10))<|Zg 9 true (.call (some 12) false (.c (.fn 35 [] [])) [.t 11])<|Zg 9 true (.bin 13 .lss false (.t 12) (.c (Zz 0)))<|Zo (.pick 14 (.t 9) (.t 13) (.c (.bool false))) .nil)<| .cond (.t 14) (Zr (Zc 2 13 .nil) .ret) .skip)<|Zr (Zc 2 0 .nil) .ret⟩
theorem akZ:Qe Tryz.prog Tryz.f33=some KX:=by kernel_rfl
def KY:aA:=⟨69,[.t 4,.t 5],Zr (Zc 4 0<|Zc 5 0 .nil)<|Zr (Zc 6 (-1)<|Zc 7 0 .nil)<| .seq (Zr (Zc 8 0 .nil)<| .block 0<| .loop<| .seq (Zr (Zm 11 8<|Zm 12 0<|Zn 13 12<|Zb 14 .lss 11 13 .nil)<| .cond (.t 14) .skip (.exit 0))<| .seq (.block 1<| .seq (Zr (Zm 17 0<|Zm 18 8<|Zi 19 2 17 18<|Zf 20 0 19<|Zl 21 1 20<|Zq 22 false 35 [.t 21]<|Zm 23 1<|Zb 24 .neq 22 23 .nil)<| .cond (.t 24) (.exit 1) .skip)<|Zr (Zm 25 7<|Zk 26 .add 25 1<|Zm 7 26 .nil)<| .seq (Zr (Zm 27 6<|Zk 28 .lss 27 0 .nil)<| .cond (.t 28) (Zr (Zm 29 8<|Zm 6 29 .nil)<| .exit 1) .skip)<|Zr (Zm 30 0<|Zm 31 8<|Zi 32 2 30 31<|Zf 33 0 32<|Zl 34 1 33<|Zm 35 1<|Zm 37 0<|Zm 38 6<|Zi 39 2 37 38<|Zf 40 0 39<|Zl 41 1 40<|Zm 42 1<|Zq 36 true 76 [.t 34,.t 35]<|Zq 43 true 76 [.t 41,.t 42]<|Zm 9 36<|Zm 10 43 .nil)<|Zr (Zm 44 9<|Zm 45 10<|Zb 46 .lss 44 45<|Zm 47 46<|Zg 47 false (.mv 48 (.t 9))<|Zg 47 false (.mv 49 (.t 10))<|Zg 47 false (.bin 50 .eql false (.t 48) (.t 49))<|Zg 47 false (.mv 51 (.t 50))<|Zg 51 true (.mv 52 (.t 0))<|Zg 51 true (.mv 53 (.t 8))<|Zg 51 true (.idx 54 2 (.t 52) (.t 53))<|Zg 51 true (.cC 55 0 (.t 54))<|Zg 51 true (.ld 56 1 false (.t 55))<|Zg 51 true (.mv 57 (.t 0))<|Zg 51 true (.mv 58 (.t 6))<|Zg 51 true (.idx 59 2 (.t 57) (.t 58))<|Zg 51 true (.cC 60 0 (.t 59))<|Zg 51 true (.ld 61 1 false (.t 60))<|Zg 51 true (.call (some 62) false (.c (.fn 38 [] [])) [.t 56,.t 61])<|Zg 51 true (.bin 63 .lss false (.t 62) (.c (Zz 0)))<|Zg 47 false (.pick 64 (.t 51) (.t 63) (.c (.bool false)))<|Zo (.pick 65 (.t 47) (.c (.bool true)) (.t 64)) .nil)<| .cond (.t 65) (.rg (Zm 66 8<|Zm 6 66 .nil)) .skip)<| .rg (Zm 15 8<|Zk 16 .add 15 1<|Zm 8 16 .nil))<|Zr (Zm 67 6<|Zm 68 7<|Zm 4 67<|Zm 5 68 .nil) .ret⟩
theorem ak0:Qe Tryz.prog Tryz.f34=some KY:=by kernel_rfl
def KV:aA:=⟨16,[.t 6],Zr (Zo (.box 5 3 43 (.t 2))<|Zo (.mv 6 (.c .aa)) .nil)<|Zr (Zm 8 0<|Zo (.mk 9 1 24 32 .aa (.t 8) (.t 8))<| .wk<|Zm 7 9 .nil)<|Zr (Zm 10 7<|Zm 11 1<|Zh 12 3 5<|Zq 13 false 25 [.t 12]<|Zi 14 1 10 11<|Zs 1 14 13 .nil)<|Zr (Zm 15 7<|Zm 6 15 .nil) .ret⟩
theorem ak1:Qe Tryz.prog Tryz.f31=some KV.strip:=by kernel_rfl
def KU:aA:=⟨35,[.cell 2 2 true],Zr (Zo (.box 1 2 34 (.t 0))<|Zo (.alloc 2 2 34 (.agg [.aa,.aa])) .nil)<|Zr (Zf 8 0 1<|Zl 9 1 8<|Zq 10 false 70 [.t 9]<|Zm 7 10<|Zo (.ext 11 (.t 7) 0)<|Zo (.ext 12 (.t 7) 1)<|Zo (.alloc 4 3 43 (.agg [.bool false,.aa,.aa]))<|Zm 3 11<|Zs 3 4 12 .nil)<|Zr (Zm 13 3<|Zo (.bU 14 [.aa,.aa] [(0,1,.t 13)])<|Zo (.alloc 5 2 34 (.agg [.aa,.aa]))<|Zs 2 5 14<| .wk<| .wk<| .wk .nil)<| .seq (Zr (Zc 6 0 .nil)<| .block 0<| .loop<| .seq (Zr (Zm 15 6<|Zf 16 1 1<|Zl 17 1 16<|Zn 18 17<|Zb 19 .lss 15 18 .nil)<| .cond (.t 19) .skip (.exit 0))<| .seq (.block 1<| .rg (Zf 22 1 5<|Zl 23 1 22<|Zf 24 1 1<|Zl 25 1 24<|Zm 26 6<|Zi 27 1 25 26<|Zl 28 1 27<|Zh 29 3 4<|Zq 30 true 71 [.t 28,.t 29]<|Zo (.bs 31 1 32 [.t 30])<|Zo (.app 32 1 24 32 (.t 23) (.t 31))<|Zf 33 1 5<|Zs 1 33 32 .nil))<| .rg (Zm 20 6<|Zk 21 .add 20 1<|Zm 6 21 .nil))<|Zr (Zh 34 2 5<| .wk<|Zs 2 2 34 .nil) .ret⟩
theorem ak2:Qe Tryz.prog Tryz.f30=some KU.strip:=by kernel_rfl
theorem afb{n i:Nat}(hi:i<n)(hn:n<=100):Qc Tryz.prog 31 [.int .i64 n,.int .i64 i,PV.rat ((1:Int):Rat)] (· =PV.ch (eD n i)):=by
 have h1:=l4;have ae:=Hi (a:=((1:Int):Rat)) (k:=1) (by have:((1:Int):Rat)=1:=rfl;rw[this];exact h1) (by omega);refine xA Qo Tryz.func31 rfl ak1 (by simp[KV]) fun C hP=>?_;simp only[KV,Zo,Zg,Zm,Zc,Zf,Zl,Zh,Zs,Zi,Zb,Zk,Zn,Zu,Zq,Zr,Zz];generalize hA:((1:Int):Rat)=a1 at *
 refine Sz0 ?_;refine mT (IF n 9 32 _ _ Tz0) ?_;have lZ:(List.replicate n ([]:List Tm)).length=n:=List.length_replicate;unfold eD;rw[hA];generalize List.replicate n ([]:List Tm)=Z at *
 have hiZ:i<Z.length:=by omega
 have ks:(Z.map PV.aj).set i (PV.aj (dm a1))=(Z.set i (dm a1)).map PV.aj:=by rw[Kda]
 have M0:i<(Z.map PV.aj).length:=by rw[KaV];omega
 have hlS:(Z.set i (dm a1)).length=n:=by rw[Kb8,lZ]
 refine Sz0 ?_;refine Qa hP ae rfl rfl rfl ?_;refine Sz0 ?_;rw[Dj (n:=1) (v:=PV.sl 4 ((dm a1).map PV.term)) M0 rfl rfl];rw[show(Z.map PV.aj).set i (PV.sl 4 ((dm a1).map PV.term))=(Z.set i (dm a1)).map PV.aj from ks];generalize Z.set i (dm a1)=Y at *
 refine Sz0 ?_;have e0:List.take n (Y.map PV.aj)=Y.map PV.aj:=Kae (by rw[KaV];omega);refine tv ?_;refine tZ e0 ?_;exact Qd rfl rfl
theorem ada{x:aC}{E:Nat}(h1:∀t∈x.1,MB E t.2)(h2:x.1.length<=2^36)(h3:∀y∈x.2,(∀t∈y,MB E t.2)/\y.length<=2^36)(hl:x.2.length<=100):Qc Tryz.prog 75 [PV.el x] (· = .bool (uJ x)):=by
 obtain⟨p,cs⟩:=x;simp only at h1 h2 h3 hl;have hL:=zw h1 h2;have hc:∀i (h:i<cs.length),Qc Tryz.prog 135 [PV.aj cs[i]] (· = .bool (bh cs[i])):=fun i h=>zw (h3 _ (Kag h)).1 (h3 _ (Kag h)).2;have aG:∀i (h:i<cs.length),(bh p||(cs.take (i+1)).any bh)=((bh p||(cs.take i).any bh)||bh cs[i]):=fun i h=>by rw[Kah h,List.any_append];simp[Bool.or_assoc]
 refine Qf Qo Tryz.func75 rfl akY (by simp[LD]) fun C hP=>?_;simp only[LD,Zo,Zg,Zm,Zc,Zf,Zl,Zh,Zs,Zi,Zb,Zk,Zn,Zu,Zq,Zr,Zz];refine Sz0 ?_;refine Qa hP hL rfl rfl rfl ?_;refine Sz0 ?_;refine Qw (by repeat (first|exact Qr|exact Qk|exact Ql|exact Qm|exact Qn|apply Qj|apply Qq|apply Qx|apply Q5|apply Q6|apply Qi|apply Q2)) [(3,4),(8,23)] [] (fun m J hp=>∃i,m=cs.length-i/\i<=cs.length/\J 3= .bool (bh p||(cs.take i).any bh)/\J 4= .int .i64 (i:Nat)/\hp 1=some ⟨2,34,[PV.el (p,cs)],false⟩) cs.length ?_ ?_
 ·refine⟨0,rfl,by omega,?_⟩;refine Sz0 ?_
  first|trivial|simp
 rintro _ J h ⟨i,rfl,hi,j3,j4,hb⟩;by_cases c1:i<cs.length
 ·have d1:decide ((i:Int)<(cs.length:Int))=true:=decide_eq_true (by omega);have hc:=hc i c1;have aG:=aG i c1;generalize(bh p||(cs.take i).any bh)=b at *
  generalize hx:cs[i]=y at *
  refine Sz4 j3 j4 hb d1 ?_;cases b
  ·refine Sz5 j3 j4 hb d1 hx ?_;refine Qa hP hc rfl rfl rfl ?_;rw[Kcn]at aG;refine Sz5 j3 j4 hb d1 hx ?_;refine Qg (cs.length-(i+1)) (by omega) ⟨i+1,rfl,by omega,?_⟩;rw[aG];refine Sz1 hb ?_
   try trivial
  ·rw[KcN]at aG;refine Sz5 j3 j4 hb d1 hx ?_;refine Qg (cs.length-(i+1)) (by omega) ⟨i+1,rfl,by omega,?_⟩;rw[aG];refine Sz1 hb ?_
   try trivial
 ·obtain rfl:i=cs.length:=by omega
  have d1:decide ((cs.length:Int)<(cs.length:Int))=false:=decide_eq_false (by omega);rw[Kar]at j3;refine Sz4 j3 j4 hb d1 ?_;exact Qd rfl rfl
theorem adb{x:aC}{K E:Nat}(h1:PB K E x.1)(n1:az x.1)(h2:x.1.length<=2^36)(h3:∀y∈x.2,(∀t∈y,MB E t.2)/\y.length<=2^36)(hl:x.2.length<=100):Qc Tryz.prog 33 [PV.el x] (· = .int .i64 (eZ x)):=by
 have hL:=ada (fun t ht=>(h1 t ht).m) h2 h3 hl;have hM:=CW h1 n1 h2;unfold eZ;generalize uJ x=b at *
 obtain⟨p,cs⟩:=x;simp only at h1 n1 h2 hM;refine Qf Qo Tryz.func33 rfl akZ (by simp[KX]) fun C hP=>?_;simp only[KX,Zo,Zg,Zm,Zc,Zf,Zl,Zh,Zs,Zi,Zb,Zk,Zn,Zu,Zq,Zr,Zz];refine Sz0 ?_;refine Qa hP hL rfl rfl rfl ?_;cases b
 ·simp only[KaJ,if_false];by_cases c1:0<p.length
  ·have d1:decide ((p.length:Int)>0)=true:=decide_eq_true (by omega);have yz:decide (0<(p.length:Int))=true:=decide_eq_true (by omega);by_cases c2:Qv p<0
   ·have d2:decide (Qv p<0)=true:=decide_eq_true c2;rw[if_pos ⟨c1,c2⟩];refine Sz3 d1 yz d2 ?_;refine Qa hP hM rfl rfl rfl ?_;refine Sz3 d1 yz d2 ?_;exact Qd rfl rfl
   ·have d2:decide (Qv p<0)=false:=decide_eq_false c2;rw[if_neg fun h=>c2 h.2];refine Sz3 d1 yz d2 ?_;refine Qa hP hM rfl rfl rfl ?_;refine Sz3 d1 yz d2 ?_;exact Qd rfl rfl
  ·have d1:decide ((p.length:Int)>0)=false:=decide_eq_false (by omega);have yz:decide (0<(p.length:Int))=false:=decide_eq_false (by omega);rw[if_neg fun h=>c1 h.1];refine Sz2 d1 yz ?_;exact Qd rfl rfl
 ·refine Sz0 ?_;exact Qd rfl rfl
theorem YA{p q:List Tm}{cs ds:List (List Tm)}{a:Rat}(hlen:ds.length=cs.length)(hl:cs.length<=100)
  (vY:Qc Tryz.prog 70 [PV.aj p] (· = .au [PV.aj q,PV.rat a])) (vZ:∀i (h:i<cs.length),Qc Tryz.prog 71 [PV.aj cs[i],PV.rat a] (· =PV.aj (ds.getD i []))):
  Qc Tryz.prog 30 [PV.el (p,cs)] (· =PV.el (q,ds)):=by
 refine xA Qo Tryz.func30 rfl ak2 (by simp[KU]) fun C hP=>?_;simp only[KU,Zo,Zg,Zm,Zc,Zf,Zl,Zh,Zs,Zi,Zb,Zk,Zn,Zu,Zq,Zr,Zz];refine Sz0 ?_;refine Qa hP vY rfl rfl rfl ?_;refine Sz0 ?_;refine mT (Gz 5 2000001 cH (by omega) rfl (by omega)) ?_;refine Sz0 ?_;refine mT (Gj (γ:=2000001) (e:=2) (ty:=34) (xs:=[.agg [PV.aj q,.aa]]) (fz:=false) cH (by simp) (by omega) (fun x hx=>by rw[KaL.1 hx];rfl)) ?_;refine Sz0 ?_;refine mT (Pe (γ:=2000001) (e:=2) (ty:=34) (cs:=[PV.aj q,.aa]) (cs':=[PV.aj q,.ax 2000002 0 0]) 2000002 1 32 cH cH (by omega) (by omega) rfl (by simp)) ?_;refine Sz0 ?_;refine Al (by repeat (first|exact Qr|exact Qk|exact Ql|exact Qm|exact Qn|apply Qj|apply Qq|apply Qx|apply Q5|apply Q6|apply Qi|apply Q2)) [(5,6),(15,33),(2000001,2000001)] [31,32] (fun q' J hp=>∃k,q'=cs.length-k/\k<=cs.length/\J 5= .np 2000001 0 0/\J 6= .int .i64 (k:Nat)/\J 2000001= .aN 2000001 2 34 [.aX [PV.aj q,.ax 2000002 0 k]]/\hp 2000001=some ⟨2,34,[],false⟩/\
   hp 2000002=some ⟨1,32,(ds.take k).map PV.aj,false⟩/\hp 1=some ⟨2,34,[PV.el (p,cs)],false⟩/\hp 2=some ⟨2,34,[.agg [.aa,.aa]],false⟩/\hp 4=some ⟨3,43,[PV.rat a],false⟩) cs.length ?_ ?_
 ·refine⟨0,rfl,by omega,?_⟩;refine Sz0 ?_;rfl
 rintro _ J h ⟨k,rfl,hk,j5,j6,g5,k5,k0,kx,kr,ka⟩;by_cases c1:k<cs.length
 ·have d1:decide ((k:Int)<(cs.length:Int))=true:=decide_eq_true (by omega);have hc:=vZ k c1;have bj:ds.take (k+1)=ds.take k++[ds.getD k []]:=by rw[Kah (by omega)];simp[show k<ds.length by omega]
  have ry:k=(ds.take k).length:=by rw[KaH];omega
  generalize ds.getD k []=y at *
  generalize hx:cs[k]=x at *
  refine Sz5 j6 kx d1 hx ka ?_;refine Sz7 j5 j6 kx hx ka g5 k5 ?_;refine Qa hP hc rfl rfl rfl ?_;refine Sz5 j5 j6 kx g5 k5 ?_;rw[SX (f:=PV.aj) (y:=y) (xs:=ds.take k) (ty':=32) (fz:=false) (Tzr1 k0) cH (by omega) ry (by omega) (by omega) (by omega)];refine Sz4 j5 j6 g5 k5 ?_;refine xy (cs.length-(k+1)) (by omega) ⟨k+1,rfl,by omega,?_⟩;rw[bj];refine Sz6 j5 g5 k5 kx kr ka ?_
  try trivial
 ·obtain rfl:k=cs.length:=by omega
  have d1:decide ((cs.length:Int)<(cs.length:Int))=false:=decide_eq_false (by omega);have e0:(List.take ds.length ((ds.take cs.length).map PV.aj))=ds.map PV.aj:=by rw[hlen.symm,Kar,Kae (by simp)]
  rw[hlen]at e0;refine Sz7 j5 j6 g5 k5 kx kr d1 ?_;refine IA 34 2 [2000002] (p:=.aX [PV.aj q,.ax 2000002 0 cs.length]) Tz0 (D:=PV.el (q,ds)) ?_ ?_ rfl ?_
  ·intro c hc;simp only[KaP,Kdh,or_false]at hc;rcases hc with rfl|rfl
   ·trivial
   ·simp only[s0,bN];simp
  ·show PV.agg [_,ke _ h 2 (.ax 2000002 0 _)]=_;simp only[ke,k0,Kbp];rw[e0]
  refine tZ kr ?_;refine tv (dC ?_);refine Sz0 ?_;exact Qd rfl rfl
def AS:aA:=⟨69,[.cell 6 2 true,.t 7],Zr (Zo (.box 3 2 34 (.t 0))<|Zo (.box 4 2 34 (.t 1))<|Zo (.alloc 6 2 34 (.agg [.aa,.aa]))<|Zc 7 0 .nil)<|Zr (Zf 16 0 3<|Zl 17 1 16<|Zf 18 0 4<|Zl 19 1 18<|Zm 20 2<|Zq 21 false 78 [.t 17,.t 19,.t 20]<|Zm 15 21<|Zo (.ext 22 (.t 15) 0)<|Zo (.ext 23 (.t 15) 1)<|Zo (.ext 24 (.t 15) 2)<|Zo (.ext 25 (.t 15) 3)<|Zm 8 22<|Zm 9 23<|Zm 10 24<|Zm 11 25 .nil)<| .seq (Zr (Zm 26 11<|Zk 27 .neq 26 0 .nil)<| .cond (.t 27) (Zr (Zo (.bU 28 [.aa,.aa] [])<|Zm 29 11<|Zs 2 6 28<|Zm 7 29 .nil) .ret) .skip)<|Zr (Zf 30 0 4<|Zl 31 1 30<|Zq 32 false 80 [.t 31]<|Zm 33 10<|Zq 34 false 79 [.t 32,.t 33]<|Zm 12 34 .nil)<|Zr (Zm 35 9<|Zo (.bU 36 [.aa,.aa] [(0,1,.t 35)])<|Zo (.alloc 13 2 34 (.agg [.aa,.aa]))<|Zs 2 13 36<| .wk<| .wk<| .wk .nil)<| .seq (Zr (Zc 14 0 .nil)<| .block 0<| .loop<| .seq (Zr (Zm 37 14<|Zf 38 1 3<|Zl 39 1 38<|Zn 40 39<|Zb 41 .lss 37 40 .nil)<| .cond (.t 41) .skip (.exit 0))<| .seq (.block 1<| .rg (Zf 44 1 13<|Zl 45 1 44<|Zm 46 12<|Zf 47 1 3<|Zl 48 1 47<|Zm 49 14<|Zi 50 1 48 49<|Zl 51 1 50<|Zm 53 8<|Zf 54 1 4<|Zl 55 1 54<|Zm 56 14<|Zi 57 1 55 56<|Zl 58 1 57<|Zq 52 true 24 [.t 46,.t 51]<|Zq 59 true 24 [.t 53,.t 58]<|Zq 60 true 21 [.t 52,.t 59]<|Zo (.bs 61 1 32 [.t 60])<|Zo (.app 62 1 24 32 (.t 45) (.t 61))<|Zf 63 1 13<|Zs 1 63 62 .nil))<| .rg (Zm 42 14<|Zk 43 .add 42 1<|Zm 14 43 .nil))<|Zr (Zh 64 2 13<| .wk<|Zq 65 false 30 [.t 64]<|Zs 2 13 65 .nil)<|Zr (Zh 66 2 13<|Zh 67 2 13<|Zq 68 true 33 [.t 67]<|Zs 2 6 66<|Zm 7 68 .nil) .ret⟩
theorem R4:Qe Tryz.prog Tryz.f36=some AS.strip:=by kernel_rfl
theorem afc{f g:aC}{v:Int}{q r c:List Tm}{n:Nat}{x:aC}{e:Int}(hl:f.2.length<=100)(hlen:g.2.length=f.2.length)
  (hd:Qc Tryz.prog 78 [PV.aj f.1,PV.aj g.1,.int .i64 v] (· = .au [PV.aj q,PV.aj r,.int .i64 n,.int .i64 0]))
  (hi:Qc Tryz.prog 80 [PV.aj g.1] (· =PV.aj (cA g.1))) (qh:Qc Tryz.prog 79 [PV.aj (cA g.1),.int .i64 n] (· =PV.aj c))
  (ox:∀y∈f.2,Qc Tryz.prog 24 [PV.aj c,PV.aj y] (· =PV.aj (Q4 c y))) (ko:∀y∈g.2,Qc Tryz.prog 24 [PV.aj q,PV.aj y] (· =PV.aj (Q4 q y)))
  (uF:∀y∈f.2,∀z∈g.2,Qc Tryz.prog 21 [PV.aj (Q4 c y),PV.aj (Q4 q z)] (· =PV.aj (fV (Q4 c y) (Q4 q z))))
  (dt:Qc Tryz.prog 30 [PV.el (r,cD c q f.2 g.2)] (· =PV.el x)) (Bq:Qc Tryz.prog 33 [PV.el x] (· = .int .i64 e)):
  Qc Tryz.prog 36 [PV.el f,PV.el g,.int .i64 v] (· = .au [PV.el x,.int .i64 e]):=by
 obtain⟨fp,fc⟩:=f;obtain⟨gp,gc⟩:=g;simp only at *
 refine xA Qo Tryz.func36 rfl R4 (by simp[AS]) fun C hP=>?_;simp only[AS,Zo,Zg,Zm,Zc,Zf,Zl,Zh,Zs,Zi,Zb,Zk,Zn,Zu,Zq,Zr,Zz];refine Sz0 ?_;refine Qa hP hd rfl rfl rfl ?_;refine Sz0 ?_;rw[bO rfl];refine Sz0 ?_;refine Qa hP hi rfl rfl rfl ?_;refine Sz0 ?_;refine Qa hP qh rfl rfl rfl ?_;refine Sz0 ?_;refine mT (Gz 13 2000001 cH (by omega) rfl (by omega)) ?_;refine Sz0 ?_;refine mT (Gj (γ:=2000001) (e:=2) (ty:=34) (xs:=[.agg [PV.aj r,.aa]]) (fz:=false) cH (by simp) (by omega) (fun x hx=>by rw[KaL.1 hx];rfl)) ?_;refine Sz0 ?_;refine mT (Pe (γ:=2000001) (e:=2) (ty:=34) (cs:=[PV.aj r,.aa]) (cs':=[PV.aj r,.ax 2000002 0 0]) 2000002 1 32 cH cH (by omega) (by omega) rfl (by simp)) ?_;refine Sz0 ?_;refine Al (by repeat (first|exact Qr|exact Qk|exact Ql|exact Qm|exact Qn|apply Qj|apply Qq|apply Qx|apply Q5|apply Q6|apply Qi|apply Q2)) [(13,14),(37,63),(2000001,2000001)] [61,62] (fun q' J hp=>∃k,q'=fc.length-k/\k<=fc.length/\J 13= .np 2000001 0 0/\J 14= .int .i64 (k:Nat)/\J 2000001= .aN 2000001 2 34 [.aX [PV.aj r,.ax 2000002 0 k]]/\hp 2000001=some ⟨2,34,[],false⟩/\
   hp 2000002=some ⟨1,32,((cD c q fc gc).take k).map PV.aj,false⟩/\hp 3=some ⟨2,34,[PV.el (fp,fc)],false⟩/\hp 4=some ⟨2,34,[PV.el (gp,gc)],false⟩/\hp 6=some ⟨2,34,[.agg [.aa,.aa]],false⟩) fc.length ?_ ?_
 ·refine⟨0,rfl,by omega,?_⟩;refine Sz0 ?_;rfl
 rintro _ J h ⟨k,rfl,hk,kA,fO,g5,k5,k0,kx,ky,kr⟩;by_cases c1:k<fc.length
 ·have d1:decide ((k:Int)<(fc.length:Int))=true:=decide_eq_true (by omega);have c2:k<gc.length:=by omega
  have m1:=ox _ (Kag c1);have m2:=ko _ (Kag c2);have m3:=uF _ (Kag c1) _ (Kag c2);have hz:k<(cD c q fc gc).length:=by unfold cD;rw[KbU];omega
  have bj:(cD c q fc gc).take (k+1)=(cD c q fc gc).take k++[fV (Q4 c fc[k]) (Q4 q gc[k])]:=by rw[Kah hz];simp[cD]
  have ry:k=((cD c q fc gc).take k).length:=by rw[KaH];omega
  generalize(cD c q fc gc).take k=A at *
  generalize hx:fc[k]=y at *
  generalize hw:gc[k]=z at *
  refine Sz4 fO kx d1 hx ?_;refine Sz8 kA fO kx ky hx hw g5 k5 ?_;refine Qa hP m1 rfl rfl rfl ?_;refine Sz8 kA fO kx ky hx hw g5 k5 ?_;refine Qa hP m2 rfl rfl rfl ?_;refine Sz4 kA fO g5 k5 ?_;refine Qa hP m3 rfl rfl rfl ?_;refine Sz4 kA fO g5 k5 ?_;rw[SX (f:=PV.aj) (y:=fV (Q4 c y) (Q4 q z)) (xs:=A) (ty':=32) (fz:=false) (Tzr1 k0) cH (by omega) ry (by omega) (by omega) (by omega)];refine Sz4 kA fO g5 k5 ?_;refine xy (fc.length-(k+1)) (by omega) ⟨k+1,rfl,by omega,?_⟩;rw[bj];refine Sz6 kA g5 k5 kx ky kr ?_
  try trivial
 ·obtain rfl:k=fc.length:=by omega
  have d1:decide ((fc.length:Int)<(fc.length:Int))=false:=decide_eq_false (by omega);have fo:(cD c q fc gc).length=fc.length:=by unfold cD;rw[KbU];omega
  have e0:(List.take fc.length (((cD c q fc gc).take fc.length).map PV.aj))=(cD c q fc gc).map PV.aj:=by rw[<-fo,Kar,Kae (by simp)]
  generalize cD c q fc gc=A at *
  refine Sz8 kA fO g5 k5 kx ky kr d1 ?_;refine IA 64 2 [2000002] (p:=.aX [PV.aj r,.ax 2000002 0 fc.length]) Tz0 (D:=PV.el (r,A)) ?_ ?_ rfl ?_
  ·intro c hc;simp only[KaP,Kdh,or_false]at hc;rcases hc with rfl|rfl
   ·trivial
   ·simp only[s0,bN];simp
  ·show PV.agg [_,ke _ h 2 (.ax 2000002 0 _)]=_;simp only[ke,k0,Kbp];rw[e0]
  refine lk kA kr ?_;refine Qa hP dt rfl rfl rfl ?_;refine Je kA kr k5 g5 ?_;refine Qa hP Bq rfl rfl rfl ?_;refine tZ kr ?_;refine tv (iS ?_);refine Sz0 ?_;exact eV rfl rfl rfl (Qy _) (Qy _)
theorem Zw{f g:aC}{v:Int}(hd:Qc Tryz.prog 78 [PV.aj f.1,PV.aj g.1,.int .i64 v] (· = .au [PV.aj [],PV.aj [],.int .i64 0,.int .i64 4])):
  Qc Tryz.prog 36 [PV.el f,PV.el g,.int .i64 v] (· = .au [PV.el ([],[]),.int .i64 4]):=by
 obtain⟨fp,fc⟩:=f;obtain⟨gp,gc⟩:=g;simp only at *
 refine xA Qo Tryz.func36 rfl R4 (by simp[AS]) fun C hP=>?_;simp only[AS,Zo,Zg,Zm,Zc,Zf,Zl,Zh,Zs,Zi,Zb,Zk,Zn,Zu,Zq,Zr,Zz];refine Sz0 ?_;refine Qa hP hd rfl rfl rfl ?_;refine Sz0 ?_;rw[bO rfl];refine Sz0 ?_;refine tv (iS ?_);refine Sz0 ?_;exact eV (p':=PV.el ([],[])) rfl rfl rfl ⟨trivial,trivial,trivial⟩ (Qy _)
theorem ZY{l:List aC}{v K E:Nat}(hv:v<64)(hp:∀x∈l,PB K E x.1/\az x.1/\x.1.length<=2^30)(hK:K<=2^33)(hE:E<=2^38)(hl:l.length<=100):
  Qc Tryz.prog 34 [.sl 2 (l.map PV.el),.int .i64 v] (· = .au [.int .i64 (cG l v).1,.int .i64 (cG l v).2]):=by
 refine Qf Qo Tryz.func34 rfl ak0 (by simp[KY]) fun C hP=>?_;simp only[KY,Zo,Zg,Zm,Zc,Zf,Zl,Zh,Zs,Zi,Zb,Zk,Zn,Zu,Zq,Zr,Zz];refine Sz0 ?_;refine Qw (by repeat (first|exact Qr|exact Qk|exact Ql|exact Qm|exact Qn|apply Qj|apply Qq|apply Qx|apply Q5|apply Q6|apply Qi|apply Q2)) [(6,66)] [] (fun m J hp=>∃i,m=l.length-i/\i<=l.length/\J 6= .int .i64 (iJ l v i).1/\J 7= .int .i64 (iJ l v i).2/\J 8= .int .i64 (i:Nat)) l.length ?_ ?_
 ·refine⟨0,rfl,by omega,?_⟩;refine Sz0 ?_
  try (first|rfl|exact⟨rfl,rfl⟩|exact⟨rfl,rfl,rfl⟩)
 rintro _ J h ⟨i,rfl,hi,j6,j7,fO⟩;obtain⟨s1,s2,s3⟩:=Eo l v i;have cU:=Dy l v i;generalize aG:iJ l v i=st at *
 obtain⟨at_,n⟩:=st;simp only at s1 s2 s3 j6 j7;by_cases c1:i<l.length
 ·have d1:decide ((i:Int)<(l.length:Int))=true:=decide_eq_true (by omega);obtain⟨b1,b2,b3⟩:=hp _ (Kag c1);have hm:=CW b1 b2 (by omega:_<=2^36);have eH:l.getD i default=l[i]:=by simp[c1]
  unfold xV at cU;rw[eH]at cU;generalize hx:l[i]=x at *
  refine Sz3 fO d1 hx ?_;refine Qa hP hm rfl rfl rfl ?_;by_cases e1:Qv x.1=v
  ·have q1:decide (¬Qv x.1=(v:Int))=false:=decide_eq_false fun h=>h e1;have s9:(!decide (Qv x.1=(v:Int)))=false:=by simp[e1]
   rw[if_neg (by simpa using e1)]at cU;by_cases e2:at_<0
   ·have q2:decide (at_<0)=true:=decide_eq_true e2;simp only[e2,if_true]at cU;refine Sz8 j6 j7 fO d1 hx q1 s9 q2 ?_;refine Qg (l.length-(i+1)) (by omega) ⟨i+1,rfl,by omega,?_⟩;rw[cU];refine Sz2 j6 j7 ?_
    try (first|rfl|trivial|exact⟨rfl,rfl⟩|exact⟨rfl,rfl,rfl⟩)
   ·have q2:decide (at_<0)=false:=decide_eq_false e2;simp only[e2,if_false]at cU;obtain⟨a,rfl⟩:∃a:Nat,at_=a:=⟨at_.toNat,by omega⟩
    have ha:a<l.length:=by omega
    obtain⟨b4,b5,b6⟩:=hp _ (Kag ha);have MW:l.getD ((a:Int)).toNat default=l[a]:=by simp[ha]
    rw[MW]at cU;generalize hy:l[a]=y at *
    have fM:=xa (v:=(v:Int)) b1 (by omega:_<=2^36);have gl:=xa (v:=(v:Int)) b4 (by omega:_<=2^36);rw[mO]at fM gl;have hc:=Tx b1 b4 hK hE (by omega) (by omega);unfold yo at cU;generalize Q3 x.1 v=dx at *
    generalize Q3 y.1 v=dy at *
    generalize ia x.1 y.1=cv at *
    refine Sz9 j6 j7 fO d1 hx hy q1 s9 q2 ?_;refine Qa hP fM rfl rfl rfl ?_;refine Sz0 ?_;refine Qa hP gl rfl rfl rfl ?_;by_cases e3:dx<dy
    ·have q3:decide (dx<dy)=true:=decide_eq_true e3;rw[q3]at cU;simp only[KcN,if_true]at cU;refine Sz7 j6 j7 fO d1 hx hy q3 ?_;refine Qg (l.length-(i+1)) (by omega) ⟨i+1,rfl,by omega,?_⟩;rw[cU];refine Sz2 j6 j7 ?_
     try (first|rfl|trivial|exact⟨rfl,rfl⟩|exact⟨rfl,rfl,rfl⟩)
    have q3:decide (dx<dy)=false:=decide_eq_false e3;rw[q3]at cU;simp only[Kcn]at cU;by_cases e4:dx=dy
    ·have q4:decide (dx=dy)=true:=decide_eq_true e4;rw[q4]at cU;simp only[KbZ]at cU;refine Sz8 j6 j7 fO d1 hx hy q3 q4 ?_;refine Qa hP hc rfl rfl rfl ?_;by_cases e5:cv<0
     ·have q5:decide (cv<0)=true:=decide_eq_true e5;simp only[q5,if_true]at cU;refine Sz9 j6 j7 fO d1 hx hy q3 q4 q5 ?_;refine Qg (l.length-(i+1)) (by omega) ⟨i+1,rfl,by omega,?_⟩;rw[cU];refine Sz2 j6 j7 ?_
      try (first|rfl|trivial|exact⟨rfl,rfl⟩|exact⟨rfl,rfl,rfl⟩)
     ·have q5:decide (cv<0)=false:=decide_eq_false e5;simp only[q5,KaJ,if_false]at cU;refine Sz9 j6 j7 fO d1 hx hy q3 q4 q5 ?_;refine Qg (l.length-(i+1)) (by omega) ⟨i+1,rfl,by omega,?_⟩;rw[cU];refine Sz2 j6 j7 ?_
      try (first|rfl|trivial|exact⟨rfl,rfl⟩|exact⟨rfl,rfl,rfl⟩)
    ·have q4:decide (dx=dy)=false:=decide_eq_false e4;simp only[q4,Kc8,KaJ,if_false]at cU;refine Sz8 j6 j7 fO d1 hx hy q3 q4 ?_;refine Qg (l.length-(i+1)) (by omega) ⟨i+1,rfl,by omega,?_⟩;rw[cU];refine Sz2 j6 j7 ?_
     try (first|rfl|trivial|exact⟨rfl,rfl⟩|exact⟨rfl,rfl,rfl⟩)
  ·have q1:decide (¬Qv x.1=(v:Int))=true:=decide_eq_true e1;have s9:(!decide (Qv x.1=(v:Int)))=true:=by simp[e1]
   rw[if_pos (by simpa using e1)]at cU;refine Sz7 j6 j7 fO d1 hx q1 s9 ?_;refine Qg (l.length-(i+1)) (by omega) ⟨i+1,rfl,by omega,?_⟩;rw[cU];refine Sz2 j6 j7 ?_
   try (first|rfl|trivial|exact⟨rfl,rfl⟩|exact⟨rfl,rfl,rfl⟩)
 ·obtain rfl:i=l.length:=by omega
  have d1:decide ((l.length:Int)<(l.length:Int))=false:=decide_eq_false (by omega);refine Sz4 j6 j7 fO d1 ?_;exact eV (by unfold cG;rw[aG]) rfl rfl (Qy _) (Qy _)
def y8(x:aC)(e:Int):aC:=if e=0 then x else([],[])
theorem Q9r(x:aC):oJ (bh x.1) (x.2.any bh) (decide (Qv x.1<0)) x.1 x.2= .au [PV.el (y8 x (eZ x)),.int .i64 (eZ x)]:=by
 unfold oJ eZ uJ y8;cases h1:(bh x.1||x.2.any bh)
 ·simp only[KaJ,if_false];by_cases h2:0<x.1.length
  ·by_cases h3:Qv x.1<0
   ·simp[h2,h3]
   ·simp[h2,h3]
  ·simp[h2]
 ·simp
structure uT(p:List Tm)(cs:List (List Tm)):Prop where
 b:PB 115200 2500 p
 n:az p
 l:p.length<=4000
 r:rs (eT p)<=115200
 k:cs.length<=100
 c:∀c∈cs,PB 400000 5000 c/\az c/\c.length<=2^34
theorem uT.x{p:List Tm}{cs:List (List Tm)}(h:uT p cs):PB 800000 5000 (di p cs).1/\az (di p cs).1/\(di p cs).1.length<=4000/\∀y∈(di p cs).2,PB 800000 5000 y/\az y/\y.length<=2^34:=by have hr:=h.r;refine⟨(xw (L:=115201) h.b (by omega)).mono (by omega) (by omega),qC h.n.s _,Kaw (uW _ _) h.l,fun y hy=>?_⟩;obtain⟨c,hc,rfl⟩:=KaE.1 hy;obtain⟨c1,c2,c3⟩:=h.c c hc;exact⟨(xw (L:=115201) c1 (by omega)).mono (by omega) (by omega),qC c2.s _,Kaw (uW _ _) c3⟩
theorem Qtp:Qc Tryz.prog 120 [PV.aj []] (· = .au [PV.aj [],PV.rat ((1:Int):Rat)]):=Qvj
theorem I9{p:List Tm}{cs:List (List Tm)}(h:uT p cs):Qc Tryz.prog 66 [PV.aj p,PV.ch cs] (· = .au [PV.el (y8 (di p cs) (eZ (di p cs))),.int .i64 (eZ (di p cs))]):=by
 obtain⟨x1,x2,x3,x4⟩:=h.x;have hr:=h.r;have hl:=h.l;have e:(di p cs).2.length=cs.length:=by simp[di]
 have hP:Qc Tryz.prog 120 [PV.aj p] (· = .au [PV.aj (di p cs).1,PV.rat (eT p)]):=by
  show Qc _ _ _ (· = .au [PV.aj (b8 p (eT p)),PV.rat (eT p)]);unfold eT;split
  ·rename_i h0;subst h0;rw[xt];exact Qtp
  ·exact Sm (K:=115200) (E:=2500) h.b h.n ‹_› (by omega) (by omega) (by omega)
 have hG:=SL (p:=p) (q:=(di p cs).1) (cs:=cs) (ds:=(di p cs).2) (a:=eT p) e h.k hP (fun i hi=>?_) (En (fun t ht=>(x1 t ht).m) (by omega)) (Sk (g:=bh) (fun t ht=>En (fun s hs=>((x4 t ht).1 s hs).m) (by have:=(x4 t ht).2.2;omega)) (by have:=h.k;omega)) (UF x1 (by omega))
 ·rwa[Q9r]at hG
 ·obtain⟨c1,c2,c3⟩:=h.c _ (Kag hi);have e2:(di p cs).2.getD i []=b8 cs[i] (eT p):=by simp[di,hi]
  rw[e2];exact CK (K:=400000) (E:=5000) c1 (by omega) (by omega) (by omega) (by omega)
theorem HA{p:List Tm}{cs:List (List Tm)}(h:uT p cs):Qc Tryz.prog 30 [PV.el (p,cs)] (· =PV.el (di p cs))/\Qc Tryz.prog 33 [PV.el (di p cs)] (· = .int .i64 (eZ (di p cs))):=by
 obtain⟨x1,x2,x3,x4⟩:=h.x;have hr:=h.r;have hl:=h.l;have e:(di p cs).2.length=cs.length:=by simp[di]
 have hP:Qc Tryz.prog 70 [PV.aj p] (· = .au [PV.aj (di p cs).1,PV.rat (eT p)]):=by
  show Qc _ _ _ (· = .au [PV.aj (b8 p (eT p)),PV.rat (eT p)]);unfold eT;split
  ·rename_i h0;subst h0;rw[xt];exact Qvk
  ·exact Qto (K:=115200) (E:=2500) h.b h.n ‹_› (by omega) (by omega) (by omega)
 refine⟨?_,adb x1 x2 (by omega) (fun y hy=>⟨fun t ht=>((x4 y hy).1 t ht).m,by have:=(x4 y hy).2.2;omega⟩) (by rw[e];exact h.k)⟩;refine YA (p:=p) (q:=(di p cs).1) (cs:=cs) (ds:=(di p cs).2) (a:=eT p) e h.k hP (fun i hi=>?_);obtain⟨c1,c2,c3⟩:=h.c _ (Kag hi);have e2:(di p cs).2.getD i []=b8 cs[i] (eT p):=by simp[di,hi]
 rw[e2];exact GO (K:=400000) (E:=5000) c1 c2.z (by omega) (by omega) (by omega) (by omega)
section
variable {m j Tf Tg v : Nat} {f g : aC}
theorem eK.VC(h:eK m j Tf Tg v f g):PB 23100 500 g.1/\PB 23100 500 f.1:=by obtain⟨n1,n2,_⟩:=h.num;have:=(jm h.hj).1;exact⟨h.hg.pb.mono (by omega) (by omega),h.hf.pb.mono (by omega) (by omega)⟩
theorem oF.pw(h:eK m j Tf Tg v f g){q r:List Tm}{n:Nat}(o:oF m j Tf Tg v f g q r n):∀i,i<=n->PB 92200 2000 (cy (cA g.1) i)/\(cy (cA g.1) i).length<=2001:=by
 intro i hi;obtain⟨n1,n2,n3,n4,_⟩:=h.num;obtain⟨h1,h2,h3,h4,h5,h6,h7,h8,h9,bK,cu⟩:=jm h.hj;obtain⟨i1,i2,i3,i4⟩:=o.ni;have hn:=o.nn.2;have hs:=i3.y9 i;have e1:i*bL j<=4*23028:=KaK (by omega) h1;have e2:i*Tg<=nL j*tL j:=KaK (by omega) h.tg;have hb:=hs.PB;refine⟨hb.mono (by omega) (by omega),?_⟩;have hc:=ZW hb (tE i2 i) (i1.y9 i);have hv:v=0∨v=1∨v=2:=by have:=h.hv;omega
 rcases hv with e|e|e
 ·subst e;simp at hc;omega
 ·subst e;simp at hc;omega
 ·obtain⟨l1,l2⟩:=N9 (h.lo e);subst e;have:i*Tg+1<=9:=by rw[l1,l2]at e2;omega
  have:=Nat.pow_le_pow_left this 2;omega
theorem oF.Mb(h:eK m j Tf Tg v f g){q r:List Tm}{n:Nat}(o:oF m j Tf Tg v f g q r n){u w:List Tm}(hu:u∈f.2)(hw:w∈g.2):
  PB 300000 5000 (Q4 (cy (cA g.1) n) u)/\PB 300000 5000 (Q4 q w)/\(Q4 (cy (cA g.1) n) u).length<=2^33/\(Q4 q w).length<=2^33:=by
 obtain⟨n1,n2,n3,n4,_⟩:=h.num;obtain⟨h1,h2,h3,h4,h5,h6,h7,h8,h9,bK,cu⟩:=jm h.hj;obtain⟨s1,s2,_,_⟩:=o.yx h hu hw;have e1:n*bL j<=4*23028:=KaK (by have:=o.nn.2;omega) h1;have hn:=o.nn.2;have hc:=(o.pw h n (Kac _))
 have l1:=qE (h.hf.c u hu).2.2;have l2:=qE (h.hg.c w hw).2.2;have p1:=(xm hc.1 (h.hf.c u hu).1.PB).2;have p2:=(xm o.sq.PB (h.hg.c w hw).1.PB).2;have m1:(cy (cA g.1) n).length*u.length<=2001*4000:=KaK hc.2 l1;have m2:q.length*w.length<=4000*4000:=KaK o.lq l2;exact⟨s1.PB.mono (by omega) (by omega),s2.PB.mono (by omega) (by omega),by omega,by omega⟩
theorem oF.pri(h:eK m j Tf Tg v f g){q r:List Tm}{n:Nat}(o:oF m j Tf Tg v f g q r n):uT r (cD (cy (cA g.1) n) q f.2 g.2):=by
 obtain⟨n1,n2,n3,n4,_⟩:=h.num;obtain⟨h1,h2,h3,h4,h5,h6,h7,h8,h9,bK,cu⟩:=jm h.hj;have hn:=o.nn.2;have e3:nL j*Tg<=4*500:=KaK n3 n2;refine⟨o.sr.PB.mono (by omega) (by omega),o.nr,o.lr,Kaw o.AY h6,?_,fun c hc=>?_⟩
 ·have:=h.hm;rw[cD,KbU,h.hf.k,h.hg.k];omega
 ·obtain⟨u,hu,w,hw,rfl⟩:=Eb hc;obtain⟨s1,s2,m1,m2⟩:=o.yx h hu hw;obtain⟨_,_,l1,l2⟩:=o.Mb h hu hw;have s3:=(s1.mono (Kac _) (Kac _) (by omega:nL j*tL j+eL j<=tL j+nL j*tL j+eL j)).wW s2;have e1:n*bL j<=4*23028:=KaK (by omega) h1;refine⟨s3.PB.mono (by omega) (by omega),vn m1 m2,?_⟩;have:=tk (Q4 (cy (cA g.1) n) u) (lj (Q4 q w));have h5:=uW (Q4 q w) (-1);unfold fV;unfold lj at *
  omega
theorem QF(h:eK m j Tf Tg v f g):jG g.1 v (Q3 g.1 v).toNat ((Q3 f.1 v).toNat+1) [] f.1 0=PV.dv (l5 f.1 g.1):=by obtain⟨_,_,_,_,_,_,_,n8,_⟩:=h.num;rw[AB];unfold l5;rw[n8]
theorem Sh(h:eK m j Tf Tg v f g):Qc Tryz.prog 69 [PV.el f,PV.el g,.int .i64 v] (· = .au [PV.el (y8 (eh f g).1 (eh f g).2),.int .i64 (eh f g).2]):=by
 obtain⟨n1,n2,n3,n4,n5,n6,n7,n8,n9⟩:=h.num;obtain⟨g1,g2⟩:=h.VC;have qX:=h.hd;have hm:=h.hm;have hfk:=h.hf.k;have yN:=h.hg.k;have hD:=GK (f:=f.1) (g:=g.1) (v:=v) (d:=(Q3 g.1 v).toNat) (N:=(Q3 f.1 v).toNat+1) (K:=115200) (E:=2500) (M:=4000) h.hf.n h.hg.n (g1.mono (by omega) (by omega)) (by have:=h.hv;omega) (rW (by have:=h.mg;omega)) n6.symm (by omega) h.hf.l
  (fun k hk=>h.XU _ k (by omega)) h.hg.len (by omega) (by omega) (by omega) (by omega) (by omega) (by omega) (by omega)
 rw[QF h]at hD;unfold eh;cases hd:l5 f.1 g.1 with
 |none=>rw[hd,I6]at hD;exact Yy hD
 | some d=>
  obtain⟨q,r,n⟩:=d;have o:=h.out hd;rw[hd,I7]at hD;have hn:=o.nn.2;obtain⟨i1,i2,i3,i4⟩:=o.ni;have qh:=o.pw h;have o5:=qh n (Kac _);refine OE (by omega) (by omega) hD (GF g1 (by have:=h.hg.len;omega)) (IE (K:=92200) (E:=2000) (L:=4000) (by omega) (i3.PB.mono ?_ (by omega)) (fun i hi=>⟨(qh i hi).1,by have:=(qh i hi).2;omega⟩) i4 (by omega) (by omega) (by omega) (by omega)) ?_ ?_ ?_ (I9 (o.pri h))
  ·have:=(jm h.hj).1;omega
  ·intro y hy;have l1:=qE (h.hf.c y hy).2.2;have m1:(cy (cA g.1) n).length*y.length<=2001*4000:=KaK o5.2 l1;have m3:min (cy (cA g.1) n).length y.length<=4000:=by omega
   refine rP (K:=140000) (E:=5000) (o5.1.mono (by omega) (by omega)) ((h.hf.c y hy).1.PB.mono ?_ ?_) (by omega) (by omega) (by omega) (by omega) (Kaw (Kaf _ m3) (by decide+kernel)) (by omega)
   ·have:=(jm h.hj);omega
   ·have:=(jm h.hj);omega
  ·intro y hy;have l1:=qE (h.hg.c y hy).2.2;have lq:=o.lq;have m1:q.length*y.length<=4000*4000:=KaK o.lq l1;have m3:min q.length y.length<=4000:=by omega
   have e3:nL j*Tg<=4*500:=KaK n3 n2;refine rP (K:=140000) (E:=5000) (o.sq.PB.mono ?_ (by omega)) ((h.hg.c y hy).1.PB.mono ?_ ?_) (by omega) (by omega) (by omega) (by omega) (Kaw (Kaf _ m3) (by decide+kernel)) (by omega)
   ·have:=(jm h.hj);omega
   ·have:=(jm h.hj);omega
   ·have:=(jm h.hj);omega
  ·intro y hy z hz;obtain⟨c1,c2,c3,c4⟩:=o.Mb h hy hz;exact Hr c1 c2 (by omega) (by omega) (by omega) (by omega) (by omega)
theorem aif(h:eK m j Tf Tg v f g):Qc Tryz.prog 36 [PV.el f,PV.el g,.int .i64 v] (· = .au [PV.el (eh f g).1,.int .i64 (eh f g).2]):=by
 obtain⟨n1,n2,n3,n4,n5,n6,n7,n8,n9⟩:=h.num;obtain⟨g1,g2⟩:=h.VC;have qX:=h.hd;have hm:=h.hm;have hfk:=h.hf.k;have yN:=h.hg.k;have hD:=Qy2 (f:=f.1) (g:=g.1) (v:=v) (d:=(Q3 g.1 v).toNat) (N:=(Q3 f.1 v).toNat+1) (K:=115200) (E:=2500) (M:=4000) h.hf.n h.hg.n (g1.mono (by omega) (by omega)) (by have:=h.hv;omega) (rW (by have:=h.mg;omega)) n6.symm (by omega) h.hf.l
  (fun k hk=>h.XU _ k (by omega)) h.hg.len (by omega) (by omega) (by omega) (by omega) (by omega) (by omega) (by omega) (by omega)
 rw[QF h]at hD;unfold eh;cases hd:l5 f.1 g.1 with
 |none=>rw[hd,I6]at hD;exact Zw hD
 | some d=>
  obtain⟨q,r,n⟩:=d;have o:=h.out hd;rw[hd,I7]at hD;have hn:=o.nn.2;obtain⟨i1,i2,i3,i4⟩:=o.ni;have qh:=o.pw h;have o5:=qh n (Kac _);refine afc (by omega) (by omega) hD (Qxm g1 h.hg.n (by have:=h.hg.len;omega) (by omega) (by omega)) (ac7 (K:=92200) (E:=2000) (L:=4000) (by omega) (i3.PB.mono ?_ (by omega)) i2 (fun i hi=>⟨(qh i hi).1,by have:=(qh i hi).2;omega⟩) i4 (by omega) (by omega) (by omega)) ?_ ?_ ?_ (HA (o.pri h)).1 (HA (o.pri h)).2
  ·have:=(jm h.hj).1;omega
  ·intro y hy;have l1:=qE (h.hf.c y hy).2.2;have m1:y.length*(cy (cA g.1) n).length<=4000*2001:=KaK l1 o5.2;have:=rK (K:=140000) (E:=5000) (o5.1.mono (by omega) (by omega)) ((h.hf.c y hy).1.PB.mono (by have:=(jm h.hj);omega) (by have:=(jm h.hj);omega)) (tE i2 n).z (h.hf.c y hy).2.1.z (by omega) (by omega) (by omega) (by omega) (Kaw (Nat.add_le_add_right (Kaf _ l1) _) (by decide+kernel))
   rwa[vr (tE i2 n) (h.hf.c y hy).2.1]at this
  ·intro y hy;have l1:=qE (h.hg.c y hy).2.2;have lq:=o.lq;have m1:y.length*q.length<=4000*4000:=KaK l1 o.lq;have e3:nL j*Tg<=4*500:=KaK n3 n2;have:=rK (K:=140000) (E:=5000) (o.sq.PB.mono (by have:=(jm h.hj);omega) (by omega)) ((h.hg.c y hy).1.PB.mono (by have:=(jm h.hj);omega) (by have:=(jm h.hj);omega)) o.nq.z (h.hg.c y hy).2.1.z (by omega) (by omega) (by omega) (by omega) (Kaw (Nat.add_le_add_right (Kaf _ l1) _) (by decide+kernel))
   rwa[vr o.nq (h.hg.c y hy).2.1]at this
  ·intro y hy z hz;obtain⟨c1,c2,c3,c4⟩:=o.Mb h hy hz;obtain⟨_,_,_,m2⟩:=o.yx h hy hz;exact C3 c1 c2 m2.z (by omega) (by omega) (by omega) (by omega) (by omega)
end
end Go.Proofs.YtdjoomkeehihmaaGreat
namespace Go.Proofs.YtdjoomkeehihmaaGreat
open Go Go.FW
theorem QG{l:List (List Tm×List (List Tm))}{v K E:Nat}(hv:v<64)(hp:∀x∈l,PB K E x.1/\x.1.length<=2^30)(hK:K<=2^33)(hE:E<=2^38)(hl:l.length<=100):
  Qc Tryz.prog 28 [.sl 2 (l.map PV.el),.int .i64 v] (· = .au [.int .i64 (cG l v).1,.int .i64 (cG l v).2]):=by
 refine Qf Qo Tryz.func28 rfl akK (by simp[KS]) fun C hP=>?_;simp only[KS,Zo,Zg,Zm,Zc,Zf,Zl,Zh,Zs,Zi,Zb,Zk,Zn,Zu,Zq,Zr,Zz];refine Sz0 ?_;refine Qw (by repeat (first|exact Qr|exact Qk|exact Ql|exact Qm|exact Qn|apply Qj|apply Qq|apply Qx|apply Q5|apply Q6|apply Qi|apply Q2)) [(6,11),(14,60)] [9] (fun m J hp=>∃i,m=l.length-i/\i<=l.length/\J 6= .int .i64 (iJ l v i).1/\J 7= .int .i64 (iJ l v i).2/\J 14= .int .i64 (i:Nat)) l.length ?_ ?_
 ·refine⟨0,rfl,by omega,?_⟩;refine Sz0 ?_
  try (first|rfl|exact⟨rfl,rfl⟩|exact⟨rfl,rfl,rfl⟩)
 rintro _ J h ⟨i,rfl,hi,j6,j7,fO⟩;obtain⟨s1,s2,s3⟩:=Eo l v i;have cU:=Dy l v i;generalize aG:iJ l v i=st at *
 obtain⟨at_,n⟩:=st;simp only at s1 s2 s3 j6 j7;by_cases c1:i<l.length
 ·have d1:decide ((i:Int)<(l.length:Int))=true:=decide_eq_true (by omega);obtain⟨b1,b2⟩:=hp _ (Kag c1);have hm:=xf b1 (by omega:_<=2^36);have eH:l.getD i default=l[i]:=by simp[c1]
  unfold xV at cU;rw[eH]at cU;generalize hx:l[i]=x at *
  refine Sz3 fO d1 hx ?_;refine Qa hP hm rfl rfl rfl ?_;by_cases e1:Qv x.1=v
  ·have q1:decide (¬Qv x.1=(v:Int))=false:=decide_eq_false fun h=>h e1;have s9:(!decide (Qv x.1=(v:Int)))=false:=by simp[e1]
   rw[if_neg (by simpa using e1)]at cU;by_cases e2:at_<0
   ·have q2:decide (at_<0)=true:=decide_eq_true e2;simp only[e2,if_true]at cU;refine Sz8 j6 j7 fO d1 hx q1 s9 q2 ?_;refine Qg (l.length-(i+1)) (by omega) ⟨i+1,rfl,by omega,?_⟩;rw[cU];refine Sz2 j6 j7 ?_
    try (first|rfl|trivial|exact⟨rfl,rfl⟩|exact⟨rfl,rfl,rfl⟩)
   ·have q2:decide (at_<0)=false:=decide_eq_false e2;simp only[e2,if_false]at cU;obtain⟨a,rfl⟩:∃a:Nat,at_=a:=⟨at_.toNat,by omega⟩
    have ha:a<l.length:=by omega
    obtain⟨b3,b4⟩:=hp _ (Kag ha);have MW:l.getD ((a:Int)).toNat default=l[a]:=by simp[ha]
    rw[MW]at cU;generalize hy:l[a]=y at *
    have fM:=uU (v:=(v:Int)) b1 (by omega:_<=2^36);have gl:=uU (v:=(v:Int)) b3 (by omega:_<=2^36);rw[mO]at fM gl;have hc:=Q8y b1 b3 hK hE (by omega) (by omega);unfold yo at cU;generalize Q3 x.1 v=dx at *
    generalize Q3 y.1 v=dy at *
    generalize ia x.1 y.1=cv at *
    refine Sz9 j6 j7 fO d1 hx hy q1 s9 q2 ?_;refine Qa hP fM rfl rfl rfl ?_;refine Sz0 ?_;refine Qa hP gl rfl rfl rfl ?_;by_cases e3:dx<dy
    ·have q3:decide (dx<dy)=true:=decide_eq_true e3;rw[q3]at cU;simp only[KcN,if_true]at cU;refine Sz7 j6 j7 fO d1 hx hy q3 ?_;refine Qg (l.length-(i+1)) (by omega) ⟨i+1,rfl,by omega,?_⟩;rw[cU];refine Sz2 j6 j7 ?_
     try (first|rfl|trivial|exact⟨rfl,rfl⟩|exact⟨rfl,rfl,rfl⟩)
    have q3:decide (dx<dy)=false:=decide_eq_false e3;rw[q3]at cU;simp only[Kcn]at cU;by_cases e4:dx=dy
    ·have q4:decide (dx=dy)=true:=decide_eq_true e4;rw[q4]at cU;simp only[KbZ]at cU;refine Sz8 j6 j7 fO d1 hx hy q3 q4 ?_;refine Qa hP hc rfl rfl rfl ?_;by_cases e5:cv<0
     ·have q5:decide (cv<0)=true:=decide_eq_true e5;simp only[q5,if_true]at cU;refine Sz9 j6 j7 fO d1 hx hy q3 q4 q5 ?_;refine Qg (l.length-(i+1)) (by omega) ⟨i+1,rfl,by omega,?_⟩;rw[cU];refine Sz2 j6 j7 ?_
      try (first|rfl|trivial|exact⟨rfl,rfl⟩|exact⟨rfl,rfl,rfl⟩)
     ·have q5:decide (cv<0)=false:=decide_eq_false e5;simp only[q5,KaJ,if_false]at cU;refine Sz9 j6 j7 fO d1 hx hy q3 q4 q5 ?_;refine Qg (l.length-(i+1)) (by omega) ⟨i+1,rfl,by omega,?_⟩;rw[cU];refine Sz2 j6 j7 ?_
      try (first|rfl|trivial|exact⟨rfl,rfl⟩|exact⟨rfl,rfl,rfl⟩)
    ·have q4:decide (dx=dy)=false:=decide_eq_false e4;simp only[q4,Kc8,KaJ,if_false]at cU;refine Sz8 j6 j7 fO d1 hx hy q3 q4 ?_;refine Qg (l.length-(i+1)) (by omega) ⟨i+1,rfl,by omega,?_⟩;rw[cU];refine Sz2 j6 j7 ?_
     try (first|rfl|trivial|exact⟨rfl,rfl⟩|exact⟨rfl,rfl,rfl⟩)
  ·have q1:decide (¬Qv x.1=(v:Int))=true:=decide_eq_true e1;have s9:(!decide (Qv x.1=(v:Int)))=true:=by simp[e1]
   rw[if_pos (by simpa using e1)]at cU;refine Sz7 j6 j7 fO d1 hx q1 s9 ?_;refine Qg (l.length-(i+1)) (by omega) ⟨i+1,rfl,by omega,?_⟩;rw[cU];refine Sz2 j6 j7 ?_
   try (first|rfl|trivial|exact⟨rfl,rfl⟩|exact⟨rfl,rfl,rfl⟩)
 ·obtain rfl:i=l.length:=by omega
  have d1:decide ((l.length:Int)<(l.length:Int))=false:=decide_eq_false (by omega);refine Sz4 j6 j7 fO d1 ?_;exact eV (by unfold cG;rw[aG]) rfl rfl (Qy _) (Qy _)
def aT(l:List aC)(v:Nat):Nat:=(cG l v).1.toNat
def dA(l:List aC)(v:Nat)(x:aC):aC:=(eh x (l.getD (aT l v) default)).1
def lW(l:List aC)(v i:Nat):Int:=if i=aT l v∨Qv (l.getD i default).1≠v then 0 else(eh (l.getD i default) (l.getD (aT l v) default)).2
def pK(p:Nat->Bool):Nat->Nat->Nat
 |0,i=>i
 |n+1,i=>if p i then i else pK p n (i+1)
theorem GY(p:Nat->Bool):∀n i,i<=pK p n i/\pK p n i<=i+n/\(∀j,i<=j->j<pK p n i->p j=false)/\(pK p n i<i+n->p (pK p n i)=true)
 |0,i=>⟨Kac _,Kac _,fun j h1 h2=>absurd h2 (by simp[pK];omega),fun h=>absurd h (by simp[pK])⟩
 | n+1,i=>by
  rw[pK];cases h:p i
  ·obtain⟨h1,h2,h3,h4⟩:=GY p n (i+1);simp only[KaJ,if_false];refine⟨by omega,by omega,fun j hj1 wh=>?_,fun h=>h4 (by omega)⟩;by_cases e:j=i
   ·subst e;exact h
   ·exact h3 j (by omega) wh
  ·simp only[if_true];exact⟨Kac _,by omega,fun j h1 h2=>by omega,fun _=>h⟩
def dO(l:List aC)(v:Nat):Nat:=pK (fun i=>decide (lW l v i≠0)) l.length 0
theorem rR(l:List aC)(v:Nat):dO l v<=l.length/\(∀i,i<dO l v->lW l v i=0)/\(dO l v<l.length->lW l v (dO l v)≠0):=by
 obtain⟨h1,h2,h3,h4⟩:=GY (fun i=>decide (lW l v i≠0)) l.length 0;refine⟨by unfold dO;omega,fun i hi=>?_,fun h=>?_⟩
 ·have:=h3 i (by omega) hi;simpa using this
 ·have:=h4 (by unfold dO at h;omega);simpa[dO]using this
def il(l:List aC)(v:Nat):List aC:=eP l (aT l v) v (dA l v) l.length
structure pq(l:List aC):Prop where
 len:l.length<=100
 el:∀x∈l,PB 115300 2500 x.1/\az x.1/\x.1.length<=4000/\0<x.1.length
structure tX(v:Nat)(l:List aC):Prop where
 lb:pq l
 hv:v<64
 bA:aT l v<l.length
 Mf:(cG l v).1=(aT l v:Nat)
 dv:∀i (h:i<l.length),i≠aT l v->Qv l[i].1=v->∃m j Tf Tg,eK m j Tf Tg v l[i] l[aT l v]
inductive eX(v:Nat):Nat->List aC->Except Int (List aC)->Prop
 |stop {l:List aC}:pq l->(cG l v).2<=1->eX v 0 l (.ok l)
 |fail {l:List aC}:tX v l->2<=(cG l v).2->dO l v<l.length->eX v 0 l (.error (lW l v (dO l v)))
 |step {l:List aC} {n:Nat} {o:Except Int (List aC)}:tX v l->2<=(cG l v).2->dO l v=l.length->eX v n (il l v) o->eX v (n+1) l o
inductive Mk:Nat->List aC->Except Int (List aC)->Prop
 |done {l:List aC}:pq l->Mk 0 l (.ok l)
 |bad {v n:Nat} {l:List aC} {e:Int}:v<64->eX v n l (.error e)->Mk (v+1) l (.error e)
 |next {v n:Nat} {l l':List aC} {o:Except Int (List aC)}:v<64->eX v n l (.ok l')->Mk v l' o->Mk (v+1) l o
theorem eX.wN{v n:Nat}{l:List aC}{o:Except Int (List aC)}(h:eX v n l o):pq l:=by
 cases h with
 |stop h _=>exact h
 |fail h _ _=>exact h.lb
 |step h _ _ _=>exact h.lb
theorem Mk.wN{v:Nat}{l:List aC}{o:Except Int (List aC)}(h:Mk v l o):pq l:=by
 cases h with
 |done h=>exact h
 |bad _ h=>exact h.wN
 |next _ h _=>exact h.wN
theorem QH{l:List aC}(h:pq l){v:Nat}(hv:v<64):Qc Tryz.prog 34 [PV.ct l,.int .i64 v] (· = .au [.int .i64 (cG l v).1,.int .i64 (cG l v).2]):=
 ZY (K:=115300) (E:=2500) hv (fun x hx=>⟨(h.el x hx).1,(h.el x hx).2.1,by have:=(h.el x hx).2.2.1;omega⟩) (by omega) (by omega) h.len
theorem GC{l:List aC}(h:pq l){v:Nat}(hv:v<64):Qc Tryz.prog 28 [PV.ct l,.int .i64 v] (· = .au [.int .i64 (cG l v).1,.int .i64 (cG l v).2]):=
 QG (K:=115300) (E:=2500) hv (fun x hx=>⟨(h.el x hx).1,by have:=(h.el x hx).2.2.1;omega⟩) (by omega) (by omega) h.len
def gI(l:List aC)(v:Nat):Option aC:=if 0<=(cG l v).1 then some (l.getD (aT l v) default)else none
def su(l:List aC):List aC:=(List.range 64).filterMap (gI l)
def vT:Except Int (List aC)->PV
 |.ok l=>.au [PV.ct (su l),.int .i64 0]
 |.error e=>.au [PV.ct [],.int .i64 e]
theorem fJ{l:List aC}{i:Nat}(h:i<l.length):l.getD i default=l[i]:=by simp[h]
theorem tX.err{v:Nat}{l:List aC}(_h:tX v l){i:Nat}(hi:i<l.length)(h1:i≠aT l v)(h2:Qv l[i].1=v):lW l v i=(eh l[i] (l.getD (aT l v) default)).2:=by unfold lW;rw[fJ hi,if_neg (by simp[h1,h2])]
theorem Si{v:Nat}{l:List aC}(h:tX v l):Qc Tryz.prog 29 [PV.ct l,.int .i64 (aT l v:Nat),.int .i64 v] (· =if dO l v=l.length then .au [PV.ct (il l v),.int .i64 0]else .au [PV.ct [],.int .i64 (lW l v (dO l v))]):=by
 obtain⟨b1,b2,b3⟩:=rR l v;have bA:=h.bA;refine PA (K:=115300) (E:=2500) (bad:=dO l v) (er:=lW l v (dO l v)) (R:=dA l v) h.lb.len h.bA (fun x hx=>⟨(h.lb.el x hx).1,by have:=(h.lb.el x hx).2.2.1;omega⟩) b1 (fun i hi gR h1 h2=>?_) (fun hb=>?_)
 ·obtain⟨m,j,Tf,Tg,hD⟩:=h.dv i hi h1 h2;have hs:=Sh hD;have he:=b2 i gR;rw[h.err hi h1 h2,fJ h.bA]at he;rw[he]at hs;have bA:=h.bA;have hR:dA l v l[i]=(eh l[i] l[aT l v]).1:=by unfold dA;rw[fJ h.bA]
  rw[hR];refine⟨hs,?_⟩;unfold eh at he⊢;cases hd:l5 l[i].1 l[aT l v].1 with
  |none=>simp
  |some d=>obtain⟨q,r,n⟩:=d;have o:=hD.out hd;have:=(o.pri hD).x.2.2.1;show(di r _).1.length<=_;omega
 ·have he:=b3 hb;have aO:¬(dO l v=aT l v∨Qv (l.getD (dO l v) default).1≠v):=fun hc=>he (by unfold lW;rw[if_pos hc]);rw[fJ hb]at aO;simp only[not_or,Decidable.not_not]at aO;obtain⟨m,j,Tf,Tg,hD⟩:=h.dv _ hb aO.1 aO.2;refine⟨aO.1,aO.2,he,?_⟩;have hs:=Sh hD;have e2:=h.err hb aO.1 aO.2;rw[fJ h.bA]at e2;rw[<-e2]at hs;unfold y8 at hs
  rwa[if_neg he]at hs
def dD(v:Nat)(x:aC):Bool:=decide (Qv x.1=(v:Int))
def dI(v:Int)(x:aC):Bool:=decide (v<Qv x.1)
theorem Ec(l:List aC)(v:Nat):∀i,i<=l.length->(iJ l v i).2=(l.take i).countP (dD v)/\((iJ l v i).2=0->(iJ l v i).1= -1)/\
  (0<(iJ l v i).2->∃a:Nat,(iJ l v i).1=a/\a<i/\Qv (l.getD a default).1=v/\∀k,k<i->Qv (l.getD k default).1=v->Q3 (l.getD a default).1 v<=Q3 (l.getD k default).1 v)
 |0,_=>by simp[iJ]
 | i +1,h=>by
  have hi:i<l.length:=by omega
  obtain⟨h1,h2,h3⟩:=Ec l v i (by omega);have hc:(l.take (i+1)).countP (dD v)=(l.take i).countP (dD v)+if Qv (l.getD i default).1=v then 1 else 0:=by rw[Kah hi,KcI,List.countP_singleton,fJ hi];simp[dD]
  rw[hc,Dy];generalize iJ l v i=st at *
  obtain⟨at_,n⟩:=st;simp only at h1 h2 h3;unfold xV;by_cases e:Qv (l.getD i default).1=v
  ·rw[if_neg (by simpa using e),if_pos e];have By:∀k,k<i+1->k<i∨k=i:=fun k hk=>by omega
   by_cases e2:at_<0
   ·simp only[e2,if_true];have mi:n=0:=by apply Decidable.byContradiction;intro hn;obtain⟨a,ha,_⟩:=h3 (by omega);omega
    refine⟨by omega,fun h=>by omega,fun _=>⟨i,rfl,by omega,e,fun k hk hm=>?_⟩⟩;rcases By k hk with hk|rfl
    ·exfalso;have:0<(l.take i).countP (dD v):=List.countP_pos_iff.2 ⟨l[k],List.mem_take_iff_getElem.2 ⟨k,by omega,rfl⟩,by rw[fJ (by omega)]at hm;simp[dD,hm]⟩;omega
    ·exact KcJ _
   ·have hn:0<n:=by apply Decidable.byContradiction;intro hn;have:=h2 (by omega);omega
    obtain⟨a,ha,a1,a2,a3⟩:=h3 hn;subst ha;simp only[e2,if_false,KbD];by_cases e3:yo v (l.getD i default).1 (l.getD a default).1=true
    ·rw[if_pos e3];refine⟨by simp only;omega,fun h=>by simp only at h;omega,fun _=>⟨i,rfl,by omega,e,fun k hk hm=>?_⟩⟩;simp only[yo,KbS,Kat,decide_eq_true_eq]at e3;rcases By k hk with hk|rfl
     ·have:=a3 k hk hm;omega
     ·exact KcJ _
    ·rw[if_neg e3];refine⟨by simp only;omega,fun h=>by simp only at h;omega,fun _=>⟨a,rfl,by omega,a2,fun k hk hm=>?_⟩⟩;simp only[yo,KbS,Kat,decide_eq_true_eq]at e3;rcases By k hk with hk|rfl
     ·exact a3 k hk hm
     ·omega
  ·rw[if_pos e,if_neg e];refine⟨by omega,h2,fun hn=>?_⟩;obtain⟨a,ha,a1,a2,a3⟩:=h3 hn;refine⟨a,ha,by omega,a2,fun k hk hm=>?_⟩;by_cases ek:k=i
   ·subst ek;exact absurd hm e
   ·exact a3 k (by omega) hm
theorem zO(l:List aC)(v:Nat):(cG l v).2=l.countP (dD v):=by
 have:=(Ec l v l.length (Kac _)).1
 rwa[Kar]at this
theorem xD{l:List aC}{v:Nat}(h:1<=(cG l v).2):(cG l v).1=(aT l v:Nat)/\∃ha:aT l v<l.length,Qv l[aT l v].1=v/\∀x∈l,Qv x.1=v->Q3 l[aT l v].1 v<=Q3 x.1 v:=by
 obtain⟨a,ha,a1,a2,a3⟩:=(Ec l v l.length (Kac _)).2.2 h;have e:aT l v=a:=by unfold aT cG;rw[ha];rfl
 rw[e];refine⟨ha,a1,by rwa[fJ a1]at a2,fun x hx hm=>?_⟩;obtain⟨k,hk,rfl⟩:=Ka8 hx;have:=a3 k hk (by rwa[fJ hk])
 rwa[fJ a1,fJ hk]at this
theorem Hw{l:List aC}{v:Nat}(h:(cG l v).2=0):(cG l v).1= -1:=(Ec l v l.length (Kac _)).2.1 h
theorem Es{l:List aC}{v:Nat}{y:aC}(h:y∈il l v)(hb:dO l v=l.length)(bA:aT l v<l.length):(y∈l/\(Qv y.1≠v∨y=l[aT l v]))∨∃i,∃hi:i<l.length,i≠aT l v/\Qv l[i].1=v/\y=(eh l[i] l[aT l v]).1/\(eh l[i] l[aT l v]).2=0/\0<y.1.length:=by
 unfold il eP at h;obtain⟨i,hi,hy⟩:=Kaq.1 h;have hi:i<l.length:=Kch.1 hi;have he:=(rR l v).2.1 i (by omega);unfold mP at hy;unfold lW at he;unfold dA at hy;rw[fJ hi]at hy he;rw[fJ bA]at hy he;split at hy
 ·rename_i hc;rw[KaL]at hy;subst hy;refine .inl ⟨Kag _,?_⟩;rcases hc with rfl|hc
  ·exact .inr rfl
  ·exact .inl hc
 ·rename_i hc;rw[if_neg hc]at he;simp only[not_or,Decidable.not_not]at hc;split at hy
  ·rename_i hl;rw[KaL]at hy;subst hy;exact .inr ⟨i,hi,hc.1,hc.2,rfl,he,hl⟩
  ·cases hy
theorem aih(l:List aC)(v:Nat):(il l v).length<=l.length:=DI _ _ _ _ _
theorem HC(l:List aC)(at_ v:Nat)(R:aC->aC)(i:Nat):eP l at_ v R (i+1)=eP l at_ v R i++mP l at_ v R i:=by unfold eP;rw[Kb0,Kb4];simp
theorem zC{l:List aC}{v i:Nat}(hi:i<l.length)(h:i=aT l v∨Qv l[i].1≠v):mP l (aT l v) v (dA l v) i=[l[i]]:=by unfold mP;rw[fJ hi,if_pos h]
theorem UJ{l:List aC}{v i:Nat}(hi:i<l.length)(h1:i≠aT l v)(h2:Qv l[i].1=v):mP l (aT l v) v (dA l v) i=if 0<(dA l v l[i]).1.length then [dA l v l[i]]else []:=by unfold mP;rw[fJ hi,if_neg (by simp[h1,h2])]
theorem ak3{l:List aC}{v:Nat}(bA:aT l v<l.length)(hm:Qv l[aT l v].1=v):l.countP (dI v)+1<=(il l v).countP (dI ((v:Int)-1))/\l.countP (dI v)<=(il l v).countP (dI v):=by
 have key:∀i,i<=l.length->(l.take i).countP (dI v)+(if aT l v<i then 1 else 0)<=(eP l (aT l v) v (dA l v) i).countP (dI ((v:Int)-1))/\(l.take i).countP (dI v)<=(eP l (aT l v) v (dA l v) i).countP (dI v):=by
  intro i;induction i with
  |zero=>intro _;simp
  | succ i ih=>
   intro hi;have dq:i<l.length:=by omega
   obtain⟨Nz,FV⟩:=ih (by omega);have hx:∀(q:aC->Bool)(x:aC),[x].countP q=if q x=true then 1 else 0:=fun q x=>List.countP_singleton
   rw[Kah dq,HC,KcI,KcI,KcI,hx];by_cases e1:i=aT l v
   ·have e2:Qv l[i].1=v:=by subst e1;exact hm
    rw[zC dq (.inl e1),hx,hx];have g1:dI v l[i]=false:=by unfold dI;exact decide_eq_false (by omega)
    have g2:dI ((v:Int)-1) l[i]=true:=by unfold dI;exact decide_eq_true (by omega)
    rw[g1,g2];rw[if_neg (by omega)]at Nz;have e3:(if aT l v<i+1 then 1 else 0)=1:=if_pos (by omega);rw[e3];simp only[KaJ,if_false,if_true];omega
   ·have ar:(if aT l v<i+1 then 1 else 0)=(if aT l v<i then 1 else 0):=by
     by_cases h:aT l v<i
     ·rw[if_pos h,if_pos (by omega)]
     ·rw[if_neg h,if_neg (by omega)]
    rw[ar];by_cases e2:Qv l[i].1=v
    ·have g1:dI v l[i]=false:=by unfold dI;exact decide_eq_false (by omega)
     rw[g1];simp only[KaJ,if_false];omega
    ·rw[zC dq (.inr e2),hx,hx];have g:dI v l[i]=dI ((v:Int)-1) l[i]:=by simp only[dI,decide_eq_decide];omega
     rw[<-g];omega
 have:=key l.length (Kac _);rw[Kar,if_pos bA]at this;exact this
theorem aii{l:List aC}{v:Nat}(h:∀i (hi:i<l.length),i≠aT l v->Qv l[i].1=v->Qv (dA l v l[i]).1≠v):(il l v).countP (dD v)<=1:=by
 have key:∀i,i<=l.length->(eP l (aT l v) v (dA l v) i).countP (dD v)<=if aT l v<i then 1 else 0:=by
  intro i;induction i with
  |zero=>intro _;simp[eP]
  | succ i ih=>
   intro hi;have dq:i<l.length:=by omega
   have ih:=ih (by omega);have hx:∀(q:aC->Bool)(x:aC),[x].countP q=if q x=true then 1 else 0:=fun q x=>List.countP_singleton
   rw[HC,KcI];by_cases e1:i=aT l v
   ·have e3:(if aT l v<i+1 then 1 else 0)=1:=if_pos (by omega);rw[zC dq (.inl e1),hx,e3];rw[if_neg (by omega)]at ih;split<;>omega
   ·have ar:(if aT l v<i+1 then 1 else 0)=(if aT l v<i then 1 else 0):=by
     by_cases h:aT l v<i
     ·rw[if_pos h,if_pos (by omega)]
     ·rw[if_neg h,if_neg (by omega)]
    rw[ar];by_cases e2:Qv l[i].1=v
    ·have:=h i dq e1 e2;rw[UJ dq e1 e2];have g:dD v (dA l v l[i])=false:=by unfold dD;exact decide_eq_false this
     split
     ·rw[hx,g];simpa using ih
     ·simpa using ih
    ·have g:dD v l[i]=false:=by unfold dD;exact decide_eq_false e2
     rw[zC dq (.inr e2),hx,g];simpa using ih
 have:=key l.length (Kac _);unfold il;split at this<;>omega
theorem I'{l:List aC}{v i:Nat}(hi:i<l.length)(h1:i≠aT l v)(h2:Qv l[i].1=v)(h3:0<(dA l v l[i]).1.length):dA l v l[i]∈il l v:=by unfold il eP;refine Kaq.2 ⟨i,Kch.2 hi,?_⟩;unfold mP;rw[fJ hi,if_neg (by simp[h1,h2]),if_pos h3];simp
theorem Q9t{l:List aC}{v u:Nat}(huv:v<u)(h:∀i (hi:i<l.length),i≠aT l v->Qv l[i].1=v->Qv (dA l v l[i]).1<=v)(hm:∀bA:aT l v<l.length,Qv l[aT l v].1=v):(il l v).filter (dD u)=l.filter (dD u):=by
 have key:∀i,i<=l.length->(eP l (aT l v) v (dA l v) i).filter (dD u)=(l.take i).filter (dD u):=by
  intro i;induction i with
  |zero=>intro _;simp[eP]
  | succ i ih=>
   intro hi;have dq:i<l.length:=by omega
   rw[HC,List.filter_append,ih (by omega),Kah dq,List.filter_append];congr 1;by_cases hc:i=aT l v∨Qv l[i].1≠v
   ·rw[zC dq hc]
   ·simp only[not_or,Decidable.not_not]at hc;rw[UJ dq hc.1 hc.2];have g:dD u l[i]=false:=by simp[dD,hc.2];omega
    have:=h i dq hc.1 hc.2;have g2:dD u (dA l v l[i])=false:=by simp[dD];omega
    split
    ·simp[g,g2]
    ·simp[g]
 have:=key l.length (Kac _)
 rwa[Kar]at this
theorem Q9u{p:List Tm}(c:FW.Can p)(a:Rat)(v:Nat){d:Int}(hd:0<=d)(h:p=[]∨Q3 p v<d):Q3 (b8 p a) v<d:=by
 refine QX (fun t ht=>?_) hd;unfold b8 at ht;split at ht
 ·cases ht
 ·obtain⟨s,hs,e⟩:=zD ht;rw[e,tC (c s hs)];rcases h with rfl|h
  ·cases hs
  ·have:=(rO p v).2.1 s hs;omega
theorem Iu{p:List Tm}{v:Nat}(h:ML (v+1) p):Qv p<=v:=by
 rcases(vg p).2.2 with e|⟨t,ht,e⟩
 ·omega
 ·have:=h t ht;omega
theorem eK.new{m j Tf Tg v:Nat}{f g:aC}(h:eK m j Tf Tg v f g)(he:(eh f g).2=0){T:Nat}(hT:∀n:Nat,(n:Int)<=Q3 f.1 v-Q3 g.1 v+1->n<=nL j->(Tf:Int)+n*((Tg:Int)-Q3 g.1 v)<=T):
  Lv m (j+1) T (eh f g).1/\((eh f g).1.1=[]∨0<=Qv (eh f g).1.1)/\Qv (eh f g).1.1<=v/\Q3 (eh f g).1.1 v<Q3 g.1 v:=by
 obtain⟨_,_,_,_,n5,_⟩:=h.num;unfold eh at he⊢;cases hd:l5 f.1 g.1 with
 |none=>rw[hd]at he;cases he
 | some d=>
  obtain⟨q,r,n⟩:=d;have o:=h.out hd;rw[hd]at he;simp only at he⊢;obtain⟨k1,k2⟩:=h.next o (hT n o.nn.1 o.nn.2) he;refine⟨k1,?_,Iu (o.mv.wV o.nr.c _),Q9u o.nr.c _ v (by omega) o.dr⟩;rcases k2 with rfl|k2
  ·left;show b8 [] (eT [])=[]
   exact xt _
  ·exact .inr k2
structure oS(m:Nat)(x:aC):Prop where
 lv:Lv m 6 2500 x
 pos:0<=Qv x.1
theorem xW{m:Nat}{l:List aC}(hl:l.length<=3)(h:∀x∈l,oS m x):pq l:=by refine⟨by omega,fun x hx=>?_⟩;have hf:=h x hx;have h6:=Gf;exact⟨hf.lv.pb.mono (by omega) (Kac _),hf.lv.n,hf.lv.len,Kbf.2 (rW hf.pos)⟩
theorem Lv.fin{m j T:Nat}{x:aC}(h:Lv m j T x)(hj:j<=6)(hT:T<=2500)(hp:0<=Qv x.1):oS m x:=⟨(h.to hj).deg hT,hp⟩
theorem Lv.NC{m j T:Nat}{x:aC}(h:Lv m j T x):Qv x.1<=2:=by have:=Iu (p:=x.1) (v:=2) h.v;omega
structure oT(m:Nat)(v:Int)(j T:Nat)(l:List aC):Prop where
 len:l.length<=3
 fin:∀x∈l,oS m x
 act:∀x∈l,Qv x.1<=v->Lv m j T x
theorem Iv{m v j T T':Nat}{l:List aC}(hm:m<=3)(h:oT m v j T l)(hj:j<=5)(hT:T<=tL j)(hTT:T<=T')(hT':T'<=2500)(o4:v=2->j<=1)(hc:2<=(cG l v).2)(hd:∀x∈l,Qv x.1=v->Q3 x.1 v<=nL j)
  (hTn:∀(n:Nat)(df dg:Int),df<=nL j->dg<=df->1<=dg->(∀x∈l,Qv x.1=v->dg<=Q3 x.1 v)->(∃x∈l,Qv x.1=v/\Q3 x.1 v=dg)->(n:Int)<=df-dg+1->n<=nL j->(T:Int)+n*((T:Int)-dg)<=T'):
  tX v l/\(dO l v=l.length->oT m v (j+1) T' (il l v)/\l.countP (dI v)+1<=(il l v).countP (dI ((v:Int)-1))/\l.countP (dI v)<=(il l v).countP (dI v)/\
   (∀i (hi:i<l.length),i≠aT l v->Qv l[i].1=v->0<(dA l v l[i]).1.length->∀x∈l,Qv x.1=v->Q3 (dA l v l[i]).1 v<Q3 x.1 v)/\
   (∀y∈il l v,Qv y.1=v->y∈l∨∀x∈l,Qv x.1=v->Q3 y.1 v<Q3 x.1 v)):=by
 obtain⟨e1,bA,a2,a3⟩:=xD (l:=l) (v:=v) (by omega);have sU:v<=2:=by have:=(h.act _ (Kag bA) (by omega)).NC;omega
 have hD:∀i (hi:i<l.length),i≠aT l v->Qv l[i].1=v->eK m j T T v l[i] l[aT l v]:=fun i hi h1 h2=>
  ⟨hj,h.act _ (Kag hi) (by omega),h.act _ (Kag bA) (by omega),hT,hT,h2,a2,sU,o4,hd _ (Kag hi) h2,a3 _ (Kag hi) h2,hm⟩
 have hG:tX v l:=⟨xW h.len h.fin,by omega,bA,e1,fun i hi h1 h2=>⟨m,j,T,T,hD i hi h1 h2⟩⟩
 refine⟨hG,fun hb=>?_⟩;obtain⟨c1,c2⟩:=ak3 bA a2;have hRe:∀i (hi:i<l.length),dA l v l[i]=(eh l[i] l[aT l v]).1:=fun i hi=>by unfold dA;rw[fJ bA]
 have sI:∀i (hi:i<l.length),i≠aT l v->Qv l[i].1=v->(eh l[i] l[aT l v]).2=0:=fun i hi h1 h2=>by have:=hG.err hi h1 h2;rw[fJ bA]at this;rw[<-this];exact(rR l v).2.1 i (by omega)
 have hN:∀i (hi:i<l.length) (h1:i≠aT l v) (h2:Qv l[i].1=v),_:=fun i hi h1 h2=>(hD i hi h1 h2).new (sI i hi h1 h2) (T:=T') fun n n1 n2=>hTn n _ _ (hd _ (Kag hi) h2) (a3 _ (Kag hi) h2) (DA (h.act _ (Kag bA) (by omega)).pb a2) a3 ⟨_,Kag bA,a2,rfl⟩ n1 n2;refine⟨⟨Kaw (aih _ _) h.len,fun y hy=>?_,fun y hy sW=>?_⟩,c1,c2,fun i hi h1 h2 _ x hx fy=>?_,fun y hy BW=>?_⟩
 ·rcases Es hy hb bA with⟨ig,_⟩|⟨i,hi,h1,h2,rfl,h4,h5⟩
  ·exact h.fin y ig
  ·obtain⟨k1,k2,_⟩:=hN i hi h1 h2;exact k1.fin (by omega) hT' (k2.resolve_left fun e=>by rw[e]at h5;simp at h5)
 ·rcases Es hy hb bA with⟨ig,_⟩|⟨i,hi,h1,h2,rfl,h4,h5⟩
  ·exact(h.act y ig sW).up.deg hTT
  ·exact(hN i hi h1 h2).1
 ·rw[hRe i hi];have:=(hN i hi h1 h2).2.2.2;have:=a3 x hx fy;omega
 ·rcases Es hy hb bA with⟨ig,_⟩|⟨i,hi,h1,h2,rfl,h4,h5⟩
  ·exact .inl ig
  ·right;intro x hx fy;have:=(hN i hi h1 h2).2.2.2;have:=a3 x hx fy;omega
structure Jd(m:Nat)(v:Int)(l:List aC):Prop where
 s:oT m v 2 4 l
 v1:v<=1
 c:1<=l.countP (dI v)
structure Vp(m:Nat)(v:Int)(l:List aC):Prop where
 len:l.length<=3
 fin:∀x∈l,oS m x
 c:2<=l.countP (dI v)
theorem Od(v:Nat):∀l:List aC,l.countP (dI ((v:Int)-1))=l.countP (dI v)+l.countP (dD v)
 | []=>rfl
 | x::l=>by
  have ih:=Od v l;rw[List.countP_cons,List.countP_cons,List.countP_cons,ih];by_cases h1:(v:Int)<Qv x.1
  ·have g1:dI ((v:Int)-1) x=true:=by unfold dI;exact decide_eq_true (by omega)
   have g2:dI v x=true:=by unfold dI;exact decide_eq_true h1
   have g3:dD v x=false:=by unfold dD;exact decide_eq_false (by omega)
   rw[g1,g2,g3];simp;omega
  ·have g2:dI v x=false:=by unfold dI;exact decide_eq_false h1
   by_cases h2:Qv x.1=v
   ·have g1:dI ((v:Int)-1) x=true:=by unfold dI;exact decide_eq_true (by omega)
    have g3:dD v x=true:=by unfold dD;exact decide_eq_true h2
    rw[g1,g2,g3];simp;omega
   ·have g1:dI ((v:Int)-1) x=false:=by unfold dI;exact decide_eq_false (by omega)
    have g3:dD v x=false:=by unfold dD;exact decide_eq_false h2
    rw[g1,g2,g3];simp
theorem oT.down{m j T j' T':Nat}{v v':Int}{l:List aC}(h:oT m v j T l)(hv:v'<=v)(hj:j<=j')(hT:T<=T'):oT m v' j' T' l:=⟨h.len,h.fin,fun x hx hm=>((h.act x hx (by omega)).to hj).deg hT⟩
theorem oT.pd{m j T v:Nat}{l:List aC}(h:oT m v j T l){x:aC}(hx:x∈l)(hm:Qv x.1=v):1<=Q3 x.1 v/\Q3 x.1 v<=T:=by have hL:=h.act x hx (by omega);exact⟨DA hL.pb hm,(oI hL.pb (rW (by omega)) v).2⟩
theorem R5{l:List aC}{v:Nat}(h:1<=(cG l v).2):∃x∈l,Qv x.1=v:=by obtain⟨_,bA,h2,_⟩:=xD h;exact⟨_,Kag bA,h2⟩
theorem Gq{l:List aC}{v:Nat}(h:2<=(cG (il l v) v).2):∃i,∃hi:i<l.length,i≠aT l v/\Qv l[i].1=v/\Qv (dA l v l[i]).1=v:=by apply Decidable.byContradiction;intro hc;have:=aii (l:=l) (v:=v) fun i hi h1 h2 h3=>hc ⟨i,hi,h1,h2,h3⟩;rw[<-zO]at this;omega
theorem PG{m v j:Nat}{l:List aC}(hm:m<=3)(hj:j<=1)(h:oT m v j 2 l)(hc:2<=(cG l v).2)(hx:∃x∈l,Qv x.1=v/\Q3 x.1 v<=1):∃n o,eX v n l o/\∀l',o= .ok l'->Jd m ((v:Int)-1) l':=by
 obtain⟨l1,l2⟩:=N9 hj;obtain⟨x0,bw,kn,jL⟩:=hx;have sU:=(h.act x0 bw (by omega)).NC;obtain⟨hG,hR⟩:=Iv (T':=4) hm h (by omega) (by omega) (by omega) (by omega) (fun _=>hj) hc (fun x hx fy=>by have:=(h.pd hx fy).2;omega) (fun n df dg h1 h2 h3 h4 h5 h6 h7=>by
  have Fq:=h4 x0 bw kn;have:dg=1:=by omega
  subst this;have:(n:Int)*(((2:Nat):Int)-1)=n:=by omega
  omega)
 by_cases hb:dO l v=l.length
 ·obtain⟨r1,r2,r3,r4,r5⟩:=hR hb;have jM:(cG (il l v) v).2<=1:=by apply Decidable.byContradiction;intro Fu;obtain⟨i,hi,h1,h2,h3⟩:=Gq (l:=l) (v:=v) (by omega);have ie:0<(dA l v l[i]).1.length:=Kbf.2 (rW (by omega));have eo:=I' hi h1 h2 ie;have:=(r1.pd eo h3).1;have:=r4 i hi h1 h2 ie x0 bw kn;omega
  refine⟨1,.ok (il l v),eX.step hG hc hb (eX.stop (xW r1.len r1.fin) jM),fun l' he=>?_⟩;cases he;exact⟨r1.down (by omega) (by omega) (by omega),by omega,by omega⟩
 ·have:=(rR l v).1;exact⟨0,_,eX.fail hG hc (by omega),fun l' he=>by cases he⟩
theorem aij{m v:Nat}{l:List aC}(hm:m<=3)(h:oT m v 0 2 l)(hc:2<=(cG l v).2):∃n o,eX v n l o/\∀l',o= .ok l'->Jd m ((v:Int)-1) l':=by
 by_cases hx:∃x∈l,Qv x.1=v/\Q3 x.1 v<=1
 ·exact PG hm (by omega) h hc hx
 ·have gm:∀x∈l,Qv x.1=v->2<=Q3 x.1 v:=fun x dX fy=>by apply Decidable.byContradiction;intro ar;exact hx ⟨x,dX,fy,by omega⟩
  obtain⟨x0,bw,kn⟩:=R5 (l:=l) (v:=v) (by omega);have jL:=(h.pd bw kn).2;have sU:=(h.act x0 bw (by omega)).NC;obtain⟨hG,hR⟩:=Iv (T':=2) hm h (by omega) (by decide) (by omega) (by omega) (fun _=>by omega) hc (fun x hx fy=>by have:=(h.pd hx fy).2;have:nL 0=2:=rfl;omega) (fun n df dg h1 h2 h3 h4 h5 h6 h7=>by
   obtain⟨y,hy,BW,Xv⟩:=h5;have:=gm y hy BW;have h8:nL 0=2:=rfl;have:dg=2:=by omega
   subst this;have:(n:Int)*(((2:Nat):Int)-2)=0:=by omega
   omega)
  by_cases hb:dO l v=l.length
  ·obtain⟨r1,r2,r3,r4,r5⟩:=hR hb;by_cases jM:(cG (il l v) v).2<=1
   ·refine⟨1,.ok (il l v),eX.step hG hc hb (eX.stop (xW r1.len r1.fin) jM),fun l' he=>?_⟩;cases he;exact⟨r1.down (by omega) (by omega) (by omega),by omega,by omega⟩
   ·obtain⟨i,hi,h1,h2,h3⟩:=Gq (l:=l) (v:=v) (by omega);have ie:0<(dA l v l[i]).1.length:=Kbf.2 (rW (by omega));have:=r4 i hi h1 h2 ie x0 bw kn;obtain⟨n,o,hS,ho⟩:=PG (j:=1) hm (by omega) r1 (by omega) ⟨_,I' hi h1 h2 ie,h3,by omega⟩;exact⟨n+1,o,eX.step hG hc hb hS,ho⟩
  ·have:=(rR l v).1;exact⟨0,_,eX.fail hG hc (by omega),fun l' he=>by cases he⟩
theorem aik{j:Nat}(h:2<=j):tL (j+1)=tL j+nL j*tL j/\nL j=4:=by rw[tL,if_neg (by omega)];exact⟨rfl,by unfold nL;rw[if_neg (by omega)]⟩
theorem QI{m v:Nat}(hm:m<=3):∀(k j:Nat)(l:List aC),j+k=6->2<=j->oT m v j (tL j) l->v<=1->1<=l.countP (dI v)->2<=l.countP (dI ((v:Int)-1))->(∀x∈l,Qv x.1=v->Q3 x.1 v<=4)->
  (2<=(cG l v).2->∃x∈l,Qv x.1=v/\Q3 x.1 v<=k)->∃n o,eX v n l o/\∀l',o= .ok l'->Vp m ((v:Int)-1) l'
 | k, j,l,hk,hj,h,hv,hg,fF,hd,hx=>by
  by_cases jM:(cG l v).2<=1
  ·refine⟨0,.ok l,eX.stop (xW h.len h.fin) jM,fun l' he=>?_⟩;cases he;exact⟨h.len,h.fin,fF⟩
  ·obtain⟨x0,bw,kn,jL⟩:=hx (by omega);have aF:=(h.pd bw kn).1;obtain⟨k,rfl⟩:∃k',k=k'+1:=⟨k-1,by omega⟩
   have Wv:j<=5:=by omega
   obtain⟨t1,t2⟩:=aik hj;have hn:=jm Wv;obtain⟨hG,hR⟩:=Iv (T':=tL (j+1)) hm h Wv (Kac _) (by omega) (by rw[t1];omega) (fun e=>by omega) (by omega) (fun x hx fy=>by have:=hd x hx fy;omega) (fun n df dg h1 h2 h3 h4 h5 h6 h7=>by
    rw[t1,t2];have a1:(n:Int)*((tL j:Int)-dg)<=4*(tL j:Int):=by
     by_cases hs:0<=(tL j:Int)-dg
     ·exact Int.le_trans (Int.mul_le_mul_of_nonneg_right (by omega:(n:Int)<=4) hs) (Int.mul_le_mul_of_nonneg_left (by omega) (by omega))
     ·have b1:(n:Int)*((tL j:Int)-dg)<=n*0:=Int.mul_le_mul_of_nonneg_left (by omega) (by omega);omega
    omega)
   by_cases hb:dO l v=l.length
   ·obtain⟨r1,r2,r3,r4,r5⟩:=hR hb;obtain⟨n,o,hS,ho⟩:=QI hm k (j+1) (il l v) (by omega) (by omega) r1 hv (by omega) (by omega) (fun y hy BW=>by
     rcases r5 y hy BW with hy|hy
     ·exact hd y hy BW
     ·have:=hy x0 bw kn;have:=hd x0 bw kn;omega) (fun h2=>by
     obtain⟨i,hi,h1,h2,h3⟩:=Gq (l:=l) (v:=v) h2;have ie:0<(dA l v l[i]).1.length:=Kbf.2 (rW (by omega));have:=r4 i hi h1 h2 ie x0 bw kn;exact⟨_,I' hi h1 h2 ie,h3,by omega⟩)
    exact⟨n+1,o,eX.step hG (by omega) hb hS,ho⟩
   ·have:=(rR l v).1;exact⟨0,_,eX.fail hG (by omega) (by omega),fun l' he=>by cases he⟩
def yr(m:Nat)(v:Int)(l:List aC):Prop:=oT m v 0 2 l∨Jd m v l∨Vp m v l
theorem yr.len{m:Nat}{v:Int}{l:List aC}(h:yr m v l):l.length<=3/\∀x∈l,oS m x:=by
 rcases h with h|h|h
 ·exact⟨h.len,h.fin⟩
 ·exact⟨h.s.len,h.s.fin⟩
 ·exact⟨h.len,h.fin⟩
theorem alU{m v:Nat}{l:List aC}(hm:m<=3)(h:yr m v l):∃n o,eX v n l o/\∀l',o= .ok l'->yr m ((v:Int)-1) l':=by
 have hs:=Od v l;rw[<-zO]at hs;obtain⟨hl,hf⟩:=h.len;by_cases jM:(cG l v).2<=1
 ·refine⟨0,.ok l,eX.stop (xW hl hf) jM,fun l' he=>?_⟩;cases he;rcases h with h|h|h
  ·exact .inl (h.down (by omega) (Kac _) (Kac _))
  ·exact .inr (.inl ⟨h.s.down (by omega) (Kac _) (Kac _),by have:=h.v1;omega,by have:=h.c;omega⟩)
  ·exact .inr (.inr ⟨hl,hf,by have:=h.c;omega⟩)
 ·rcases h with h|h|h
  ·obtain⟨n,o,h1,h2⟩:=aij hm h (by omega);exact⟨n,o,h1,fun l' he=>.inr (.inl (h2 l' he))⟩
  ·have hv:=h.v1;have hc:=h.c;obtain⟨n,o,h1,h2⟩:=QI (m:=m) (v:=v) hm 4 2 l (by omega) (by omega) h.s (by omega) hc (by omega) (fun x hx fy=>(h.s.pd hx fy).2) (fun h2=>by obtain⟨x,hx,fy⟩:=R5 (l:=l) (v:=v) (by omega);exact⟨x,hx,fy,(h.s.pd hx fy).2⟩);exact⟨n,o,h1,fun l' he=>.inr (.inr (h2 l' he))⟩
  ·have:=h.c;have:=List.countP_le_length (p:=dI ((v:Int)-1)) (l:=l);omega
theorem Sj{m:Nat}(hm:m<=3):∀(v:Nat)(l:List aC),v<=64->yr m ((v:Int)-1) l->∃o,Mk v l o/\∀l',o= .ok l'->l'.length<=3/\∀x∈l',oS m x
 |0,l,_,h=>⟨.ok l,Mk.done (xW h.len.1 h.len.2),fun l' he=>by cases he;exact h.len⟩
 | v+1,l,hv,h=>by
  have e:((v+1:Nat):Int)-1=(v:Nat):=by omega
  rw[e]at h;obtain⟨n,o,h1,h2⟩:=alU hm h;cases o with
  |error er=>exact⟨.error er,Mk.bad (by omega) h1,fun l' he=>by cases he⟩
  |ok l1=>obtain⟨o,h3,h4⟩:=Sj hm v l1 (by omega) (h2 l1 rfl);exact⟨o,Mk.next (by omega) h1 h3,h4⟩
def c9:aA:=⟨125,[.t 2,.t 3],Zr (Zo (.mv 2 (.c .aa))<|Zc 3 0 .nil)<|Zr (Zo (.mv 4 (.c .aa)) .nil)<| .seq (Zr (Zc 5 0 .nil)<| .block 0<| .loop<| .seq (Zr (Zm 20 5<|Zm 21 0<|Zn 22 21<|Zb 23 .lss 20 22 .nil)<| .cond (.t 23) .skip (.exit 0))<| .seq (.block 1<|Zr (Zm 26 0<|Zm 27 5<|Zi 28 1 26 27<|Zl 29 1 28<|Zm 30 0<|Zn 31 30<|Zm 32 5<| .br (Zq 33 true 32 [.c (Zz 1)]<| .br (Zq 34 true 31 [.t 31,.t 32,.t 33]<|Zo (.bU 35 [.aa,.aa] [(0,1,.t 29),(1,1,.t 34)])<| .br (Zq 36 true 30 [.t 35]<|Zo (.alloc 6 2 34 (.agg [.aa,.aa]))<|Zs 2 6 36 .nil) (Zo (.alloc 6 2 34 (.agg [.aa,.aa]))<|Zq 36 true 30 [.t 35]<|Zs 2 6 36 .nil)) (Zo (.alloc 6 2 34 (.agg [.aa,.aa]))<|Zq 34 true 31 [.t 31,.t 32,.t 33]<|Zo (.bU 35 [.aa,.aa] [(0,1,.t 29),(1,1,.t 34)])<|Zq 36 true 30 [.t 35]<|Zs 2 6 36 .nil)) (Zo (.alloc 6 2 34 (.agg [.aa,.aa]))<|Zq 33 true 32 [.c (Zz 1)]<|Zq 34 true 31 [.t 31,.t 32,.t 33]<|Zo (.bU 35 [.aa,.aa] [(0,1,.t 29),(1,1,.t 34)])<|Zq 36 true 30 [.t 35]<|Zs 2 6 36 .nil))<| .seq (Zr (Zh 37 2 6<|Zq 38 false 33 [.t 37]<|Zm 7 38 .nil)<|Zr (Zm 39 7<|Zk 40 .neq 39 0 .nil)<| .cond (.t 40) (Zr (Zm 41 7<|Zo (.mv 2 (.c .aa))<|Zm 3 41 .nil) .ret) .skip)<|Zr (Zf 42 0 6<|Zl 43 1 42<|Zn 44 43<|Zk 45 .gtr 44 0 .nil)<| .cond (.t 45) (.rg (Zm 46 4<|Zh 47 2 6<|Zo (.bs 48 2 34 [.t 47])<|Zo (.app 49 2 48 34 (.t 46) (.t 48))<|Zm 4 49 .nil)) .skip)<| .rg (Zm 24 5<|Zk 25 .add 24 1<|Zm 5 25 .nil))<| .seq (Zr (Zc 8 63 .nil)<| .block 2<| .loop<| .seq (Zr (Zm 50 8<|Zk 51 .geq 50 0 .nil)<| .cond (.t 51) .skip (.exit 2))<| .seq (.block 3<| .block 4<| .loop<| .block 5<|Zr (Zm 55 4<|Zm 56 8<|Zq 57 false 34 [.t 55,.t 56]<|Zm 54 57<|Zo (.ext 58 (.t 54) 0)<|Zo (.ext 59 (.t 54) 1)<|Zm 9 58<|Zm 10 59 .nil)<| .seq (Zr (Zm 60 10<|Zk 61 .leq 60 1 .nil)<| .cond (.t 61) (.exit 4) .skip)<|Zr (Zo (.mv 11 (.c .aa)) .nil)<| .seq (Zr (Zc 12 0 .nil)<| .block 6<| .loop<| .seq (Zr (Zm 62 12<|Zm 63 4<|Zn 64 63<|Zb 65 .lss 62 64 .nil)<| .cond (.t 65) .skip (.exit 6))<| .seq (.block 7<|Zr (Zm 68 4<|Zm 69 12<|Zi 70 2 68 69<|Zh 71 2 70<|Zo (.alloc 13 2 34 (.agg [.aa,.aa]))<|Zs 2 13 71 .nil)<| .seq (Zr (Zm 72 12<|Zm 73 9<|Zb 74 .neq 72 73<|Zm 75 74<|Zg 75 true (.cC 76 0 (.t 13))<|Zg 75 true (.ld 77 1 false (.t 76))<|Zg 75 true (.call (some 78) false (.c (.fn 35 [] [])) [.t 77])<|Zg 75 true (.mv 79 (.t 8))<|Zg 75 true (.bin 80 .eql false (.t 78) (.t 79))<|Zo (.pick 81 (.t 75) (.t 80) (.c (.bool false))) .nil)<| .cond (.t 81) (Zr (Zh 83 2 13<|Zm 84 4<|Zm 85 9<|Zi 86 2 84 85<|Zh 87 2 86<|Zm 88 8<| .br (Zq 89 true 36 [.t 83,.t 87,.t 88]<|Zm 82 89<|Zo (.ext 90 (.t 82) 0)<|Zo (.ext 91 (.t 82) 1)<|Zo (.alloc 14 2 34 (.agg [.aa,.aa]))<|Zs 2 14 90<|Zm 15 91 .nil) (Zo (.alloc 14 2 34 (.agg [.aa,.aa]))<|Zq 89 true 36 [.t 83,.t 87,.t 88]<|Zm 82 89<|Zo (.ext 90 (.t 82) 0)<|Zo (.ext 91 (.t 82) 1)<|Zs 2 14 90<|Zm 15 91 .nil))<| .seq (Zr (Zm 92 15<|Zk 93 .neq 92 0 .nil)<| .cond (.t 93) (Zr (Zm 94 15<|Zo (.mv 2 (.c .aa))<|Zm 3 94 .nil) .ret) .skip)<| .rg (Zh 95 2 14<|Zs 2 13 95 .nil)) .skip)<|Zr (Zf 96 0 13<|Zl 97 1 96<|Zn 98 97<|Zk 99 .gtr 98 0 .nil)<| .cond (.t 99) (.rg (Zm 100 11<|Zh 101 2 13<|Zo (.bs 102 2 34 [.t 101])<|Zo (.app 103 2 48 34 (.t 100) (.t 102))<|Zm 11 103 .nil)) .skip)<| .rg (Zm 66 12<|Zk 67 .add 66 1<|Zm 12 67 .nil))<| .rg (Zm 104 11<|Zm 4 104 .nil))<| .rg (Zm 52 8<|Zk 53 .sub 52 1<|Zm 8 53 .nil))<|Zr (Zo (.mv 16 (.c .aa)) .nil)<| .seq (Zr (Zc 17 0 .nil)<| .block 8<| .loop<| .seq (Zr (Zm 105 17<|Zk 106 .lss 105 64 .nil)<| .cond (.t 106) .skip (.exit 8))<| .seq (.block 9<|Zr (Zm 110 4<|Zm 111 17<|Zq 112 false 34 [.t 110,.t 111]<|Zm 109 112<|Zo (.ext 113 (.t 109) 0)<|Zo (.ext 114 (.t 109) 1)<|Zm 18 113<|Zm 19 114 .nil)<|Zr (Zm 115 18<|Zk 116 .geq 115 0 .nil)<| .cond (.t 116) (.rg (Zm 117 16<|Zm 118 4<|Zm 119 18<|Zi 120 2 118 119<|Zh 121 2 120<|Zo (.bs 122 2 34 [.t 121])<|Zo (.app 123 2 48 34 (.t 117) (.t 122))<|Zm 16 123 .nil)) .skip)<| .rg (Zm 107 17<|Zk 108 .add 107 1<|Zm 17 108 .nil))<|Zr (Zm 124 16<|Zm 2 124<|Zc 3 0 .nil) .ret⟩
theorem alV:Qe Tryz.prog Tryz.f9=some c9:=by kernel_rfl
set_option maxHeartbeats 2000000 in
theorem afd {ps:List (List Tm)} {P:Nat->aC} {bad:Nat} {o:Except Int (List aC)} (hl:ps.length<=100)
  (hp:∀i (h:i<ps.length),Qc Tryz.prog 30 [PV.el (ps[i],eD ps.length i)] (· =PV.el (P i))/\Qc Tryz.prog 33 [PV.el (P i)] (· = .int .i64 (eZ (P i))))
  (qW:bad<=ps.length) (cx:∀i,i<bad->eZ (P i)=0) (jJ:bad<ps.length->eZ (P bad)≠0) (ho:bad=ps.length->Mk 64 (gz P ps.length) o):
  Qc Tryz.prog 9 [PV.ch ps] (· =if bad=ps.length then vT o else .au [PV.ct [],.int .i64 (eZ (P bad))]):=by
 obtain⟨tY,ou⟩:∃tY,tY=if bad=ps.length then vT o else .au [PV.ct [],.int .i64 (eZ (P bad))]:=⟨_,rfl⟩
 rw[<-ou];have hu:∀i,i<ps.length->Qc Tryz.prog 31 [.int .i64 ps.length,.int .i64 i,PV.rat ((1:Int):Rat)] (· =PV.ch (eD ps.length i)):=fun i hi=>afb hi hl;have sN:=vb (x:=1) (by omega) (by omega);refine Qf Qo Tryz.func9 rfl alV (by simp[c9]) fun C hP=>?_;simp only[c9,Zo,Zg,Zm,Zc,Zf,Zl,Zh,Zs,Zi,Zb,Zk,Zn,Zu,Zq,Zr,Zz];generalize hA:((1:Int):Rat)=a1 at *
 refine Sz0 ?_;refine kZ 4 900 2 34 (by omega) Tz0 ?_;refine Al (by repeat (first|exact Qr|exact Qk|exact Ql|exact Qm|exact Qn|apply Qj|apply Qq|apply Qx|apply Q5|apply Q6|apply Qi|apply Q2)) [(2,7),(20,49)] [6,48,49,900] (fun m J hp=>∃i,m=ps.length-i/\i<=bad/\J 4= .ms 900 (gz P i).length/\J 5= .int .i64 (i:Nat)/\hp 900=some ⟨2,34,(gz P i).map PV.el,false⟩) ps.length ?_ ?_
 ·refine⟨0,rfl,by omega,?_⟩;refine Sz0 ?_
  first|rfl|exact⟨rfl,rfl⟩|exact⟨rfl,rfl,rfl⟩
 rintro _ J h ⟨i,rfl,hi,j4,j5,hh⟩;by_cases c1:i<ps.length
 ·have d1:decide ((i:Int)<(ps.length:Int))=true:=decide_eq_true (by omega);obtain⟨jf,ft⟩:=hp i c1;have hu:=hu i c1;have sK:=DJ P i;have aG:gz P (i+1)=gz P i++se P i:=by unfold gz;rw[Kb0,Kb4];simp
  unfold se at aG;have apd:=cx i;have yK:¬i<bad->i=bad/\eZ (P i)≠0/\¬bad=ps.length:=fun h=>by
   obtain rfl:i=bad:=by omega
   exact⟨rfl,jJ c1,by omega⟩
  generalize gz P i=A at *
  generalize hx:ps[i]=x at *
  generalize hz:P i=z at *
  generalize MM:eZ z=ce at *
  refine Sz4 j4 j5 d1 hx ?_;refine PD (by repeat (first|exact Qr|exact Qk|exact Ql|exact Qm|exact Qn|apply Qj|apply Qq|apply Qx|apply Q5|apply Q6|apply Qi|apply Q2)) [(6,6),(33,36)] [6] (fun J' an=>J' 6= .mp 6 0 0/\an 6=some ⟨2,34,[PV.el z],false⟩/\an 900=some ⟨2,34,A.map PV.el,false⟩) ?_ ?_
  ·repeat' first
    |refine nP ?_ ?_
    |refine Qa hP sN rfl rfl rfl ?_
    |refine Qa hP hu rfl rfl rfl ?_
    |refine Qa hP jf rfl rfl rfl ?_
    |simp+decide (disch:=try exact D3 j4 j5 hx) only[go_sem,j4,j5,hx]
   all_goals
    refine Aw ?_;refine Sz1 hh ?_
    try trivial
  rintro J2 h2 ⟨i6,ib,hh⟩;refine Sz4 j4 j5 i6 ib ?_;refine Qa hP ft rfl rfl rfl ?_;by_cases gR:i<bad
  rotate_left
  ·obtain⟨e1,e2,e3⟩:=yK gR;have tc:decide (¬ce=0)=true:=decide_eq_true e2;refine Sz5 j4 j5 i6 ib tc ?_;subst e1;exact eV (p':=.sl 2 []) (by rw[ou,if_neg e3,hz,MM];rfl) rfl rfl trivial (Qy _)
  obtain rfl:ce=0:=apd gR;by_cases e3:0<z.1.length
  ·have q3:decide (0<(z.1.length:Int))=true:=decide_eq_true (by omega);rw[if_pos e3]at aG;refine Sz6 j4 j5 i6 ib hh q3 ?_;rw[Q9 (f:=PV.el) (y:=z) (xs:=A) (ty':=34) (fz:=false) (Tz1 hh) cH (by omega) rfl (by omega) (by omega)];refine Sz3 j4 j5 i6 ?_;simp (disch:=decide) only[zL,C4,mM,Dg];refine xy (ps.length-(i+1)) (by omega) ⟨i+1,rfl,by omega,?_⟩;rw[aG];simp+decide (disch:=first|omega|rfl|(simp+decide only[go_sem,Kap]<;>rfl)|fail) only[go_sem,Kap]
   try trivial
  ·have q3:decide (0<(z.1.length:Int))=false:=decide_eq_false (by omega);rw[if_neg e3,Kak]at aG;refine Sz6 j4 j5 i6 ib hh q3 ?_;simp (disch:=decide) only[zL,C4,mM,Dg];refine xy (ps.length-(i+1)) (by omega) ⟨i+1,rfl,by omega,?_⟩;rw[aG];refine Sz2 j4 hh ?_
   try (first|trivial|exact⟨rfl,rfl⟩)
 obtain rfl:i=ps.length:=by omega
 have fm:bad=ps.length:=by omega
 have Ms:=ho fm;rw[if_pos fm]at ou;have d1:decide ((ps.length:Int)<(ps.length:Int))=false:=decide_eq_false (by omega);clear hp hu cx jJ ho;generalize gz P ps.length=L0 at *
 refine Sz3 j4 j5 d1 ?_;refine OS 4 (amp j4 hh) ?_;refine lk j4 hh ?_;rw[show List.take L0.length (L0.map PV.el)=L0.map PV.el from Kae (by simp)];refine Qw (by repeat (first|exact Qr|exact Qk|exact Ql|exact Qm|exact Qn|apply Qj|apply Qq|apply Qx|apply Q5|apply Q6|apply Qi|apply Q2)) [(2,4),(8,15),(50,104)] [13,14,102,103,901] (fun m J hp=>∃L,m<=64/\Mk m L o/\J 4=PV.ct L/\J 8= .int .i64 ((m:Int)-1)) 64 ?_ ?_
 ·refine⟨L0,Kac _,Ms,?_⟩;refine Sz0 ?_
  try (first|rfl|exact⟨rfl,rfl⟩)
 rintro m J1 h1 ⟨L,hm,Fc,k4,k8⟩;have WJ:=Fc.wN;cases m with
 | zero=>
  obtain⟨apc⟩:Nonempty (o= .ok L):=by cases Fc;exact⟨rfl⟩
  subst apc;have d2:decide ((0:Int)<=((0:Nat):Int)-1)=false:=decide_eq_false (by omega);refine Sz3 k4 k8 d2 ?_;refine kZ 16 902 2 34 (by omega) Tz0 ?_;have pX:∀j,((List.range j).filterMap (gI L)).length<=j:=fun j=>Kaw (Kcb _ _) (by simp);refine Qw (by repeat (first|exact Qr|exact Qk|exact Ql|exact Qm|exact Qn|apply Qj|apply Qq|apply Qx|apply Q5|apply Q6|apply Qi|apply Q2)) [(16,19),(105,123)] [122,123,902] (fun m J hp=>∃j,m=64-j/\j<=64/\J 16= .ms 902 ((List.range j).filterMap (gI L)).length/\J 17= .int .i64 (j:Nat)/\hp 902=some ⟨2,34,((List.range j).filterMap (gI L)).map PV.el,false⟩) 64 ?_ ?_
  ·refine⟨0,rfl,by omega,?_⟩;refine Sz0 ?_
   first|rfl|exact⟨rfl,rfl⟩|exact⟨rfl,rfl,rfl⟩
  rintro _ J3 h3 ⟨j,rfl,hj,wX,za,hq⟩;by_cases c1:j<64
  ·have d4:decide ((j:Int)<64)=true:=decide_eq_true (by omega);have oX:=QH WJ c1;have ar:=Eo L j L.length;have sK:=pX j;have aG:(List.range (j+1)).filterMap (gI L)=(List.range j).filterMap (gI L)++(gI L j).toList:=by rw[Kb0,KcO];cases h:gI L j<;>simp[h]
   have ra:gI L j=if 0<=(cG L j).1 then some (L.getD (aT L j) default)else none:=rfl
   generalize gI L j=fe at *
   generalize(List.range j).filterMap (gI L)=A at *
   rw[show iJ L j L.length=cG L j from rfl]at ar;generalize bA:aT L j=a0 at *
   unfold aT at bA;generalize cG L j=AQ at *
   obtain⟨a2,c2⟩:=AQ;simp only at ar bA ra;by_cases e1:0<=a2
   ·obtain⟨a,rfl⟩:∃a:Nat,a2=a:=⟨a2.toNat,by omega⟩
    have ha:a<L.length:=by omega
    have haa:a0=a:=by omega
    subst haa;have d5:decide ((0:Int)<=(a0:Int))=true:=decide_eq_true e1;rw[if_pos e1,fJ ha]at ra;rw[ra]at aG;generalize hx:L[a0]=x at *
    refine Sz4 k4 wX za d4 ?_;refine Qa hP oX rfl rfl rfl ?_;refine Sz5 k4 wX za d5 hx ?_;rw[Q9 (f:=PV.el) (y:=x) (xs:=A) (ty':=34) (fz:=false) (Tz1 hq) cH (by omega) rfl (by omega) (by omega)];refine Sz3 k4 wX za ?_;refine Qg (64-(j+1)) (by omega) ⟨j+1,rfl,by omega,?_⟩;rw[aG];simp+decide (disch:=first|omega|rfl|(simp+decide only[go_sem,Kap,Option.toList_some]<;>rfl)|fail) only[go_sem,Kap,Option.toList_some]
    try trivial
   ·have d5:decide ((0:Int)<=a2)=false:=decide_eq_false e1;rw[if_neg e1]at ra;rw[ra,Option.toList_none,Kak]at aG;refine Sz4 k4 wX za d4 ?_;refine Qa hP oX rfl rfl rfl ?_;refine Sz4 k4 wX za d5 ?_;refine Qg (64-(j+1)) (by omega) ⟨j+1,rfl,by omega,?_⟩;rw[aG];refine Sz2 wX hq ?_
    try (first|trivial|exact⟨rfl,rfl⟩)
  ·obtain rfl:j=64:=by omega
   refine AN wX za hq ?_;exact eV (by rw[ou,Kae (by simp)];rfl) rfl rfl (Qy _) (Qy _)
 | succ v=>
  have hv:v<64:=by omega
  have e8:((v+1:Nat):Int)-1=(v:Int):=by omega
  rw[e8]at k8;have d2:decide ((0:Int)<=(v:Int))=true:=decide_eq_true (by omega);refine Sz3 k4 k8 d2 ?_;obtain⟨n,o2,VU,VF⟩:∃n o2,eX v n L o2/\(∀e,o2= .error e->o= .error e)/\∀L',o2= .ok L'->Mk v L' o:=by
   cases Fc with
   |bad _ h=>exact⟨_,_,h,(fun e he=>he),(fun L' he=>by cases he)⟩
   |next _ h h2=>exact⟨_,_,h,(fun e he=>by cases he),(fun L' he=>by cases he;exact h2)⟩
  clear Fc WJ;refine H5 (by repeat (first|exact Qr|exact Qk|exact Ql|exact Qm|exact Qn|apply Qj|apply Qq|apply Qx|apply Q5|apply Q6|apply Qi|apply Q2)) [(2,4),(9,15),(54,104)] [13,14,102,103,901] (fun m J hp=>∃L,eX v m L o2/\J 4=PV.ct L) n ?_ ?_
  ·refine⟨L,VU,?_⟩;refine Sz1 k4 ?_
   try trivial
  clear VU k4 d2;rintro n2 J2 h2 ⟨L2,yH,k4⟩;have cT:=yH.wN;have oX:=QH cT hv;by_cases hc:(cG L2 v).2<=1
  ·obtain⟨Nf⟩:Nonempty (o2= .ok L2):=by
    cases yH with
    |stop _ _=>exact⟨rfl⟩
    |fail _ h _=>omega
    |step _ h _ _=>omega
   have hMv:=VF.2 L2 Nf;generalize cG L2 v=AQ at *
   obtain⟨a2,c2⟩:=AQ;have d3:decide ((c2:Int)<=1)=true:=decide_eq_true (by simp only at hc;omega);refine Sz2 k4 k8 ?_;refine Qa hP oX rfl rfl rfl ?_;refine Sz3 k4 k8 d3 ?_;simp (disch:=decide) only[zL,C4,mM,Dg,G4,jR];refine Qg v (by omega) ⟨L2,by omega,hMv,?_⟩;refine Sz2 k4 k8 ?_
   try trivial
  ·obtain⟨hG,iZ⟩:tX v L2/\2<=(cG L2 v).2:=by
    cases yH with
    |stop _ h=>exact absurd h hc
    |fail h h2 _=>exact⟨h,h2⟩
    |step h h2 _ _=>exact⟨h,h2⟩
   have hlen:=cT.len;have bA:=hG.bA;have aoi:=hG.Mf;obtain⟨bl1,bl2,Jg⟩:=rR L2 v;have d3:decide (((cG L2 v).2:Int)<=1)=false:=decide_eq_false (by omega);have hS6:dO L2 v=L2.length->∃n3,n2=n3+1/\eX v n3 (il L2 v) o2:=fun hb=>by
    cases yH with
    |stop _ h=>exact absurd h hc
    |fail _ _ h=>omega
    |step _ _ _ h=>exact⟨_,rfl,h⟩
   have hS4:dO L2 v<L2.length->o2= .error (lW L2 v (dO L2 v)):=fun hb=>by
    cases yH with
    |stop _ h=>exact absurd h hc
    |fail _ _ h=>rfl
    |step _ _ h _=>omega
   clear yH;rw[aoi]at oX;generalize(cG L2 v).2=c2 at *
   refine Sz2 k4 k8 ?_;refine Qa hP oX rfl rfl rfl ?_;refine Sz3 k4 k8 d3 ?_;refine kZ 11 901 2 34 (by omega) Tz0 ?_;refine Qw (by repeat (first|exact Qr|exact Qk|exact Ql|exact Qm|exact Qn|apply Qj|apply Qq|apply Qx|apply Q5|apply Q6|apply Qi|apply Q2)) [(2,3),(11,15),(62,103)] [13,14,102,103,901] (fun m J hp=>∃i,m=L2.length-i/\i<=dO L2 v/\J 11= .ms 901 (eP L2 (aT L2 v) v (dA L2 v) i).length/\J 12= .int .i64 (i:Nat)/\hp 901=some ⟨2,34,(eP L2 (aT L2 v) v (dA L2 v) i).map PV.el,false⟩) L2.length ?_ ?_
   ·refine⟨0,rfl,by omega,?_⟩;refine Sz0 ?_
    first|rfl|exact⟨rfl,rfl⟩|exact⟨rfl,rfl,rfl⟩
   rintro _ J3 h3 ⟨i,rfl,hi,iA,nG,hq⟩;by_cases c1:i<L2.length
   ·have d4:decide ((i:Int)<(L2.length:Int))=true:=decide_eq_true (by omega);have gN:=cT.el _ (Kag c1);obtain⟨b1,b2,b3,b4⟩:=gN;have hm:=CW b1 b2 (by omega:_<=2^36);have sK:=DI L2 (aT L2 v) v (dA L2 v) i;have aG:eP L2 (aT L2 v) v (dA L2 v) (i+1)=eP L2 (aT L2 v) v (dA L2 v) i++mP L2 (aT L2 v) v (dA L2 v) i:=by unfold eP;rw[Kb0,Kb4];simp
    unfold mP at aG;rw[fJ c1]at aG;have aog:=hG.dv i c1;have sI:=fun a b=>hG.err c1 a b;rw[fJ bA]at sI;have Mw:dA L2 v L2[i]=(eh L2[i] L2[aT L2 v]).1:=by unfold dA;rw[fJ bA]
    have fm:=bl2 i;have Bk:¬i<dO L2 v->i=dO L2 v:=fun h=>by omega
    have pY:(dA L2 v L2[i]).1.length=(dA L2 v L2[i]).1.length:=rfl;generalize eP L2 (aT L2 v) v (dA L2 v) i=A at *
    have d5:decide (0<(L2[i].1.length:Int))=true:=decide_eq_true (by omega);generalize hx:L2[i]=x at *
    generalize hy:L2[aT L2 v]=y at *
    by_cases e1:i=aT L2 v
    ·have q1:decide (¬(i:Int)=(aT L2 v:Int))=false:=decide_eq_false fun h=>h (by omega);rw[if_pos (.inl e1)]at aG;refine Sz8 k4 k8 iA nG d4 d5 hx q1 ?_;rw[Q9 (f:=PV.el) (y:=x) (xs:=A) (ty':=34) (fz:=false) (Tz1 hq) cH (by omega) rfl (by omega) (by omega)];refine Sz4 k4 k8 iA nG ?_;refine Qg (L2.length-(i+1)) (by omega) ⟨i+1,rfl,?_,?_⟩
     ·by_cases gR:i<dO L2 v
      ·omega
      ·exfalso;have:=Bk gR;apply Jg (by omega);unfold lW;rw[if_pos (.inl (by omega))]
     rw[aG];simp+decide (disch:=first|omega|rfl|(simp+decide only[go_sem,Kap]<;>rfl)|fail) only[go_sem,Kap]
     try trivial
    ·have q1:decide (¬(i:Int)=(aT L2 v:Int))=true:=decide_eq_true fun h=>e1 (by omega);by_cases e2:Qv x.1=v
     ·have q2:decide (Qv x.1=(v:Int))=true:=decide_eq_true e2;obtain⟨m0,j0,Tf,Tg,hD⟩:=aog e1 e2;have fu:=aif hD;have sI:=sI e1 e2;rw[if_neg (by simp[e1,e2]),Mw]at aG;have FU:(eh x y).1.1.length<=4000∨True:=.inr trivial;generalize hz:eh x y=z at *
      obtain⟨z,ez⟩:=z;simp only at aG fu sI;refine Sz7 k4 k8 iA nG d4 hx q1 ?_;refine Qa hP hm rfl rfl rfl ?_;refine Sz7 k4 k8 iA nG q2 hx hy ?_;refine nP ?_ ?_
      all_goals
       repeat' first
        |refine Qa hP fu rfl rfl rfl ?_
        |simp+decide (disch:=try exact D6 k4 k8 iA nG hx hy) only[go_sem,k4,k8,iA,nG,hx,hy]
       by_cases gR:i<dO L2 v
       rotate_left
       ·have yK:=Bk gR;have hez:ez≠0:=by rw[<-sI,yK];exact Jg (by omega)
        have hoe:=VF.1 _ (hS4 (by omega));have q3:decide (¬ez=0)=true:=decide_eq_true hez;refine Sz5 k4 k8 iA nG q3 ?_;exact eV (p':=.sl 2 []) (by rw[ou,hoe,<-yK,sI];rfl) rfl rfl trivial (Qy _)
       obtain rfl:ez=0:=by rw[<-sI];exact fm gR
       by_cases e3:0<z.1.length
       ·have q3:decide (0<(z.1.length:Int))=true:=decide_eq_true (by omega);rw[if_pos e3]at aG;refine Sz5 k4 k8 iA nG q3 ?_;rw[Q9 (f:=PV.el) (y:=z) (xs:=A) (ty':=34) (fz:=false) (Tz1 hq) cH (by omega) rfl (by omega) (by omega)];refine Sz4 k4 k8 iA nG ?_;refine Qg (L2.length-(i+1)) (by omega) ⟨i+1,rfl,by omega,?_⟩;rw[aG];simp+decide (disch:=first|omega|rfl|(simp+decide only[go_sem,Kap]<;>rfl)|fail) only[go_sem,Kap]
        try trivial
       ·have q3:decide (0<(z.1.length:Int))=false:=decide_eq_false (by omega);rw[if_neg e3,Kak]at aG;refine Sz5 k4 k8 iA nG q3 ?_;refine Qg (L2.length-(i+1)) (by omega) ⟨i+1,rfl,by omega,?_⟩;rw[aG];refine Sz2 iA hq ?_
        try (first|trivial|exact⟨rfl,rfl⟩)
     ·have q2:decide (Qv x.1=(v:Int))=false:=decide_eq_false e2;rw[if_pos (.inr e2)]at aG;refine Sz7 k4 k8 iA nG d4 hx q1 ?_;refine Qa hP hm rfl rfl rfl ?_;refine Sz6 k4 k8 iA nG d5 q2 ?_;rw[Q9 (f:=PV.el) (y:=x) (xs:=A) (ty':=34) (fz:=false) (Tz1 hq) cH (by omega) rfl (by omega) (by omega)];refine Sz4 k4 k8 iA nG ?_;refine Qg (L2.length-(i+1)) (by omega) ⟨i+1,rfl,?_,?_⟩
      ·by_cases gR:i<dO L2 v
       ·omega
       ·exfalso;have:=Bk gR;apply Jg (by omega);unfold lW;rw[<-this,fJ c1,hx,if_pos (.inr e2)]
      rw[aG];simp+decide (disch:=first|omega|rfl|(simp+decide only[go_sem,Kap]<;>rfl)|fail) only[go_sem,Kap]
      try trivial
   ·obtain rfl:i=L2.length:=by omega
    have hbL:dO L2 v=L2.length:=by omega
    have d4:decide ((L2.length:Int)<(L2.length:Int))=false:=decide_eq_false (by omega);obtain⟨n3,rfl,VS⟩:=hS6 hbL;unfold il at VS;generalize eP L2 (aT L2 v) v (dA L2 v) L2.length=L3 at *
    refine Sz5 k4 k8 iA nG d4 ?_;rw[G4 (V:=[(4,4),(104,104),(2,3),(11,15),(62,103)]) (W:=[(2,4),(9,15),(54,104)]) (h:=by decide) (hB:= ?_)]
    rotate_left
    ·decide
    refine Hm 4 n3 (by decide) ?_ (by omega) ⟨_,VS,?_⟩
    ·simp+decide (disch:=try exact E1 hq) only[go_sem,hq,et,Kax,KaC,Kau,KaA,Kak]<;>rfl
    ·refine tZ hq ?_;show PV.sl 2 _=PV.sl 2 _;rw[Kae (by simp)]
def kd(t:aU):Bool:=decide (t.a.length<=1)&&decide (t.d.length<=1)
def tU(ls:List (List aU))(most:Nat)(deg:Int):Bool:=decide (ls.length<=most)&&ls.all fun l=>lh 4 3 3 l&&(decide (jH (l.map aU.tm)<=deg)&&l.all kd)
theorem alW{ls:List (List aU)}{most:Nat}{deg:Int}(hl:ls.length<=1048576)(hp:∀l∈ls,l.length<=1048576/\∀t∈l,RB 1048576 t)(hm:most<=100):
  Qc Tryz.prog 6 [.sl 1 (ls.map PV.kD),.int .i64 most,.int .i64 deg] (· = .bool (tU ls most deg)):=by
 refine Qf Qo Tryz.func6 rfl alS (by simp[c6]) fun C hP=>?_;simp only[c6,Zo,Zg,Zm,Zc,Zf,Zl,Zh,Zs,Zi,Zb,Zk,Zn,Zu,Zq,Zr,Zz];refine Sz0 ?_;refine Qb (fun h6=>?_) (fun h6=>?_)
 ·refine Sz0 ?_;exact Qd (by rw[tU,decide_eq_false (by omega),Kc8]) rfl
 have hF:tU ls most deg=ls.all fun l=>lh 4 3 3 l&&(decide (jH (l.map aU.tm)<=deg)&&l.all kd):=by rw[tU,decide_eq_true (by omega),KbZ]
 rw[hF];clear hF;refine Sz0 ?_;refine Qw (by repeat (first|exact Qr|exact Qk|exact Ql|exact Qm|exact Qn|apply Qj|apply Qq|apply Qx|apply Q5|apply Q6|apply Qi|apply Q2)) [(6,8),(13,67)] [] (fun m J hp=>∃i,m=ls.length-i/\i<=ls.length/\(∀j (h:j<ls.length),j<i->(lh 4 3 3 ls[j]&&(decide (jH (ls[j].map aU.tm)<=deg)&&ls[j].all kd))=true)/\J 7= .int .i64 (i:Nat)) ls.length ?_ ?_
 ·refine⟨0,rfl,by omega,by omega,?_⟩;refine Sz0 ?_
  try (first|rfl|exact⟨rfl,rfl⟩)
 rintro _ J h ⟨i,rfl,hi,bz,j7⟩;by_cases c1:i<ls.length
 ·have d1:decide ((i:Int)<(ls.length:Int))=true:=decide_eq_true (by omega);obtain⟨b1,b2⟩:=hp _ (Kag c1);have eo:=Kag c1;have sT:=Yv (n:=4) (v:=3) (e:=3) b2 (by omega) (by omega) (by omega:_<2^40);have fE:(lh 4 3 3 ls[i]&&(decide (jH (ls[i].map aU.tm)<=deg)&&ls[i].all kd))=true->∀j (h:j<ls.length),j<i+1->(lh 4 3 3 ls[j]&&(decide (jH (ls[j].map aU.tm)<=deg)&&ls[j].all kd))=true:=fun h j hj dW=>by
   by_cases e:j=i
   ·subst e;exact h
   ·exact bz j hj (by omega)
  have jJ:(lh 4 3 3 ls[i]&&(decide (jH (ls[i].map aU.tm)<=deg)&&ls[i].all kd))=false->(ls.all fun l=>lh 4 3 3 l&&(decide (jH (l.map aU.tm)<=deg)&&l.all kd))=false:=fun h=>by rw[Kc6];exact⟨_,eo,by simp[h]⟩
  generalize hx:ls[i]=x at *
  cases hs:lh 4 3 3 x
  ·rw[hs]at sT jJ;refine Sz3 j7 d1 hx ?_;refine Qa hP sT rfl rfl rfl ?_;refine Sz3 j7 d1 hx ?_;exact Qd (by rw[jJ (by simp)]) rfl
  ·have sp:=UA (e:=3) b2 hs;have Fq:=Qy6 sp.b (by omega) (by have:=sp.ln;omega);rw[<-sp.eq]at Fq;rw[hs]at sT;generalize uv:jH (x.map aU.tm)=dx at *
   rw[hs,KbZ]at fE jJ;by_cases c2:dx<=deg
   ·have d2:decide (deg<dx)=false:=decide_eq_false (by omega);rw[decide_eq_true c2,KbZ]at fE jJ;refine Sz3 j7 d1 hx ?_;refine Qa hP sT rfl rfl rfl ?_;refine Sz3 j7 d1 hx ?_;refine Qa hP Fq rfl rfl rfl ?_;refine Sz4 j7 d1 d2 hx ?_;refine Qw (by repeat (first|exact Qr|exact Qk|exact Ql|exact Qm|exact Qn|apply Qj|apply Qq|apply Qx|apply Q5|apply Q6|apply Qi|apply Q2)) [(6,6),(8,8),(34,67)] [] (fun m J hp=>∃k,m=x.length-k/\k<=x.length/\(∀j (h:j<x.length),j<k->kd x[j]=true)/\J 8= .int .i64 (k:Nat)) x.length ?_ ?_
    ·refine⟨0,rfl,by omega,by omega,?_⟩;refine Sz0 ?_
     try (first|rfl|exact⟨rfl,rfl⟩)
    rintro _ J2 h2 ⟨k,rfl,hk,jM,j8⟩;by_cases c3:k<x.length
    ·have d3:decide ((k:Int)<(x.length:Int))=true:=decide_eq_true (by omega);have M':=Kag c3;have Wc:kd x[k]=false->x.all kd=false:=fun h=>by rw[Kc6];exact⟨_,M',by simp[h]⟩
     have v5:kd x[k]=true->∀j (h:j<x.length),j<k+1->kd x[j]=true:=fun h j hj dW=>by
      by_cases e:j=k
      ·subst e;exact h
      ·exact jM j hj (by omega)
     generalize hy:x[k]=y at *
     by_cases c4:y.a.length<=1
     ·have q4:decide (1<(y.a.length:Int))=false:=decide_eq_false (by omega);by_cases c5:y.d.length<=1
      ·have q5:decide (1<(y.d.length:Int))=false:=decide_eq_false (by omega);refine Sz7 j7 j8 d3 hx hy q4 q5 ?_;refine Qg (x.length-(k+1)) (by omega) ⟨k+1,rfl,by omega,v5 (by rw[kd,decide_eq_true c4,decide_eq_true c5];rfl),?_⟩;refine Sz0 ?_
       try trivial
      ·have q5:decide (1<(y.d.length:Int))=true:=decide_eq_true (by omega);refine Sz7 j7 j8 d3 hx hy q4 q5 ?_;exact Qd (by rw[jJ (Wc (by rw[kd,decide_eq_false c5,Bool.and_false]))]) rfl
     ·have q4:decide (1<(y.a.length:Int))=true:=decide_eq_true (by omega);refine Sz6 j7 j8 d3 hx hy q4 ?_;exact Qd (by rw[jJ (Wc (by rw[kd,decide_eq_false c4,Kc8]))]) rfl
    ·obtain rfl:k=x.length:=by omega
     have d3:decide ((x.length:Int)<(x.length:Int))=false:=decide_eq_false (by omega);have FN:x.all kd=true:=by rw[Kav];intro t ht;obtain⟨j,hj,rfl⟩:=Ka8 ht;exact jM j hj hj
     refine Sz4 j7 j8 d3 hx ?_;simp (disch:=decide) only[jR,mM];refine Qg (ls.length-(i+1)) (by omega) ⟨i+1,rfl,by omega,fE FN,?_⟩;refine Sz0 ?_
     try trivial
   ·have d2:decide (deg<dx)=true:=decide_eq_true (by omega);rw[decide_eq_false c2,Kc8]at jJ;refine Sz3 j7 d1 hx ?_;refine Qa hP sT rfl rfl rfl ?_;refine Sz3 j7 d1 hx ?_;refine Qa hP Fq rfl rfl rfl ?_;refine Sz4 j7 d1 d2 hx ?_;exact Qd (by rw[jJ rfl]) rfl
 ·obtain rfl:i=ls.length:=by omega
  have d1:decide ((ls.length:Int)<(ls.length:Int))=false:=decide_eq_false (by omega);refine Sz2 j7 d1 ?_;refine Qd ?_ rfl;congr 1;symm;rw[Kav];intro t ht;obtain⟨j,hj,rfl⟩:=Ka8 ht;exact bz j hj hj
abbrev w7(ls:List (List aU)):List (List Tm):=ls.map (List.map aU.tm)
structure lK(deg:Int)(p:List Tm):Prop where
 b:PB 2 3 p
 v:rG p
 l:p.length<=4
 m:ML 3 p
 d:jH p<=deg
theorem Ja{l:List aU}{deg:Int}{k:Nat}(hb:∀t∈l,RB k t)(h:(lh 4 3 3 l&&(decide (jH (l.map aU.tm)<=deg)&&l.all kd))=true):PV.kD l=PV.aj (l.map aU.tm)/\lK deg (l.map aU.tm):=by simp only[Kat,decide_eq_true_eq,Kav]at h;obtain⟨h1,h2,h3⟩:=h;have sp:=UA (e:=3) hb h1;refine⟨sp.eq,fun t ht=>?_,sp.va,sp.ln,sp.ml,h2⟩;have iY:=sp.b t ht;obtain⟨x,hx,rfl⟩:=KaE.1 ht;have ho:=h3 x hx;simp only[kd,Kat,decide_eq_true_eq]at ho;have hr:=(show Raw 1 x.n x.a x.d from⟨(hb x hx).r.1,(hb x hx).r.2.1,ho.1,ho.2,by omega⟩).rs;refine⟨?_,iY.m,iY.l⟩;show rs (rv x.n x.a x.d)+1<=2;omega
theorem ail{ls:List (List aU)}{most:Nat}{deg:Int}{k:Nat}(hb:∀l∈ls,∀t∈l,RB k t)(h:tU ls most deg=true):ls.length<=most/\PV.sl 1 (ls.map PV.kD)=PV.ch (w7 ls)/\∀p∈w7 ls,lK deg p:=by
 simp only[tU,Kat,decide_eq_true_eq]at h;obtain⟨h1,h2⟩:=h;rw[Kav]at h2;refine⟨h1,?_,fun p hp=>?_⟩
 ·show PV.sl 1 _=PV.sl 1 _;congr 1;rw[KcY];exact Ka9 fun l hl=>(Ja (hb l hl) (by have:=h2 l hl;simpa using this)).1
 ·obtain⟨l,hl,rfl⟩:=KaE.1 hp;exact(Ja (hb l hl) (by have:=h2 l hl;simpa using this)).2
theorem eK.ap5{m j Tf Tg v:Nat}{f g:aC}(h:eK m j Tf Tg v f g):Qv (eh f g).1.1<=v:=by
 unfold eh;cases hd:l5 f.1 g.1 with
 |none=>show Qv []<=_;have:Qv []= -1:=rfl;omega
 |some d=>obtain⟨q,r,n⟩:=d;have o:=h.out hd;exact Iu (o.mv.wV o.nr.c _)
theorem eX.filter{v n:Nat}{l:List aC}{o:Except Int (List aC)}(h:eX v n l o):∀l',o= .ok l'->∀u,v<u->l'.filter (dD u)=l.filter (dD u):=by
 induction h with
 |stop=>intro l' e u _;cases e;rfl
 |fail=>intro l' e;cases e
 | @step l n o hG _ _ _ ih=>
  intro l' e u hu;rw[ih l' e u hu];have bA:=hG.bA;refine Q9t hu (fun i hi h1 h2=>?_) (fun bA=>?_)
  ·obtain⟨m,j,Tf,Tg,hD⟩:=hG.dv i hi h1 h2;unfold dA;rw[fJ bA];exact hD.ap5
  ·by_cases hi:∃i,∃hi:i<l.length,i≠aT l v/\Qv l[i].1=v
   ·obtain⟨i,hi,h1,h2⟩:=hi;obtain⟨m,j,Tf,Tg,hD⟩:=hG.dv i hi h1 h2;exact hD.mg
   ·exact(xD (l:=l) (v:=v) (by omega)).2.2.1
theorem TI{l:List aC}{u:Nat}(h:(cG l u).2<=1):gI l u=(l.filter (dD u)).head? :=by
 have hc:=zO l u;rw[List.countP_eq_length_filter]at hc;unfold gI;by_cases h0:(cG l u).2=0
 ·rw[Hw h0,if_neg (by omega)];have:l.filter (dD u)=[]:=Kas.1 (by omega);rw[this];rfl
 ·obtain⟨e,bA,hm,_⟩:=xD (l:=l) (v:=u) (by omega);rw[e,if_pos (by omega),fJ bA];have eo:l[aT l u]∈l.filter (dD u):=List.mem_filter.2 ⟨Kag _,by unfold dD;exact decide_eq_true hm⟩;generalize l.filter (dD u)=F at *
  match F,hc,eo with
  | [x],_,eo=>rw[KaL.1 eo];rfl
  | [],hc,_=>simp at hc;omega
  |_::_::_,hc,_=>simp at hc;omega
theorem PH{l:List aC}{u:Nat}{e:aC}(h:gI l u=some e):e∈l/\Qv e.1=u:=by
 unfold gI at h;split at h
 ·rename_i h0;have hn:1<=(cG l u).2:=by apply Decidable.byContradiction;intro hc;have:=Hw (l:=l) (v:=u) (by omega);omega
  obtain⟨_,bA,hm,_⟩:=xD hn;rw[fJ bA]at h;cases h;exact⟨Kag _,hm⟩
 ·cases h
theorem eX.X1{v n:Nat}{l:List aC}{o:Except Int (List aC)}(h:eX v n l o)(hv:v<64):(∀l',o= .ok l'->js v l l' (gI l' v) n/\(cG l' v).2<=1/\pq l')/\∀e,o= .error e->nY v e l n:=by
 induction h with
 | @stop l cT hc=>
  refine⟨fun l' e=>?_,fun e h=>by cases h⟩;cases e;refine⟨?_,hc,cT⟩;have hs:=GC cT hv;by_cases h0:(cG l v).2=0
  ·have e:=Hw h0;have hf:gI l v=none:=by unfold gI;rw[e,if_neg (by omega)]
   rw[hf];rw[h0]at hs;exact js.none l _ hs
  ·have h1:(cG l v).2=1:=by omega
   obtain⟨e,bA,hm,_⟩:=xD (l:=l) (v:=v) (by omega);have hf:gI l v=some l[aT l v]:=by unfold gI;rw[e,if_pos (by omega),fJ bA]
   rw[hf];rw[h1,e]at hs;exact js.one l _ bA hs
 | @fail l hG h2 hb=>refine⟨fun l' e=>(by cases e),fun e h=>?_⟩;cases h;have hs:=GC hG.lb hv;rw[hG.Mf]at hs;have hr:=Si hG;rw[if_neg (by omega)]at hr;exact nY.fail l _ _ hs (by omega) ((rR l v).2.2 hb) hr
 | @step l n o hG h2 hb _ ih=>
  have hs:=GC hG.lb hv;rw[hG.Mf]at hs;have hr:=Si hG;rw[if_pos hb]at hr;refine⟨fun l' e=>?_,fun e h=>?_⟩
  ·obtain⟨i1,i2,i3⟩:=ih.1 l' e;exact⟨js.more l _ l' _ _ _ _ hs (by omega) hr i1,i2,i3⟩
  ·exact nY.more l _ _ _ _ hs (by omega) hr (ih.2 e h)
structure Path(v:Nat)(l:List aC)(o:Except Int (List aC))(Ls:Nat->List aC)(F:Option (Nat×Int)):Prop where
 top:Ls v=l
 lb:∀u,pq (Ls u)
 tn:∀u,u<v->(∀p,F=some p->p.1<u)->∃m,js u (Ls (u+1)) (Ls u) (gI (Ls u) u) m
 tx:∀p,F=some p->p.1<v/\∃m,nY p.1 p.2 (Ls (p.1+1)) m
 ok:F=none->o= .ok (Ls 0)/\(∀u,u<v->(cG (Ls u) u).2<=1)/\∀u w,w<=u->w<=v->(Ls w).filter (dD u)=(Ls (min u v)).filter (dD u)
 er:∀p,F=some p->o= .error p.2
theorem Mk.path{v:Nat}{l:List aC}{o:Except Int (List aC)}(h:Mk v l o):∃Ls F,Path v l o Ls F:=by
 induction h with
 | @done l cT=>exact⟨fun _=>l,none,rfl,fun _=>cT,fun u hu=>absurd hu (by omega),fun p hp=>(by cases hp),fun _=>⟨rfl,fun u hu=>absurd hu (by omega),fun _ _ _ _=>rfl⟩,fun p hp=>(by cases hp)⟩
 | @bad v n l e hv hS=>
  refine⟨fun _=>l,some (v,e),rfl,fun _=>hS.wN,fun u hu hp=>?_,fun p hp=>?_,fun h=>(by cases h),fun p hp=>?_⟩
  ·have:=hp _ rfl;simp only at this;omega
  ·cases hp;exact⟨by show v<v+1;omega,n,(hS.X1 hv).2 e rfl⟩
  ·cases hp;rfl
 | @next v n l l' o hv hS _ ih=>
  obtain⟨Ls,F,hP⟩:=ih;obtain⟨t1,t2,t3⟩:=(hS.X1 hv).1 l' rfl;have aos:=hS.filter l' rfl;have cT:∀u,pq (if u<=v then Ls u else l):=fun u=>by
   split
   ·exact hP.lb u
   ·exact hS.wN
  refine⟨fun u=>if u<=v then Ls u else l,F,?_,cT,fun u hu hp=>?_,fun p hp=>?_,fun hF=>?_,hP.er⟩
  ·exact if_neg (by omega)
  ·by_cases e:u=v
   ·subst e;rw[if_neg (by omega),if_pos (Kac _),hP.top];exact⟨n,t1⟩
   ·rw[if_pos (by omega),if_pos (by omega)];exact hP.tn u (by omega) hp
  ·obtain⟨k1,m,k2⟩:=hP.tx p hp;refine⟨by omega,m,?_⟩;rw[if_pos (by omega)];exact k2
  ·obtain⟨k1,k2,k3⟩:=hP.ok hF;refine⟨by rw[if_pos (Kby _)];exact k1,fun u hu=>?_,fun u w hw hu=>?_⟩
   ·rw[if_pos (by omega)];by_cases e:u=v
    ·subst e;rw[hP.top];exact t2
    ·exact k2 u (by omega)
   ·by_cases wK:w<=v
    ·rw[if_pos wK,k3 u w hw wK];by_cases e:u<=v
     ·have e1:min u v=u:=by omega
      have e2:min u (v+1)=u:=by omega
      rw[e1,e2,if_pos e]
     ·have e1:min u v=v:=by omega
      have e2:min u (v+1)=v+1:=by omega
      rw[e1,e2,if_neg (by omega),hP.top];exact aos u (by omega)
    ·have e1:w=v+1:=by omega
     have e2:min u (v+1)=v+1:=by omega
     rw[e1,e2]
def kV(ps:List (List Tm))(i:Nat):aC:=di (ps.getD i []) (eD ps.length i)
theorem lK.td{deg:Int}{p:List Tm}(h:lK deg p):TD deg p:=fun t ht=>by have h1:=(aek p).1 t ht;rw[ag8 (by have:=(h.b t ht).m.len;omega)];have:=h.d;omega
theorem DB{n i:Nat}{c:List Tm}(h:c∈eD n i):c=[]∨c=dm 1:=by
 unfold eD at h;rcases KcU h with h|h
 ·exact .inl (Kc0.1 h).2
 ·exact .inr h
theorem lK.sz{p:List Tm}(h:lK 2 p):SZ 9 8 2 p:=(SZ.of h.b h.l).XO (PE (T:=2) h.td ⟨3,2,h.b⟩)
theorem lK.AY{p:List Tm}(h:lK 2 p):rs (eT p)<=29:=by
 unfold eT;split
 ·have:=l4;have e:((1:Int):Rat)=1:=rfl;rw[e];omega
 ·have:=(h.sz.wU h.v.nF ‹_›).2;omega
theorem lK.pri{p:List Tm}(h:lK 2 p){n i:Nat}(hn:n<=3):uT p (eD n i):=by
 refine⟨h.b.mono (by omega) (by omega),h.v.nF,by have:=h.l;omega,by have:=h.AY;omega,by unfold eD;simp;omega,fun c hc=>?_⟩;rcases DB hc with rfl|rfl
 ·exact⟨PB.nil _ _,az.nil,by simp⟩
 ·exact⟨SZ.F3.PB.mono (by omega) (by omega),xp 1,by decide+kernel⟩
theorem lK.lv{p:List Tm}(h:lK 2 p){n i:Nat}(hc:eZ (di p (eD n i))=0):Lv n 0 2 (di p (eD n i))/\(p=[]∨0<=Qv (di p (eD n i)).1):=by
 have ow:uJ (di p (eD n i))=false:=by
  unfold eZ at hc;split at hc
  ·cases hc
  ·rename_i h1;simpa using h1
 have M7:=ow;simp only[uJ,Kcf]at ow;obtain⟨g1,g2⟩:=ow;rw[Kbs]at g2;have hn:=h.v.nF;have hf:=h.AY;refine⟨⟨?_,TD.wV h.td hn.c _,qC hn.s _,g1,ML.wV h.m hn.c _,fun y hy=>?_,?_⟩,?_⟩
 ·show SZ 1 17 2 (b8 p (eT p));unfold eT;split
  ·rename_i h0;subst h0;rw[xt];exact SZ.nil _ _ _ (by omega) (by omega)
  ·exact(h.sz.wU hn ‹_›).1.mono (Kac _) (by omega) (Kac _)
 ·obtain⟨c,ja,rfl⟩:=KaE.1 hy;have hs:SZ 1 1 0 c/\az c:=by
   rcases DB ja with rfl|rfl
   ·exact⟨SZ.nil _ _ _ (by omega) (by omega),az.nil⟩
   ·exact⟨SZ.F3,xp 1⟩
  refine⟨(hs.1.scale hf).mono (by decide) (by decide) (by decide),qC hs.2.s _,?_⟩;have:=g2 _ hy;simpa using this
 ·simp[di,eD]
 ·by_cases h0:p=[]
  ·exact .inl h0
  ·right;unfold eZ at hc;rw[M7]at hc;simp only[KaJ,if_false]at hc;split at hc
   ·cases hc
   ·rename_i rj;have aO:0<(di p (eD n i)).1.length:=by show 0<(b8 p (eT p)).length;rw[UI hn.z (PF hn)];exact Kbf.2 h0
    omega
def kG(ps:List (List Tm)):Nat:=pK (fun i=>decide (eZ (kV ps i)≠0)) ps.length 0
theorem Hx(ps:List (List Tm)):kG ps<=ps.length/\(∀i,i<kG ps->eZ (kV ps i)=0)/\(kG ps<ps.length->eZ (kV ps (kG ps))≠0):=by
 obtain⟨h1,h2,h3,h4⟩:=GY (fun i=>decide (eZ (kV ps i)≠0)) ps.length 0;refine⟨by unfold kG;omega,fun i hi=>?_,fun h=>?_⟩
 ·have:=h3 i (by omega) hi;simpa using this
 ·have:=h4 (by unfold kG at h;omega);simpa[kG]using this
inductive w8(ps:List (List Tm)):Except Int (List aC)->Prop
 |bad:kG ps<ps.length->w8 ps (.error (eZ (kV ps (kG ps))))
 |go {o:Except Int (List aC)}:kG ps=ps.length->Mk 64 (gz (kV ps) ps.length) o->(∀l',o= .ok l'->l'.length<=3/\∀x∈l',oS ps.length x)->w8 ps o
theorem xX{ps:List (List Tm)}{i:Nat}(hi:i<ps.length):kV ps i=di ps[i] (eD ps.length i):=by
 unfold kV;have:ps.getD i []=ps[i]:=by simp[hi]
 rw[this]
theorem ak4{ps:List (List Tm)}(hl:ps.length<=3)(hF:∀p∈ps,lK 2 p):∃o,w8 ps o:=by
 obtain⟨b1,b2,b3⟩:=Hx ps;by_cases hb:kG ps=ps.length
 ·have hA:yr ps.length ((64:Nat)-1:Int) (gz (kV ps) ps.length):=by
   have bz:∀x∈gz (kV ps) ps.length,Lv ps.length 0 2 x/\0<=Qv x.1:=fun x hx=>by
    unfold gz at hx;obtain⟨i,hi,hx⟩:=Kaq.1 hx;have hi:i<ps.length:=Kch.1 hi;unfold se at hx;split at hx
    ·rename_i ie;rw[KaL]at hx;subst hx;have h0:=b2 i (by omega);rw[xX hi]at h0 ie⊢;obtain⟨k1,k2⟩:=(hF _ (Kag hi)).lv h0;refine⟨k1,k2.resolve_left fun e=>?_⟩;rw[e]at ie;have:(di [] (eD ps.length i)).1=[]:=by
      show b8 [] (eT [])=[]
      exact xt _
     rw[this]at ie;simp at ie
    ·cases hx
   refine .inl ⟨Kaw (DJ _ _) hl,fun x hx=>?_,fun x hx _=>(bz x hx).1⟩;exact(bz x hx).1.fin (by omega) (by omega) (bz x hx).2
  obtain⟨o,h1,h2⟩:=Sj hl 64 _ (Kac _) hA;exact⟨o,.go hb h1 h2⟩
 ·exact⟨_,.bad (by omega)⟩
theorem UK{α β:Type}{f g:α->Option β}:∀ {l:List α},(∀x∈l,f x=g x)->l.filterMap f=l.filterMap g
 | [],_=>rfl
 |x::l,h=>by rw[Kbl,Kbl,h x (by simp),UK fun y hy=>h y (by simp[hy])]
theorem ade{ps:List (List Tm)}(hl:ps.length<=3)(hF:∀p∈ps,lK 2 p){o:Except Int (List aC)}(h:w8 ps o):Qc Tryz.prog 8 [PV.ch ps] (· =vT o)/\Qc Tryz.prog 9 [PV.ch ps] (· =vT o):=by
 obtain⟨b1,b2,b3⟩:=Hx ps;have hP:∀i (h:i<ps.length),uT ps[i] (eD ps.length i):=fun i hi=>(hF _ (Kag hi)).pri hl;have aG:=PC (ps:=ps) (R:=kV ps) (bad:=kG ps) (er:=eZ (kV ps (kG ps))) (by omega) b1 (fun i hi hb=>by
  have h0:=b2 i hb;have hs:=I9 (hP i hi);rw[<-xX hi,h0]at hs;refine⟨hs,?_⟩;rw[xX hi];have:=(hP i hi).x.2.2.1;omega) (fun hb=>by
  have h0:=b3 hb;have hs:=I9 (hP _ hb);rw[<-xX hb]at hs;unfold y8 at hs;rw[if_neg h0]at hs;exact⟨h0,hs⟩)
 have hr:∀o',(kG ps=ps.length->Mk 64 (gz (kV ps) ps.length) o')->Qc Tryz.prog 9 [PV.ch ps] (· =if kG ps=ps.length then vT o' else .au [PV.ct [],.int .i64 (eZ (kV ps (kG ps)))]):=fun o' wD=>
  afd (P:=kV ps) (by omega) (fun i hi=>by
   have:=HA (hP i hi)
   rwa[<-xX hi]at this) b1 b2 b3 wD
 cases h with
 |bad hb=>have hr:=hr (.ok []) (fun e=>by omega);rw[if_neg (by omega)]at hr aG;exact⟨Q8i (b3 hb) aG,hr⟩
 | go hb hM _=>
  have hr:=hr o (fun _=>hM);rw[if_pos hb]at hr aG;refine⟨?_,hr⟩;obtain⟨Ls,F,yG⟩:=hM.path;have hG:=QN (F:=F) (Ls:=Ls) (K:=fun u=>gI (Ls u) u) (list:=ps) (by rw[yG.top];exact aG) (fun v hv hp=>yG.tn v hv hp) (fun p hp=>yG.tx p hp) (fun v e he=>((yG.lb v).el e (PH he).1).2.2.2);have dz:NS F (fun u=>gI (Ls u) u)=vT o:=by
   cases yF:F with
   | none=>
    obtain⟨k1,k2,k3⟩:=yG.ok yF;rw[k1];show PV.au [PV.ct ((List.range 64).filterMap fun u=>gI (Ls u) u),.int .i64 0]=PV.au [PV.ct (su (Ls 0)),.int .i64 0];have:(List.range 64).filterMap (fun u=>gI (Ls u) u)=su (Ls 0):=by
     unfold su;refine UK fun u hu=>?_;have hu:u<64:=Kch.1 hu;have hf:(Ls 0).filter (dD u)=(Ls u).filter (dD u):=by have h1:=k3 u 0 (by omega) (by omega);have h2:=k3 u u (Kac _) (by omega);rw[h1,h2]
     have c1:=k2 u hu;have c2:(cG (Ls 0) u).2<=1:=by rw[zO,List.countP_eq_length_filter,hf,<-List.countP_eq_length_filter,<-zO];exact c1
     rw[TI c1,TI c2,hf]
    rw[this]
   |some p=>rw[yG.er p yF];rfl
  rwa[dz]at hG
def iT(p:List Tm)(cs:List (List Tm)):List Tm×List (List Tm):=(b8 p (dP p),cs.map (fun c=>b8 c (dP p)))
def R6(p:List Tm)(cs:List (List Tm)):Bool:=B9 100 10 p&&(CA p&&(decide (0<p.length)&&(decide (p.length<=10)&&(decide (cs.length<=10)&&(cs.all (fun c=>B9 100 10 c&&decide (c.length<=10))&&(decide (rs (dP p)+1<=100)&&(B9 100 10 (iT p cs).1&&(decide (bh (iT p cs).1=false)&&(decide (0<(iT p cs).1.length)&&(decide ((iT p cs).1.length<=10)&&(decide (0<=Qv (iT p cs).1)&&((iT p cs).2.all (fun c=>B9 100 10 c&&(decide (c.length<=10)&&decide (bh c=false)))))))))))))))
theorem Jb{p:List Tm}{cs:List (List Tm)}(h:R6 p cs=true):Qc Tryz.prog 66 [PV.aj p,PV.ch cs] (· = .au [PV.el (iT p cs),.int .i64 0]):=by
 simp only[R6,Kat,decide_eq_true_eq,Kav]at h;obtain⟨h1,h2,h3,h4,h5,h6,h7,h8,h9,bK,cu,bP,bX⟩:=h;have hlen:(iT p cs).2.length=cs.length:=by simp[iT]
 refine YW (p:=p) (q:=(iT p cs).1) (cs:=cs) (ds:=(iT p cs).2) (a:=dP p) hlen (by omega) ?_ (fun i hi=>?_) ?_ bK ?_ ?_
 ·exact Sm (K:=100) (E:=10) (dn h1) (tK h2) (Kbf.1 h3) (by omega) (by omega) (by omega)
 ·have hc:=h6 _ (Kag hi);have e:(iT p cs).2.getD i []=b8 cs[i] (dP p):=by simp[iT,hi]
  rw[e];exact CK (K:=100) (E:=10) (dn hc.1) h7 (by omega) (by omega) (by omega)
 ·have:=En (p:=(iT p cs).1) (E:=10) (fun t ht=>((dn h8) t ht).m) (by omega)
  rwa[h9]at this
 ·have:=Sk (p:=(iT p cs).2) (f:=61) (g:=bh) (fun t ht=>by have hc:=bX t ht;exact En (E:=10) (fun s hs=>((dn hc.1) s hs).m) (by omega)) (by omega)
  rwa[show(iT p cs).2.any bh=false from by rw[Kbs];intro t ht;have hc:=bX t ht;simp[hc.2.2]]at this
 ·have:=UF (p:=(iT p cs).1) (K:=100) (E:=10) (dn h8) (by omega)
  rwa[show decide (Qv (iT p cs).1<0)=false from decide_eq_false (by omega)]at this
abbrev eW:List Tm:=[(1,[])]
abbrev jQ:List Tm:=[(1,[1])]
abbrev mz:List Tm:=[(1,[0,1]),(-1,[1])]
abbrev pe:List Tm:=[(1,[0,1]),(1,[1])]
abbrev gP:List Tm:=[(1,[1,1]),(-1,[])]
abbrev nI:List Tm:=[(1,[0,2])]
abbrev E0:List Tm×List (List Tm):=(mz,[eW,[]])
abbrev E1:List Tm×List (List Tm):=(pe,[[],eW])
abbrev E2:List Tm×List (List Tm):=(jQ,[[(mkRat (-1) 2,[])],[(mkRat 1 2,[])]])
theorem aln:iT mz (eD 2 0)=E0:=by decide+kernel
theorem alo:iT pe (eD 2 1)=E1:=by decide+kernel
theorem alp:iT [(2,[1])] (cD eW eW E1.2 E0.2)=E2:=by decide+kernel
theorem afe:Qc Tryz.prog 27 [PV.ch [mz,pe]] (· = .au [PV.ct [E0,E1],.int .i64 0]):=by
 have h:=ahv (ps:=[mz,pe]) (R:=fun i=>if i=0 then E0 else E1) (by simp) (fun i hi=>by
  have:i=0∨i=1:=by simp at hi;omega
  rcases this with rfl|rfl
  ·have:=Jb (p:=mz) (cs:=eD 2 0) (by decide+kernel)
   rwa[aln]at this
  ·have:=Jb (p:=pe) (cs:=eD 2 1) (by decide+kernel)
   rwa[alo]at this) (fun i hi=>by split<;>simp)
 exact h
theorem aim:na mz 1 1 2 [] pe 0=some (eW,[(2,[1])],1):=by decide+kernel
theorem ak5:Qc Tryz.prog 57 [PV.aj pe,PV.aj mz,.int .i64 (1:Nat)] (· = .au [PV.aj eW,PV.aj [(2,[1])],.int .i64 (1:Nat),.int .i64 0]):=by
 have h:=GK (f:=pe) (g:=mz) (v:=1) (d:=1) (N:=2) (K:=100) (E:=10) (M:=10) (tK (by decide+kernel)) (tK (by decide+kernel)) (dn (by decide+kernel)) (by omega) (by simp) (by decide+kernel) (by decide+kernel) (by decide+kernel) (fun k hk=>by
  have:k=0∨k=1:=by omega
  rcases this with rfl|rfl<;>exact⟨dn (by decide+kernel),dn (by decide+kernel)⟩) (by simp) (by omega) (by omega) (by omega) (by omega) (by omega) (by omega) (by omega)
 rwa[AB,aim]at h
theorem ain:cA mz=eW:=by decide+kernel
theorem ak6:cy eW 1=eW:=by decide+kernel
theorem Q9v:Qc Tryz.prog 69 [PV.el E1,PV.el E0,.int .i64 (1:Nat)] (· = .au [PV.el E2,.int .i64 0]):=by
 refine OE (f:=E1) (g:=E0) (v:=1) (q:=eW) (r:=[(2,[1])]) (c:=eW) (n:=1) (x:=E2) (e:=0) (by simp) rfl ak5 ?_ ?_ ?_ ?_ ?_ ?_
 ·exact GF (K:=100) (E:=10) (dn (by decide+kernel)) (by simp)
 ·have h:=IE (p:=eW) (n:=1) (K:=100) (E:=10) (L:=10) (by omega) (dn (by decide+kernel)) (fun i hi=>by
   have:i=0∨i=1:=by omega
   rcases this with rfl|rfl<;>exact⟨dn (by decide+kernel),by decide+kernel⟩) (by simp) (by omega) (by omega) (by omega) (by omega)
  rw[ak6]at h;show Qc Tryz.prog _ [PV.aj (cA mz),_] _;rw[ain];exact h
 ·intro y hy;have:y=[]∨y=eW:=by simpa using hy
  rcases this with rfl|rfl<;>exact rP (K:=100) (E:=10) (dn (by decide+kernel)) (dn (by decide+kernel)) (by omega) (by simp) (by simp) (by simp) (by simp) (by omega)
 ·intro y hy;have:y=eW∨y=[]:=by simpa using hy
  rcases this with rfl|rfl<;>exact rP (K:=100) (E:=10) (dn (by decide+kernel)) (dn (by decide+kernel)) (by omega) (by simp) (by simp) (by simp) (by simp) (by omega)
 ·intro y hy z hz;have h1:y=[]∨y=eW:=by simpa using hy
  have h2:z=eW∨z=[]:=by simpa using hz
  rcases h1 with rfl|rfl<;>rcases h2 with rfl|rfl<;>exact Hr (K:=100) (E:=10) (dn (by decide+kernel)) (dn (by decide+kernel)) (by omega) (by omega) (by omega) (Kaw (by decide+kernel:_<=10) (by omega)) (Kaw (by decide+kernel:_<=10) (by omega))
 ·have h:=Jb (p:=[(2,[1])]) (cs:=cD eW eW E1.2 E0.2) (by decide+kernel)
  rwa[alp]at h
theorem R7:∀x∈[E0,E1,E2],PB 100 10 x.1/\x.1.length<=2^30:=by
 intro x hx;have:x=E0∨x=E1∨x=E2:=by simpa using hx
 rcases this with rfl|rfl|rfl<;>exact⟨dn (by decide+kernel),by simp⟩
theorem aeP:Qc Tryz.prog 29 [PV.ct [E0,E1],.int .i64 (0:Nat),.int .i64 (1:Nat)] (· = .au [PV.ct [E0,E2],.int .i64 0]):=by
 have h:=ah4 (l:=[E0,E1]) (at_:=0) (v:=1) (K:=100) (E:=10) (R:=fun _=>E2) (by simp) (by simp) (fun x hx=>R7 x (by simp at hx ⊢;rcases hx with h|h<;>simp[h])) (fun i hi h0 hm=>by
  have:i=1:=by simp at hi;omega
  subst this;exact Q9v) (fun _ _ _=>by simp)
 have e:eP [E0,E1] 0 1 (fun _=>E2) 2=[E0,E2]:=by decide+kernel
 have h2:([E0,E1]:List (List Tm×List (List Tm))).length=2:=rfl;rw[h2,e]at h;exact h
theorem Ed{l:List (List Tm×List (List Tm))}{v:Nat}{a:Int}{n:Nat}(hl:∀x∈l,x∈[E0,E1,E2])(gB:l.length<=100)(hv:v<64)(h:cG l v=(a,n)):Qc Tryz.prog 28 [PV.ct l,.int .i64 v] (· = .au [.int .i64 a,.int .i64 n]):=by
 have:=QG (l:=l) (v:=v) (K:=100) (E:=10) hv (fun x hx=>R7 x (hl x hx)) (by omega) (by omega) gB
 rwa[h]at this
theorem ak7:∀v,v<64->2<=v->cG [E0,E1] v=(-1,0):=by decide+kernel
def AP(v:Nat):Option (List Tm×List (List Tm)):=if v=0 then some E2 else if v=1 then some E0 else none
theorem aio:Qc Tryz.prog 8 [PV.ch [mz,pe]] (· = .au [PV.ct [E2,E0],.int .i64 0]):=by
 have h:=ai0 (list:=[mz,pe]) (Ls:=fun v=>if 2<=v then [E0,E1]else [E0,E2]) (K:=AP) afe (fun v hv=>?_) (fun v e h=>?_)
 ·have e:(List.range 64).filterMap AP=[E2,E0]:=by decide+kernel
  rw[e]at h;exact h
 ·by_cases h2:2<=v
  ·refine⟨0,?_⟩;have e1:AP v=none:=by unfold AP;rw[if_neg (by omega),if_neg (by omega)]
   rw[e1];simp only[h2,if_true,show 2<=v+1 by omega];exact js.none _ (-1) (Ed (by simp) (by simp) hv (ak7 v hv h2))
  ·have:v=0∨v=1:=by omega
   rcases this with rfl|rfl
   ·refine⟨0,?_⟩;exact js.one [E0,E2] 1 (by simp) (Ed (by simp) (by simp) hv (by decide+kernel))
   ·refine⟨1,?_⟩;exact js.more [E0,E1] [E0,E2] [E0,E2] (0:Nat) (2:Nat) (some E0) 0 (Ed (by simp) (by simp) hv (by decide+kernel)) (by simp) aeP (js.one [E0,E2] 0 (by simp) (Ed (by simp) (by simp) hv (by decide+kernel)))
 ·unfold AP at h;split at h
  ·cases h;simp
  ·split at h
   ·cases h;simp
   ·cases h
abbrev nH:List Tm:=[(1,[0,1])]
abbrev AO(f _:List Tm):Option (List Tm×List Tm×Nat):=na gP 1 1 3 [] f 0
theorem aeQ:na gP 1 1 3 [] nI 0=some ([(1,[1,1]),(1,[])],eW,2):=by decide+kernel
instance aqP : DecidableEq qS := instDecidableEqProd
theorem aeR:tQ [gP] AO 1 ([0],[[]],nI)=some ([2],[[(1,[1,1]),(1,[])]],eW):=by decide+kernel
theorem GD:w9 100 10 gP:=⟨dn (by decide+kernel),(tK (by decide+kernel)).NO (dn (K:=100) (E:=10) (by decide+kernel)) (by omega),by simp⟩
theorem alq:w9 100 10 nI:=⟨dn (by decide+kernel),(tK (by decide+kernel)).NO (dn (K:=100) (E:=10) (by decide+kernel)) (by omega),by simp⟩
theorem aip:R3 60 61 58 59 57 41 gP 0 (AO nI gP) ([0],[[]],nI):=by
 have hm:Qv gP=1:=by decide+kernel
 have hi:cA gP=jQ:=by decide+kernel
 have hd:AO nI gP=some ([(1,[1,1]),(1,[])],eW,2):=aeQ;refine⟨?_,?_,?_,fun q r n h=>?_,fun q r n h k hk ny=>?_,fun q r n h k hk ny=>?_⟩
 ·exact xf (K:=100) (E:=10) GD.b (by simp)
 ·rw[hm];have h:=GK (f:=nI) (g:=gP) (v:=1) (d:=1) (N:=3) (K:=100) (E:=10) (M:=10) (tK (by decide+kernel)) (tK (by decide+kernel)) (dn (by decide+kernel)) (by omega) (by simp) (by decide+kernel) (by decide+kernel) (by decide+kernel) (fun k hk=>by
   have:k=0∨k=1∨k=2:=by omega
   rcases this with rfl|rfl|rfl<;>exact⟨dn (by decide+kernel),dn (by decide+kernel)⟩) (by simp) (by omega) (by omega) (by omega) (by omega) (by omega) (by omega) (by omega)
  rwa[AB]at h
 ·exact GF (K:=100) (E:=10) GD.b (by simp)
 ·rw[hd]at h;obtain⟨rfl,rfl,rfl⟩:[(1,[1,1]),(1,[])]=q/\eW=r/\2=n:=by simpa using h
  rw[hi];exact IE (p:=jQ) (n:=2) (K:=100) (E:=10) (L:=10) (by omega) (dn (by decide+kernel)) (fun i hi=>by
   have:i=0∨i=1∨i=2:=by omega
   rcases this with rfl|rfl|rfl<;>exact⟨dn (by decide+kernel),by decide+kernel⟩) (by simp) (by omega) (by omega) (by omega) (by omega)
 ·simp at hk;omega
 ·simp at hk;omega
theorem adf:Qc Tryz.prog 23 [PV.aj nI,PV.ch [gP]] (· = .au [PV.Cg ([2],[[(1,[1,1]),(1,[])]],eW),.int .i64 0]):=by
 have hc:AX (-1) [gP]=true:=by decide+kernel
 have hR:=ae6 (gs:=[gP]) (by simp) (fun p hp=>by rw[KaL.1 hp];exact GD) (by omega) (by omega);rw[hc]at hR;have h:=ae4 (p:=nI) (gs:=[gP]) (D:=AO) (G:=fun i s=>i=0∨s=([0],[[]],nI)) (by simp) (ae7 alq (by omega)) hR (.inr rfl) (fun i hi s hs=>by
  have:i=0:=by simp at hi;omega
  subst this;have:s=([0],[[]],nI):=hs.resolve_left (by omega);subst this;exact⟨aip,fun s' _=>.inl rfl⟩)
 have e:tQ [gP] AO [gP].length (List.replicate [gP].length 0,List.replicate [gP].length [],nI)=some ([2],[[(1,[1,1]),(1,[])]],eW):=aeR;rw[e]at h;exact h
theorem amt:vO 0=jQ:=by decide+kernel
theorem amu:vO 1=nH:=by decide+kernel
theorem ak8:fV nH jQ=mz:=by decide+kernel
theorem ak9:Q8 nH jQ=pe:=by decide+kernel
theorem alr:mU nH nH=nI:=by decide+kernel
theorem als:mU jQ nH=[(1,[1,1])]:=by decide+kernel
theorem ala:dm ((1:Int):Rat)=eW:=by decide+kernel
theorem ams:fV [(1,[1,1])] eW=gP:=by decide+kernel
theorem yc{p:List Tm}(h:CA p=true):NZ p:=(tK h).z
theorem aiq:Qc Tryz.prog 7 [] (· = .bool true):=by
 have hx:Qc Tryz.prog 20 [.int .i64 (0:Nat)] (· =PV.aj jQ):=by have:=TE (v:=0) (by omega);rwa[show vO ((0:Nat):Int)=jQ from amt]at this
 have hy:Qc Tryz.prog 20 [.int .i64 (1:Nat)] (· =PV.aj nH):=by have:=TE (v:=1) (by omega);rwa[show vO ((1:Nat):Int)=nH from amu]at this
 have h1:=C3 (p:=nH) (q:=jQ) (K:=100) (E:=10) (dn (by decide+kernel)) (dn (by decide+kernel)) (yc (by decide+kernel)) (by omega) (by omega) (by omega) (by simp) (by simp);rw[ak8]at h1;have h2:=C2 (p:=nH) (q:=jQ) (K:=100) (E:=10) (dn (by decide+kernel)) (dn (by decide+kernel)) (by omega) (by omega) (by simp) (by simp);rw[ak9]at h2;have h3:=rK (p:=nH) (q:=nH) (K:=100) (E:=10) (dn (by decide+kernel)) (dn (by decide+kernel)) (yc (by decide+kernel)) (yc (by decide+kernel)) (by omega) (by simp) (by simp) (by simp) (by simp);rw[alr]at h3;have h4:=rK (p:=jQ) (q:=nH) (K:=100) (E:=10) (dn (by decide+kernel)) (dn (by decide+kernel)) (yc (by decide+kernel)) (yc (by decide+kernel)) (by omega) (by simp) (by simp) (by simp) (by simp);rw[als]at h4;have h5:=Hi (a:=((1:Int):Rat)) (k:=1) (by have:((1:Int):Rat)=1:=rfl;rw[this];exact l4) (by omega);rw[ala]at h5;have sN:=rN (x:=1) (by omega) (by omega);have h6:=C3 (p:=[(1,[1,1])]) (q:=eW) (K:=100) (E:=10) (dn (by decide+kernel)) (dn (by decide+kernel)) (yc (by decide+kernel)) (by omega) (by omega) (by omega) (by simp) (by simp);rw[ams]at h6;have h7:=SJ (p:=jQ) (q:=jQ) (K:=100) (E:=10) (dn (by decide+kernel)) (dn (by decide+kernel)) (by omega) (by omega) (by simp) (by simp);rw[decide_eq_true (p:=jQ=jQ) rfl]at h7;have h8:=SJ (p:=eW) (q:=eW) (K:=100) (E:=10) (dn (by decide+kernel)) (dn (by decide+kernel)) (by omega) (by omega) (by simp) (by simp);rw[decide_eq_true (p:=eW=eW) rfl]at h8;have hM:=aio;obtain⟨c2,iZ⟩:∃c2,E2=(jQ,c2):=⟨_,rfl⟩
 obtain⟨c0,v9⟩:∃c0,E0=(mz,c0):=⟨_,rfl⟩
 rw[iZ,v9]at hM;have hR:=adf;generalize([[(1,[1,1]),(1,[])]]:List (List Tm))=qq at hR;generalize sL:([(1,[1,1])]:List Tm)=mm at *
 clear iZ v9 sL;have n1:jQ.length=1:=rfl;generalize jQ=vx at *
 generalize nH=vy at *
 generalize mz=p0 at *
 generalize pe=p1 at *
 generalize nI=yy at *
 generalize gP=gg at *
 generalize eW=on at *
 generalize((1:Int):Rat)=r1 at *
 refine Qf Qo Tryz.func7 rfl alT (by simp[c7]) fun C hP=>?_;simp only[c7,Zo,Zg,Zm,Zc,Zf,Zl,Zh,Zs,Zi,Zb,Zk,Zn,Zu,Zq,Zr,Zz];refine Sz0 ?_;refine Qa hP hx rfl rfl rfl ?_;refine Sz0 ?_;refine Qa hP hy rfl rfl rfl ?_;refine Sz0 ?_;refine Qa hP h1 rfl rfl rfl ?_;refine Sz0 ?_;refine Qa hP h2 rfl rfl rfl ?_;refine Sz0 ?_;refine iQ hP hM Cy rfl ?_;refine eQ ?_;refine Qa hP h3 rfl rfl rfl ?_;refine eQ ?_;refine Qa hP h4 rfl rfl rfl ?_;refine eQ ?_;refine Qa hP sN rfl rfl rfl ?_;refine eQ ?_;refine Qa hP h5 rfl rfl rfl ?_;refine eQ ?_;refine Qa hP h6 rfl rfl rfl ?_;refine eQ ?_;refine iQ hP hR Cy rfl ?_;refine eQ ?_;refine Qa hP h7 rfl rfl rfl ?_;refine eQ ?_;refine Qa hP sN rfl rfl rfl ?_;refine eQ ?_;refine Qa hP h5 rfl rfl rfl ?_;refine eQ ?_;refine Qa hP h8 rfl rfl rfl ?_;refine eQ ?_;exact Qd rfl rfl
def c3:aA:=⟨32,[.t 2],Zr (Zo (.mv 2 (.c (.bool false))) .nil)<| .seq (Zr (Zm 7 0<|Zq 8 false 6 [.t 7,.c (Zz 3),.c (Zz 2)]<|Zu 9 8 .nil)<| .cond (.t 9) (Zr (Zq 10 false 7 []<|Zm 2 10 .nil) .ret) .skip)<|Zr (Zm 12 0<|Zq 13 false 8 [.t 12]<|Zm 11 13<|Zo (.ext 14 (.t 11) 0)<|Zo (.ext 15 (.t 11) 1)<|Zm 3 14<|Zm 4 15 .nil)<|Zr (Zm 17 0<|Zq 18 false 9 [.t 17]<|Zm 16 18<|Zo (.ext 19 (.t 16) 0)<|Zo (.ext 20 (.t 16) 1)<|Zm 5 19<|Zm 6 20 .nil)<|Zr (Zm 21 3<|Zm 22 5<|Zq 23 false 10 [.t 21,.t 22]<|Zm 24 23<|Zg 24 true (.mv 25 (.t 4))<|Zg 24 true (.mv 26 (.t 6))<|Zg 24 true (.bin 27 .eql false (.t 25) (.t 26))<|Zo (.pick 28 (.t 24) (.t 27) (.c (.bool false)))<|Zm 29 28<|Zg 29 true (.call (some 30) false (.c (.fn 7 [] [])) [])<|Zo (.pick 31 (.t 29) (.t 30) (.c (.bool false)))<|Zm 2 31 .nil) .ret⟩
theorem PJ{l:List aC}{x:aC}(h:x∈su l):x∈l:=by unfold su at h;obtain⟨u,_,hu⟩:=KbR.1 h;exact(PH hu).1
theorem oS.b{m:Nat}{x:aC}(h:oS m x)(hm:m<=3):PB 900000 5000 x.1/\x.1.length<=4000/\x.2.length<=3/\∀y∈x.2,PB 900000 5000 y/\az y/\y.length<=4000:=by have h6:=Gf;refine⟨h.lv.pb.mono (by omega) (by omega),h.lv.len,by rw[h.lv.k];exact hm,fun y hy=>?_⟩;obtain⟨c1,c2,c3⟩:=h.lv.c y hy;exact⟨c1.PB.mono (by omega) (by omega),c2,qE c3⟩
theorem aeS(l:List aC):(su l).length<=64:=by unfold su;exact Kaw (Kcb _ _) (by simp)
def cv(φ:List Int->Rat):List (List Tm)->List (List Tm)->Rat
 |c::cs,p::ps=>aR φ (Q4 c p)+cv φ cs ps
 |_,_=>0
def Cd(φ:List Int->Rat)(c:List Tm):List Int->Rat:=fun n=>aR (fun m=>φ (bm m n)) c
theorem Ee(φ:List Int->Rat)(c x:List Tm):aR φ (Q4 c x)=aR (Cd φ c) x:=by rw[gU,xG];rfl
theorem PK(φ:List Int->Rat)(a:Rat):∀(cs ps:List (List Tm)),(∀c∈cs,az c)->cv φ (cs.map (fun c=>b8 c a)) ps=a*cv φ cs ps
 | [],ps,_=>by simp only[Kbu,cv];grind
 |c::cs,[],_=>by simp only[Kbd,cv];grind
 |c::cs,p::ps,h=>by have ih:=PK φ a cs ps fun x hx=>h x (by simp[hx]);rw[Kbd,cv,cv,ih,gU,He _ (h c (by simp)).c,<-gU];grind
theorem R8(φ:List Int->Rat){c q:List Tm}(nc:az c)(nq:az q):∀(a b ps:List (List Tm)),a.length=b.length->(∀x∈a,az x)->(∀x∈b,az x)->(∀x∈ps,az x)->cv φ (cD c q a b) ps=cv (Cd φ c) a ps-cv (Cd φ q) b ps
 | [],[],ps,_,_,_,_=>by simp only[cD,List.zipWith_nil_left,cv];grind
 | [],_::_,_,h,_,_,_=>by simp at h
 |_::_,[],_,h,_,_,_=>by simp at h
 |u::a,w::b,[],_,_,_,_=>by simp only[cD,List.zipWith_cons_cons,cv];grind
 | u::a,w::b,p::ps,h,ha,hb,hp=>by
  have ih:=R8 φ nc nq a b ps (by simpa using h) (fun x hx=>ha x (by simp[hx])) (fun x hx=>hb x (by simp[hx])) (fun x hx=>hp x (by simp[hx]));have nu:=ha u (by simp);have nw:=hb w (by simp);have np:=hp p (by simp);have e:cD c q (u::a) (w::b)=fV (Q4 c u) (Q4 q w)::cD c q a b:=rfl;have n1:=dN nc.s nu.s;have n2:=dN nq.s nw.s;have e1:aR φ (Q4 (fV (Q4 c u) (Q4 q w)) p)=aR (Cd φ c) (Q4 u p)-aR (Cd φ q) (Q4 w p):=by rw[gU,H6 _ n1.c n2,<-gU,<-gU,Dd nc nu np,Dd nq nw np,Ee φ c,Ee φ q]
  rw[e,cv,cv,cv,ih,e1];grind
structure CB(ps:List (List Tm))(x:aC):Prop where
 k:x.2.length=ps.length
 n:az x.1
 c:∀y∈x.2,az y
 b:∀y∈x.2,∃K E,PB K E y
 e:∀φ,aR φ x.1=cv φ x.2 ps
theorem CB.wU{ps:List (List Tm)}{p:List Tm}{cs:List (List Tm)}(h:CB ps (p,cs)):CB ps (di p cs):=by
 refine⟨by simp[di];exact h.k,qC h.n.s _,fun y hy=>?_,fun y hy=>?_,fun φ=>?_⟩
 ·obtain⟨c,hc,rfl⟩:=KaE.1 hy;exact qC (h.c c hc).s _
 ·obtain⟨c,hc,rfl⟩:=KaE.1 hy;obtain⟨K,E,hb⟩:=h.b c hc;exact⟨_,E,xw hb (Kac _)⟩
 ·show aR φ (b8 p (eT p))=cv φ (cs.map (fun c=>b8 c (eT p))) ps;rw[He _ h.n.c,PK φ _ _ _ h.c,h.e φ]
section
variable {m j Tf Tg v : Nat} {f g : aC} {ps : List (List Tm)}
theorem eK.eqn(h:eK m j Tf Tg v f g){q r:List Tm}{n:Nat}(he:l5 f.1 g.1=some (q,r,n)):Q4 (cy (cA g.1) n) f.1=Q8 (Q4 q g.1) r:=by obtain⟨_,_,_,_,_,n6,_,n8,_⟩:=h.num;unfold l5 at he;rw[n8]at he;obtain⟨e1,e2,_,_⟩:=DZ (f:=f.1) _ 0 he (fun h=>absurd h (by omega));rw[h.yY.1,<-n6,e1,e2];exact RY h.hf.n h.hg.n n
theorem eK.cb(h:eK m j Tf Tg v f g)(hp:∀p∈ps,az p)(hf:CB ps f)(hg:CB ps g){q r:List Tm}{n:Nat}(he:l5 f.1 g.1=some (q,r,n)):CB ps (eh f g).1:=by
 have o:=h.out he;have heq:=h.eqn he;obtain⟨i1,i2,i3,i4⟩:=o.ni;unfold eh;rw[he];refine CB.wU ⟨?_,o.nr,fun y hy=>?_,fun y hy=>?_,fun φ=>?_⟩
 ·show(cD _ q f.2 g.2).length=_;rw[cD,KbU,hf.k,hg.k,Nat.min_self]
 ·obtain⟨u,hu,w,hw,rfl⟩:=Eb hy;obtain⟨_,_,m1,m2⟩:=o.yx h hu hw;exact vn m1 m2
 ·obtain⟨u,hu,w,hw,rfl⟩:=Eb hy;obtain⟨s1,s2,_,_⟩:=o.yx h hu hw;exact⟨_,_,((s1.mono (Kac _) (Kac _) (by omega:nL j*tL j+eL j<=tL j+nL j*tL j+eL j)).wW s2).PB⟩
 ·show aR φ r=cv φ (cD _ q f.2 g.2) ps;rw[R8 φ (tE i2 n) o.nq _ _ _ (by rw[hf.k,hg.k]) hf.c hg.c hp,<-hf.e,<-hg.e,<-Ee,<-Ee,heq,pI (dN o.nq.s h.hg.n.s).c o.nr.c];grind
end
theorem eX.cb{ps:List (List Tm)}(hp:∀p∈ps,az p){v n:Nat}{l:List aC}{o:Except Int (List aC)}(h:eX v n l o):(∀x∈l,CB ps x)->(∀l',o= .ok l'->∀x∈l',CB ps x)/\∀e,o= .error e->e=4∨e=13/\∃x,CB ps x/\x.1≠[]/\Qv x.1<0:=by
 induction h with
 |stop=>exact fun h=>⟨fun l' e=>(by cases e;exact h),fun e he=>(by cases he)⟩
 | @fail l hG _ hb=>
  refine fun h=>⟨fun l' e=>(by cases e),fun e he=>?_⟩
  cases he;have h0:=(rR l v).2.2 hb;have bA:=hG.bA;have aO:¬(dO l v=aT l v∨Qv (l.getD (dO l v) default).1≠v):=fun hc=>h0 (by unfold lW;rw[if_pos hc]);rw[fJ hb]at aO;simp only[not_or,Decidable.not_not]at aO;obtain⟨m,j,Tf,Tg,hD⟩:=hG.dv _ hb aO.1 aO.2;have e2:=hG.err hb aO.1 aO.2;rw[fJ bA]at e2;rw[e2]at h0⊢;cases hd:l5 l[dO l v].1 l[aT l v].1 with
  |none=>left;unfold eh;rw[hd]
  | some d=>
   obtain⟨q,r,n⟩:=d;have hc:=hD.cb hp (h _ (Kag hb)) (h _ (Kag bA)) hd;have MM:(eh l[dO l v] l[aT l v]).2=eZ (eh l[dO l v] l[aT l v]).1:=by unfold eh;rw[hd]
   rw[MM]at h0⊢;generalize(eh l[dO l v] l[aT l v]).1=x at *
   unfold eZ at h0⊢;split
   ·exact .inl rfl
   ·rename_i h1;rw[if_neg h1]at h0;split
    ·rename_i h2;exact .inr ⟨rfl,x,hc,Kbf.1 h2.1,h2.2⟩
    ·rename_i h2;rw[if_neg h2]at h0;exact absurd rfl h0
 | @step l n o hG _ hb _ ih=>
  refine fun h=>ih fun y hy=>?_;have bA:=hG.bA;rcases Es hy hb bA with⟨ig,_⟩|⟨i,hi,h1,h2,rfl,h4,h5⟩
  ·exact h y ig
  ·obtain⟨m,j,Tf,Tg,hD⟩:=hG.dv i hi h1 h2;cases hd:l5 l[i].1 l[aT l v].1 with
   |none=>unfold eh at h4;rw[hd]at h4;cases h4
   |some d=>obtain⟨q,r,n⟩:=d;exact hD.cb hp (h _ (Kag hi)) (h _ (Kag bA)) hd
theorem Mk.cb{ps:List (List Tm)}(hp:∀p∈ps,az p){v:Nat}{l:List aC}{o:Except Int (List aC)}(h:Mk v l o):(∀x∈l,CB ps x)->(∀l',o= .ok l'->∀x∈l',CB ps x)/\∀e,o= .error e->e=4∨e=13/\∃x,CB ps x/\x.1≠[]/\Qv x.1<0:=by
 induction h with
 |done=>exact fun h=>⟨fun l' e=>(by cases e;exact h),fun e he=>(by cases he)⟩
 |bad _ hS=>exact fun h=>hS.cb hp h
 |next _ hS _ ih=>exact fun h=>ih ((hS.cb hp h).1 _ rfl)
theorem Rk(φ:List Int->Rat):∀(ps:List (List Tm))(i:Nat)(hi:i<ps.length),(∀p∈ps,az p)->cv φ (eD ps.length i) ps=aR φ ps[i]
 | p::ps,0,_,hp=>by
  have e:eD (p::ps).length 0=dm ((1:Int):Rat)::List.replicate ps.length []:=by simp[eD,Kbq]
  have hz:∀(qs:List (List Tm)),cv φ (List.replicate qs.length []) qs=0:=fun qs=>by
   induction qs with
   |nil=>rfl
   |cons q qs ih=>rw[KaW,Kbq,cv,ih,gU,gX];grind
  have hn:=hp p (by simp);rw[e,cv,hz];have e2:Q4 (dm ((1:Int):Rat)) p=p:=Pq hn;rw[e2];simp only[KcF];grind
 |p::ps,i+1,hi,hp=>by
  have e:eD (p::ps).length (i+1)=[]::eD ps.length i:=by simp[eD,Kbq]
  have ih:=Rk φ ps i (by simpa using hi) fun q hq=>hp q (by simp[hq]);rw[e,cv,ih,gU,gX];simp only[List.getElem_cons_succ];grind
theorem RU{ps:List (List Tm)}(hp:∀p∈ps,az p){i:Nat}(hi:i<ps.length):CB ps (kV ps i):=by
 rw[xX hi];refine CB.wU ⟨by simp[eD],hp _ (Kag hi),fun y hy=>?_,fun y hy=>?_,fun φ=>(Rk φ ps i hi hp).symm⟩
 ·rcases DB hy with rfl|rfl
  ·exact az.nil
  ·exact xp 1
 ·rcases DB hy with rfl|rfl
  ·exact⟨0,0,PB.nil _ _⟩
  ·exact⟨_,_,SZ.F3.PB⟩
theorem w8.cb{ps:List (List Tm)}(hp:∀p∈ps,az p){o:Except Int (List aC)}(h:w8 ps o):(∀l',o= .ok l'->∀x∈l',CB ps x)/\∀e,o= .error e->e=4∨e=13/\∃x,CB ps x/\x.1≠[]/\Qv x.1<0:=by
 obtain⟨b1,b2,b3⟩:=Hx ps;cases h with
 | bad hb=>
  refine⟨fun l' e=>(by cases e),fun e he=>?_⟩;cases he;have h0:=b3 hb;have hc:=RU hp hb;generalize kV ps (kG ps)=x at *
  unfold eZ at h0⊢;split
  ·exact .inl rfl
  ·rename_i h1;rw[if_neg h1]at h0;split
   ·rename_i h2;exact .inr ⟨rfl,x,hc,Kbf.1 h2.1,h2.2⟩
   ·rename_i h2;rw[if_neg h2]at h0;exact absurd rfl h0
 | go hb hM _=>
  refine hM.cb hp fun x hx=>?_;unfold gz at hx;obtain⟨i,hi,hx⟩:=Kaq.1 hx;have hi:i<ps.length:=Kch.1 hi;unfold se at hx;split at hx
  ·rw[KaL]at hx;subst hx;exact RU hp hi
  ·cases hx
theorem Rl{vs:List Rat}:∀ {cs ps:List (List Tm)},(∀c∈cs,∃K E,PB K E c)->(∀p∈ps,(∃K E,PB K E p)/\dG vs p=0)->cv (iz vs) cs ps=0
 | [],_,_,_=>by simp only[cv]
 |_::_,[],_,_=>by simp only[cv]
 |c::cs,p::ps,hc,hp=>by obtain⟨K,E,hb⟩:=hc c (by simp);obtain⟨⟨K',E',aw⟩,h0⟩:=hp p (by simp);have ih:=Rl (cs:=cs) (ps:=ps) (fun x hx=>hc x (by simp[hx])) (fun x hx=>hp x (by simp[hx]));have h1:aR (iz vs) (Q4 c p)=dG vs c*dG vs p:=Q83 hb aw;rw[cv,ih,h1,h0];grind
theorem CB.zero{ps:List (List Tm)}{x:aC}(h:CB ps x){vs:List Rat}(hp:∀p∈ps,(∃K E,PB K E p)/\dG vs p=0):dG vs x.1=0:=by show aR (iz vs) x.1=0;rw[h.e,Rl h.b hp]
theorem CB.const{ps:List (List Tm)}{x:aC}(h:CB ps x)(h0:x.1≠[])(hm:Qv x.1<0)(vs:List Rat):dG vs x.1≠0:=by
 have bz:∀t∈x.1,t.2=[]:=fun t ht=>by have:=(vg x.1).2.1 t ht;exact Kas.1 (by omega)
 have hn:=h.n;generalize x.1=p at *
 match p,h0,hn,bz with
 | [t],_,hn,bz=>
  have e:=bz t (by simp);have hz:=hn.z t (by simp);have:dG vs [t]=t.1:=by show aR (iz vs) [t]=_;rw[dF,gX,e];show t.1*1+0=t.1;grind
  rw[this];exact hz
 |t::s::p,_,hn,bz=>exfalso;have h1:=hn.s.1 s (by simp);rw[bz t (by simp),bz s (by simp),zX]at h1;omega
end Go.Proofs.YtdjoomkeehihmaaGreat
namespace Go.Proofs.YtdjoomkeehihmaaGreat
open Go Go.FW
def c4:aA:=⟨80,[.t 2],Zr (Zo (.mv 2 (.c (.bool false))) .nil)<| .seq (Zr (Zm 7 0<|Zq 8 false 6 [.t 7,.c (Zz 3),.c (Zz 2)]<|Zu 9 8 .nil)<| .cond (.t 9) (Zr (Zq 10 false 7 []<|Zm 2 10 .nil) .ret) .skip)<|Zr (Zm 12 0<|Zq 13 false 8 [.t 12]<|Zm 11 13<|Zo (.ext 14 (.t 11) 0)<|Zo (.ext 15 (.t 11) 1)<|Zm 3 14<|Zm 4 15 .nil)<| .seq (Zr (Zm 16 4<|Zk 17 .neq 16 0 .nil)<| .cond (.t 17) (Zr (Zm 18 3<|Zn 19 18<|Zk 20 .eql 19 0<|Zm 21 20<|Zg 21 true (.mv 22 (.t 4))<|Zg 21 true (.bin 23 .eql false (.t 22) (.c (Zz 13)))<|Zg 21 true (.mv 24 (.t 23))<|Zg 24 false (.mv 25 (.t 4))<|Zg 24 false (.bin 26 .eql false (.t 25) (.c (Zz 4)))<|Zg 21 true (.pick 27 (.t 24) (.c (.bool true)) (.t 26))<|Zo (.pick 28 (.t 21) (.t 27) (.c (.bool false)))<|Zm 29 28<|Zg 29 true (.call (some 30) false (.c (.fn 7 [] [])) [])<|Zo (.pick 31 (.t 29) (.t 30) (.c (.bool false)))<|Zm 2 31 .nil) .ret) .skip)<|Zr (Zo (.mv 5 (.c .aa)) .nil)<| .seq (Zr (Zc 6 0 .nil)<| .block 0<| .loop<| .seq (Zr (Zm 32 6<|Zm 33 3<|Zn 34 33<|Zb 35 .lss 32 34 .nil)<| .cond (.t 35) .skip (.exit 0))<| .seq (.block 1<| .seq (Zr (Zm 38 3<|Zm 39 6<|Zi 40 2 38 39<|Zf 41 1 40<|Zl 42 1 41<|Zn 43 42<|Zm 44 0<|Zn 45 44<|Zb 46 .neq 43 45<|Zm 47 46<|Zg 47 false (.mv 48 (.t 3))<|Zg 47 false (.mv 49 (.t 6))<|Zg 47 false (.idx 50 2 (.t 48) (.t 49))<|Zg 47 false (.cC 51 1 (.t 50))<|Zg 47 false (.ld 52 1 false (.t 51))<|Zg 47 false (.mv 53 (.t 0))<|Zg 47 false (.mv 55 (.t 3))<|Zg 47 false (.mv 56 (.t 6))<|Zg 47 false (.idx 57 2 (.t 55) (.t 56))<|Zg 47 false (.cC 58 0 (.t 57))<|Zg 47 false (.ld 59 1 false (.t 58))<|Zg 47 false (.call (some 54) true (.c (.fn 12 [] [])) [.t 52,.t 53])<|Zg 47 false (.call (some 60) true (.c (.fn 11 [] [])) [.t 54,.t 59])<|Zg 47 false (.un 61 .not (.t 60))<|Zo (.pick 62 (.t 47) (.c (.bool true)) (.t 61)) .nil)<| .cond (.t 62) (Zr (Zo (.mv 2 (.c (.bool false))) .nil) .ret) .skip)<| .rg (Zm 63 5<|Zm 64 3<|Zm 65 6<|Zi 66 2 64 65<|Zf 67 0 66<|Zl 68 1 67<|Zo (.bs 69 1 32 [.t 68])<|Zo (.app 70 1 24 32 (.t 63) (.t 69))<|Zm 5 70 .nil))<| .rg (Zm 36 6<|Zk 37 .add 36 1<|Zm 6 37 .nil))<|Zr (Zm 71 5<|Zq 72 false 13 [.t 71]<|Zm 73 72<|Zg 73 true (.mv 74 (.t 5))<|Zg 73 true (.call (some 75) false (.c (.fn 14 [] [])) [.t 74])<|Zo (.pick 76 (.t 73) (.t 75) (.c (.bool false)))<|Zm 77 76<|Zg 77 true (.call (some 78) false (.c (.fn 7 [] [])) [])<|Zo (.pick 79 (.t 77) (.t 78) (.c (.bool false)))<|Zm 2 79 .nil) .ret⟩
theorem oS.pvb{m:Nat}{x:aC}(h:oS m x):w9 115300 2500 x.1:=by have h6:=Gf;have hb:=h.lv.pb.mono (K':=115300) (E':=2500) (by omega) (by omega);exact⟨hb,h.lv.n.NO hb (by omega),by have:=h.lv.len;omega⟩
theorem Zx{a:Rat}{n:Nat}(hB:1+rs a*n<=2^33)(hn:n<=2^40)(ha:rs a<=2^33):Qc Tryz.prog 47 [PV.rat a,.int .i64 n] (· =PV.rat (cZ a n)):=by
 have h1:=l4;have jI:((1:Int):Rat)=1:=rfl;refine Qf Qo Tryz.func47 rfl ajt (by simp[Lb]) fun C hP=>?_;simp only[Lb,Zo,Zg,Zm,Zc,Zf,Zl,Zh,Zs,Zi,Zb,Zk,Zn,Zu,Zq,Zr,Zz];refine Sz0 ?_;refine Qa hP (rN (x:=1) (by omega) (by omega)) rfl rfl rfl ?_;refine Sz0 ?_;refine Qw (by repeat (first|exact Qr|exact Qk|exact Ql|exact Qm|exact Qn|apply Qj|apply Qq|apply Qx|apply Q5|apply Q6|apply Qi)) [(1,1),(7,21)] [] (fun m J hp=>∃x o:Rat,m<=n/\rs o+rs x*m<=2^33/\o*cZ x m=cZ a n/\J 1= .int .i64 (m:Nat)/\hp 2=some ⟨3,43,[PV.rat x],false⟩/\hp 4=some ⟨3,43,[.agg [.bool false,.aa,.aa]],false⟩/\hp 5=some ⟨3,43,[PV.rat o],false⟩) n ?_ ?_
 ·refine⟨a,((1:Int):Rat),by omega,by rw[jI];omega,by rw[jI];grind,?_⟩;refine Sz0 ?_;rfl
 rintro m J h ⟨x,o,hm,fu,hq,hJ,gO,fa,dV⟩;refine Sz1 @hJ ?_;refine Qb (fun hg=>?_) (fun hg=>?_)
 ·have hx:rs x<=rs x*m:=KcA _ (by omega);have e2:(2:Int)=((2:Nat):Int):=rfl;have ru:∀d fr hp K,cg .rem false (.int .i64 (m:Int)) (.int .i64 2) d fr hp K=K (af fr d (.int .i64 ((m%2:Nat):Int))) hp:=fun d fr hp K=>by rw[e2,pJ (by omega)]
  have rn:∀d fr hp K,cg .quo false (.int .i64 (m:Int)) (.int .i64 2) d fr hp K=K (af fr d (.int .i64 ((m/2:Nat):Int))) hp:=fun d fr hp K=>by rw[e2,Ek (by omega) (by omega)]
  have sL:=xT x x;have hom:=xT o x;have gl:rs (x*x)*(m/2)<=rs x*(2*(m/2)):=by rw[<-Nat.mul_assoc];exact Kaf _ (by omega)
  refine Sz5 @hJ gO dV ru rn ?_;refine Qb (fun h2=>?_) (fun h2=>?_)
  ·have apa:m%2=1:=by omega
   have Nj:o*x*cZ (x*x) (m/2)=cZ a n:=by rw[<-hq,<-Yr apa];grind
   have Nk:m=1->o*x*cZ x (1/2)=cZ a n:=fun h=>by rw[<-hq,h];show o*x*1=o*cZ x 1;rw[aer];grind
   have ko:rs x*m=rs x*(2*(m/2))+rs x:=by rw[show m=2*(m/2)+1 by omega,Ka1,KbF];congr 2;omega
   refine Sz5 @hJ gO dV ru rn ?_;refine Qa hP (AM (a:=o) (b:=x) (k:=2^33) (by omega) (by omega) (by omega)) rfl rfl rfl ?_;refine Sz5 @hJ gO dV ru rn ?_;refine Qb (fun h3=>?_) (fun h3=>?_)
   ·refine Sz5 @hJ gO dV ru rn ?_;refine Qa hP (AM (a:=x) (b:=x) (k:=2^33) (by omega) (by omega) (by omega)) rfl rfl rfl ?_;refine Sz5 @hJ gO dV ru rn ?_;refine Qg (m/2) (by omega) ⟨x*x,o*x,by omega,by omega,Nj,?_⟩;exact Tz3 gO fa dV
   ·obtain rfl:m=1:=by omega
    refine Sz5 @hJ gO dV ru rn ?_;refine Qg (1/2) (by omega) ⟨x,o*x,by omega,by omega,(Nk rfl),?_⟩;exact Tz3 gO fa dV
  ·have aok:m%2=0:=by omega
   have Nj:o*cZ (x*x) (m/2)=cZ a n:=by rw[<-hq,<-Qyu aok]
   have Nk:m=1->o*cZ x (1/2)=cZ a n:=fun h=>by omega
   have ko:rs x*m=rs x*(2*(m/2)):=by congr 1;omega
   refine Sz5 @hJ gO dV ru rn ?_;refine Qb (fun h3=>?_) (fun h3=>?_)
   ·refine Sz5 @hJ gO dV ru rn ?_;refine Qa hP (AM (a:=x) (b:=x) (k:=2^33) (by omega) (by omega) (by omega)) rfl rfl rfl ?_;refine Sz5 @hJ gO dV ru rn ?_;refine Qg (m/2) (by omega) ⟨x*x,o,by omega,by omega,Nj,?_⟩;exact Tz3 gO fa dV
   ·obtain rfl:m=1:=by omega
    refine Sz5 @hJ gO dV ru rn ?_;refine Qg (1/2) (by omega) ⟨x,o,by omega,by omega,(Nk rfl),?_⟩;exact Tz3 gO fa dV
 ·obtain rfl:m=0:=by omega
  have jN:o=cZ a n:=by rw[<-hq,HZ];grind
  refine Sz3 gO fa dV ?_;refine dC ?_;refine Sz0 ?_;exact Qd (by rw[jN]) rfl
theorem ZZ{p:List Tm}{vs:List Rat}{K E W:Nat}(hp:PB K E p)(hv:∀v∈vs,rs v<=W)(hW:1<=W)(hB:1+p.length*(K+64*(1+W*E))+(K+64*(1+W*E))<=2^33)(hE:E<=2^38)(bV:p.length<=2^36)(hlv:vs.length<=2^36):
  Qc Tryz.prog 16 [PV.aj p,PV.NQ vs] (· =EK vs p):=by
 have h0:((0:Int):Rat)=0:=rfl;refine Qf Qo Tryz.func16 rfl aju (by simp[Kh]) fun C hP=>?_;simp only[Kh,Zo,Zg,Zm,Zc,Zf,Zl,Zh,Zs,Zi,Zb,Zk,Zn,Zu,Zq,Zr,Zz];refine Sz0 ?_;refine Qw (by repeat (first|exact Qr|exact Qk|exact Ql|exact Qm|exact Qn|apply Qj|apply Qq|apply Qx|apply Q5|apply Q6|apply Qi)) [(5,5),(7,7),(16,27)] [7] (fun n J hp=>∃i,n=p.length-i/\i<=p.length/\(∀t∈p.take i,¬vs.length<t.2.length)/\J 16= .int .i64 (i:Nat)/\hp 4=some ⟨3,43,[.agg [.bool false,.aa,.aa]],false⟩) p.length ?_ ?_
 ·refine⟨0,rfl,by omega,by simp,?_⟩;refine Sz0 ?_;rfl
 rintro _ J h ⟨i,rfl,hi,h1,EO,fa⟩;refine Sz1 EO ?_;refine Qb (fun hg=>?_) (fun hg=>?_)
 ·have aB:i<p.length:=by omega
  have aV:=hp.get aB;have eo:=Kag aB;have bj:p.take (i+1)=p.take i++[p[i]]:=Kah aB;generalize hx:p[i]=x at *
  have mh:=aV.m.len;have FL:=DP aV.l;refine Sz2 EO hx ?_;refine Qa hP (Tq (a:=x.2) (by omega)) rfl rfl rfl ?_;rw[FL];refine Sz2 EO hx ?_;refine Qb (fun hc=>?_) (fun hc=>?_)
  ·have ho:vS vs p=true:=by unfold vS;rw[Ka2];exact⟨x,eo,decide_eq_true (by omega)⟩
   refine Sz1 fa ?_;refine iS ?_;refine Sz0 ?_;exact eV (p':=PV.rr false [] []) (q':=.int .i64 2) (by rw[EK,if_pos ho]) rfl rfl ⟨rfl,trivial,trivial,trivial⟩ (Qy _)
  ·refine Sz1 EO ?_;refine Qg (p.length-(i+1)) (by omega) ⟨i+1,rfl,by omega,?_,?_⟩
   ·rw[bj];intro z hz;rcases KaT.1 hz with hz|hz
    ·exact h1 z hz
    ·simp only[KaL]at hz;subst hz;omega
   ·exact Tz1 fa
 ·obtain rfl:i=p.length:=by omega
  rw[Kar]at h1;have ho:vS vs p=false:=by unfold vS;rw[Kbs];intro t ht;simpa using h1 t ht
  refine Sz1 fa ?_;refine Qa hP (rN (x:=0) (by omega) (by omega)) rfl rfl rfl ?_;refine Sz1 fa ?_;refine Qw (by repeat (first|exact Qr|exact Qk|exact Ql|exact Qm|exact Qn|apply Qj|apply Qq|apply Qx|apply Q5|apply Q6|apply Qi)) [(10,13),(31,59)] [10,11] (fun n J hp=>∃i,n=p.length-i/\i<=p.length/\J 31= .int .i64 (i:Nat)/\hp 4=some ⟨3,43,[.agg [.bool false,.aa,.aa]],false⟩/\hp 8=some ⟨3,43,[PV.rat (dG vs (p.take i))],false⟩) p.length ?_ ?_
  ·refine⟨0,rfl,by omega,?_⟩;refine Sz1 fa ?_;exact⟨rfl,rfl⟩
  rintro _ J1 jI ⟨i,rfl,hi1,nj,WC,M3⟩;refine Sz1 nj ?_;refine Qb (fun o0=>?_) (fun o0=>?_)
  ·have aB:i<p.length:=by omega
   have aV:=hp.get aB;have dX:=h1 _ (Kag aB);have bj:=TX (vs:=vs) aB;have hrp:=Ii hp hv hW i (by omega);generalize hx:p[i]=x at *
   have mh:=aV.m.len;have hxc:=aV.c;have arq:i*(K+64*(1+W*E))<=p.length*(K+64*(1+W*E)):=Kaf _ hi1;have WS:=fun j=>I2 (vs:=vs) aV.m hv hW x.1 j;have Wx:∀j,j<=x.2.length->j*(1+W*E)<=64*(1+W*E):=fun j hj=>Kaf _ (by omega);refine Sz2 nj hx ?_;refine Qw (by repeat (first|exact Qr|exact Qk|exact Ql|exact Qm|exact Qn|apply Qj|apply Qq|apply Qx|apply Q5|apply Q6|apply Qi)) [(12,13),(40,55)] [] (fun n J hp=>∃j,n=x.2.length-j/\j<=x.2.length/\J 40= .int .i64 (j:Nat)/\hp 4=some ⟨3,43,[.agg [.bool false,.aa,.aa]],false⟩/\hp 8=some ⟨3,43,[PV.rat (dG vs (p.take i))],false⟩/\hp 11=some ⟨3,43,[PV.rat (x.1*ic vs x.2 j)],false⟩) x.2.length ?_ ?_
   ·refine⟨0,rfl,by omega,?_⟩;have e0:x.1*ic vs x.2 0=x.1:=by show x.1*1=x.1;grind
    rw[e0];refine Sz2 WC M3 ?_;rfl
   rintro _ J2 h2 ⟨j,rfl,hj,ug,BA,FA,wu⟩;refine Sz1 ug ?_;refine Qb (fun fF=>?_) (fun fF=>?_)
   ·have fG:j<x.2.length:=by omega
    have wj:=fj fG;have hjb:=aV.m.eN j;have FD:ic vs x.2 (j+1)=ic vs x.2 j*cZ (vs.getD j 0) (eN x.2 j).toNat:=rfl;generalize hy:x.2[j]=y at *
    obtain⟨m,rfl⟩:∃m:Nat,y=m:=⟨y.toNat,by omega⟩
    rw[wj,KbD]at FD;rw[wj]at hjb;refine Sz2 ug hy ?_;refine Qb (fun hz=>?_) (fun hz=>?_)
    ·have WA:j<vs.length:=by omega
     have hvg:vs.getD j 0=vs[j]:=by simp[Kal,WA]
     have hvw:=hv _ (Kag WA);rw[hvg]at FD;generalize Nu:vs[j]=v at *
     have hwe:rs v*m<=W*E:=KaK hvw (by omega);have BS:rs v<=rs v*m:=KcA _ (by omega);have hqp:=I0 v m;have ox:=WS j;have ko:=Wx j hj;refine Sz4 ug hy wu Nu ?_;refine Qa hP (Zx (a:=v) (n:=m) (by omega) (by omega) (by omega)) rfl rfl rfl ?_;refine Sz4 ug hy wu Nu ?_;refine Qa hP (AM (a:=x.1*ic vs x.2 j) (b:=cZ v m) (k:=2^33) (by omega) (by omega) (by omega)) rfl rfl rfl ?_;refine Sz4 ug hy wu Nu ?_;refine Qg (x.2.length-(j+1)) (by omega) ⟨j+1,rfl,by omega,?_⟩;have e1:x.1*ic vs x.2 (j+1)=x.1*ic vs x.2 j*cZ v m:=by rw[FD];grind
     rw[e1];exact Tz2 BA FA
    ·obtain rfl:m=0:=by omega
     refine Sz2 ug hy ?_;refine Qg (x.2.length-(j+1)) (by omega) ⟨j+1,rfl,by omega,?_⟩;have e1:x.1*ic vs x.2 (j+1)=x.1*ic vs x.2 j:=by rw[FD,HZ];grind
     rw[e1];exact Tz3 BA FA wu
   ·obtain rfl:j=x.2.length:=by omega
    have ox:=WS x.2.length;have ko:=Wx x.2.length (Kac _);have W3:=xS (dG vs (p.take i)) (x.1*iz vs x.2);rw[show ic vs x.2 x.2.length=iz vs x.2 from rfl]at wu ox;refine Sz4 nj ug FA wu ?_;refine Qa hP (Se (a:=dG vs (p.take i)) (b:=x.1*iz vs x.2) (k:=2^33) (by omega) (by omega) (by omega)) rfl rfl rfl ?_;refine Sz4 nj ug FA wu ?_;simp (disch:=decide) only[jR,mM];refine Qg (p.length-(i+1)) (by omega) ⟨i+1,rfl,by omega,?_⟩;rw[bj];exact Tz1 BA
  ·obtain rfl:i=p.length:=by omega
   rw[Kar]at M3;refine Sz2 WC M3 ?_;refine iS ?_;refine Sz0 ?_;exact eV (by rw[EK,if_neg (by simp[ho])]) rfl rfl (Qy _) (Qy _)
def c5:aA:=⟨114,[.t 4],Zr (Zo (.mv 4 (.c (.bool false))) .nil)<| .seq (Zr (Zm 14 0<|Zq 15 false 6 [.t 14,.c (Zz 3),.c (Zz 2)]<|Zu 16 15<|Zm 17 16<|Zg 17 false (.mv 18 (.t 1))<|Zg 17 false (.len 19 (.t 18))<|Zg 17 false (.bin 20 .lss false (.t 19) (.c (Zz 4)))<|Zo (.pick 21 (.t 17) (.c (.bool true)) (.t 20))<|Zm 22 21<|Zg 22 false (.mv 23 (.t 1))<|Zg 22 false (.len 24 (.t 23))<|Zg 22 false (.bin 25 .gtr false (.t 24) (.c (Zz 6)))<|Zo (.pick 26 (.t 22) (.c (.bool true)) (.t 25)) .nil)<| .cond (.t 26) (Zr (Zq 27 false 7 []<|Zm 4 27 .nil) .ret) .skip)<| .seq (Zr (Zc 5 0 .nil)<| .block 0<| .loop<| .seq (Zr (Zm 28 5<|Zm 29 1<|Zn 30 29<|Zb 31 .lss 28 30 .nil)<| .cond (.t 31) .skip (.exit 0))<| .seq (.block 1<|Zr (Zm 34 1<|Zm 35 5<|Zi 36 3 34 35<|Zf 37 0 36<|Zf 38 1 37<|Zl 39 1 38<|Zn 40 39<|Zk 41 .gtr 40 2<|Zm 42 41<|Zg 42 false (.mv 43 (.t 1))<|Zg 42 false (.mv 44 (.t 5))<|Zg 42 false (.idx 45 3 (.t 43) (.t 44))<|Zg 42 false (.cC 46 2 (.t 45))<|Zg 42 false (.ld 47 1 false (.t 46))<|Zg 42 false (.len 48 (.t 47))<|Zg 42 false (.bin 49 .gtr false (.t 48) (.c (Zz 2)))<|Zo (.pick 50 (.t 42) (.c (.bool true)) (.t 49))<|Zm 51 50<|Zg 51 false (.mv 52 (.t 1))<|Zg 51 false (.mv 53 (.t 5))<|Zg 51 false (.idx 54 3 (.t 52) (.t 53))<|Zg 51 false (.ld 55 3 true (.t 54))<|Zg 51 false (.call (some 56) false (.c (.fn 15 [] [])) [.t 55])<|Zg 51 false (.un 57 .not (.t 56))<|Zo (.pick 58 (.t 51) (.c (.bool true)) (.t 57)) .nil)<| .cond (.t 58) (Zr (Zq 59 false 7 []<|Zm 4 59 .nil) .ret) .skip)<| .rg (Zm 32 5<|Zk 33 .add 32 1<|Zm 5 33 .nil))<| .seq (Zr (Zc 6 0 .nil)<| .block 2<| .loop<| .seq (Zr (Zm 60 6<|Zm 61 0<|Zn 62 61<|Zb 63 .lss 60 62 .nil)<| .cond (.t 63) .skip (.exit 2))<| .seq (.block 3<|Zr (Zm 67 0<|Zm 68 6<|Zi 69 1 67 68<|Zl 70 1 69<|Zm 71 1<|Zq 72 false 16 [.t 70,.t 71]<|Zm 66 72<|Zo (.ext 73 (.t 66) 0)<|Zo (.ext 74 (.t 66) 1)<|Zo (.alloc 7 3 43 (.agg [.bool false,.aa,.aa]))<|Zs 3 7 73<|Zm 8 74 .nil)<|Zr (Zm 75 8<|Zk 76 .neq 75 0<|Zm 77 76<|Zg 77 false (.ld 78 3 true (.t 7))<|Zg 77 false (.call (some 79) false (.c (.fn 17 [] [])) [.t 78])<|Zg 77 false (.bin 80 .neq false (.t 79) (.c (Zz 0)))<|Zo (.pick 81 (.t 77) (.c (.bool true)) (.t 80)) .nil)<| .cond (.t 81) (Zr (Zq 82 false 7 []<|Zm 4 82 .nil) .ret) .skip)<| .rg (Zm 64 6<|Zk 65 .add 64 1<|Zm 6 65 .nil))<|Zr (Zm 84 0<|Zq 85 false 8 [.t 84]<|Zm 83 85<|Zo (.ext 86 (.t 83) 0)<|Zo (.ext 87 (.t 83) 1)<|Zm 9 86<|Zm 10 87 .nil)<| .seq (Zr (Zm 88 10<|Zk 89 .eql 88 13 .nil)<| .cond (.t 89) (Zr (Zo (.mv 4 (.c (.bool false))) .nil) .ret) .skip)<| .seq (Zr (Zc 11 0 .nil)<| .block 4<| .loop<| .seq (Zr (Zm 90 11<|Zm 91 9<|Zn 92 91<|Zb 93 .lss 90 92 .nil)<| .cond (.t 93) .skip (.exit 4))<| .seq (.block 5<|Zr (Zm 97 9<|Zm 98 11<|Zi 99 2 97 98<|Zf 100 0 99<|Zl 101 1 100<|Zm 102 1<|Zq 103 false 16 [.t 101,.t 102]<|Zm 96 103<|Zo (.ext 104 (.t 96) 0)<|Zo (.ext 105 (.t 96) 1)<|Zo (.alloc 12 3 43 (.agg [.bool false,.aa,.aa]))<|Zs 3 12 104<|Zm 13 105 .nil)<|Zr (Zm 106 13<|Zk 107 .neq 106 0<|Zm 108 107<|Zg 108 false (.ld 109 3 true (.t 12))<|Zg 108 false (.call (some 110) false (.c (.fn 17 [] [])) [.t 109])<|Zg 108 false (.bin 111 .neq false (.t 110) (.c (Zz 0)))<|Zo (.pick 112 (.t 108) (.c (.bool true)) (.t 111)) .nil)<| .cond (.t 112) (Zr (Zo (.mv 4 (.c (.bool false))) .nil) .ret) .skip)<| .rg (Zm 94 11<|Zk 95 .add 94 1<|Zm 11 95 .nil))<|Zr (Zq 113 false 7 []<|Zm 4 113 .nil) .ret⟩
theorem alu:Qe Tryz.prog Tryz.f5=some c5:=by kernel_rfl
def wT(x:RQ):Bool:=decide (x.a.length<=2)&&(decide (x.d.length<=2)&&mS x.n x.a x.d)
def wZ(x:RQ):Rat:=rv x.n x.a x.d
theorem RW{x:RQ}{k:Nat}(hr:Raw k x.n x.a x.d)(h:wT x=true):PV.rq x=PV.rat (wZ x)/\rs (wZ x)<=2:=by simp only[wT,Kat,decide_eq_true_eq]at h;obtain⟨h1,h2,h3⟩:=h;exact⟨akN hr.la hr.ld h3,(show Raw 2 x.n x.a x.d from⟨hr.la,hr.ld,h1,h2,by omega⟩).rs⟩
theorem aeT{p:List Tm}{vs:List Rat}(hp:PB 115300 2500 p)(hl:p.length<=4000)(hm:ML 3 p)(hv:∀v∈vs,rs v<=2)(h4:4<=vs.length)(h6:vs.length<=6):Qc Tryz.prog 16 [PV.aj p,PV.NQ vs] (· = .au [PV.rat (dG vs p),.int .i64 0])/\rs (dG vs p)<=2^34:=by
 have hB:1+p.length*(115300+64*(1+2*2500))+(115300+64*(1+2*2500))<=2^33:=by have:=Kaf (115300+64*(1+2*2500)) hl;refine Kaw (Nat.add_le_add_right (Nat.add_le_add_left this _) _) (by decide+kernel)
 have h:=ZZ (K:=115300) (E:=2500) (W:=2) hp hv (by omega) hB (by omega) (by omega) (by omega);have ho:vS vs p=false:=by unfold vS;rw[Kbs];intro t ht;have:=hm t ht;simp;omega
 unfold EK at h;rw[ho]at h;simp only[KaJ,if_false]at h;refine⟨h,?_⟩;have h2:=Ii hp hv (by omega:1<=2) p.length (Kac _);rw[Kar]at h2;exact Kaw h2 (Kaw (Nat.le_add_right _ _) (Kaw hB (by decide+kernel)))
theorem Qrx{ls:List (List aU)}{xs:List RQ}(hl:ls.length<=1048576)(hp:∀l∈ls,l.length<=1048576/\∀t∈l,RB 1048576 t)(hx:GA xs):Qc Tryz.prog 5 [.sl 1 (ls.map PV.kD),PV.zc xs] (· = .bool true):=by
 have um:=aiq;have Fs:=alW (ls:=ls) (most:=3) (deg:=2) hl hp (by omega);have dX:=hx.1;refine Qf Qo Tryz.func5 rfl alu (by simp[c5]) fun C hP=>?_;simp only[c5,Zo,Zg,Zm,Zc,Zf,Zl,Zh,Zs,Zi,Zb,Zk,Zn,Zu,Zq,Zr,Zz];refine Sz0 ?_;cases h2:tU ls 3 2
 ·rw[h2]at Fs;refine Qa hP Fs rfl rfl rfl ?_;refine Sz0 ?_;refine Qa hP um rfl rfl rfl ?_;refine Sz0 ?_;exact Qd rfl rfl
 rw[h2]at Fs;refine Qa hP Fs rfl rfl rfl ?_;by_cases c4:4<=xs.length
 rotate_left
 ·have d4:decide ((xs.length:Int)<4)=true:=decide_eq_true (by omega);refine Sz1 d4 ?_;refine Qa hP um rfl rfl rfl ?_;refine Sz0 ?_;exact Qd rfl rfl
 have d4:decide ((xs.length:Int)<4)=false:=decide_eq_false (by omega);by_cases c6:xs.length<=6
 rotate_left
 ·have d6:decide (6<(xs.length:Int))=true:=decide_eq_true (by omega);refine Sz2 d4 d6 ?_;refine Qa hP um rfl rfl rfl ?_;refine Sz0 ?_;exact Qd rfl rfl
 have d6:decide (6<(xs.length:Int))=false:=decide_eq_false (by omega);refine Sz2 d4 d6 ?_;refine Qw (by repeat (first|exact Qr|exact Qk|exact Ql|exact Qm|exact Qn|apply Qj|apply Qq|apply Qx|apply Q5|apply Q6|apply Qi|apply Q2)) [(4,5),(28,59)] [] (fun m J hp=>∃i,m=xs.length-i/\i<=xs.length/\(∀j (h:j<xs.length),j<i->wT xs[j]=true)/\J 5= .int .i64 (i:Nat)) xs.length ?_ ?_
 ·refine⟨0,rfl,by omega,by omega,?_⟩;refine Sz0 ?_
  try (first|rfl|exact⟨rfl,rfl⟩)
 rintro _ J hh ⟨i,rfl,hi,bz,j5⟩;by_cases c1:i<xs.length
 ·have d1:decide ((i:Int)<(xs.length:Int))=true:=decide_eq_true (by omega);have hr:=hx.2 _ (Kag c1);have hRt:=Tb hr (by omega);have fE:wT xs[i]=true->∀j (h:j<xs.length),j<i+1->wT xs[j]=true:=fun h j hj dW=>by
   by_cases e:j=i
   ·subst e;exact h
   ·exact bz j hj (by omega)
  unfold wT at fE;generalize eA:xs[i]=x at *
  by_cases e1:x.a.length<=2
  rotate_left
  ·have q1:decide (2<(x.a.length:Int))=true:=decide_eq_true (by omega);refine Sz4 j5 d1 eA q1 ?_;refine Qa hP um rfl rfl rfl ?_;refine Sz0 ?_;exact Qd rfl rfl
  have q1:decide (2<(x.a.length:Int))=false:=decide_eq_false (by omega);by_cases e2:x.d.length<=2
  rotate_left
  ·have q2:decide (2<(x.d.length:Int))=true:=decide_eq_true (by omega);refine Sz5 j5 d1 eA q1 q2 ?_;refine Qa hP um rfl rfl rfl ?_;refine Sz0 ?_;exact Qd rfl rfl
  have q2:decide (2<(x.d.length:Int))=false:=decide_eq_false (by omega);rw[decide_eq_true e1,decide_eq_true e2]at fE;refine Sz5 j5 d1 eA q1 q2 ?_;refine Qa hP hRt rfl rfl rfl ?_;cases e3:mS x.n x.a x.d
  ·refine Sz1 j5 ?_;refine Qa hP um rfl rfl rfl ?_;refine Sz0 ?_;exact Qd rfl rfl
  ·refine Sz1 j5 ?_;refine Qg (xs.length-(i+1)) (by omega) ⟨i+1,rfl,by omega,fE (by rw[e3];rfl),?_⟩;refine Sz0 ?_
   try trivial
 obtain rfl:i=xs.length:=by omega
 have d1:decide ((xs.length:Int)<(xs.length:Int))=false:=decide_eq_false (by omega);have cx:∀x∈xs,wT x=true:=fun x hx=>by obtain⟨j,hj,rfl⟩:=Ka8 hx;exact bz j hj hj
 clear bz;obtain⟨k1,k2,k3⟩:=ail (fun l h=>(hp l h).2) h2;have pY:(w7 ls).length<=3:=by simpa using k1
 have gu:PV.zc xs=PV.NQ (xs.map wZ):=by show PV.sl 3 _=PV.sl 3 _;rw[KcY];congr 1;exact Ka9 fun x h=>(RW (hx.2 x h) (cx x h)).1
 have Xm:∀v∈xs.map wZ,rs v<=2:=fun v hv=>by obtain⟨x,h,rfl⟩:=KaE.1 hv;exact(RW (hx.2 x h) (cx x h)).2
 have VH:∀ {p:List Tm},PB 115300 2500 p->p.length<=4000->ML 3 p->Qc Tryz.prog 16 [PV.aj p,PV.zc xs] (· = .au [PV.rat (dG (xs.map wZ) p),.int .i64 0])/\rs (dG (xs.map wZ) p)<=2^34:=fun hb hl hm=>by rw[gu];exact aeT hb hl hm Xm (by simpa using c4) (by simpa using c6)
 generalize xs.map wZ=vs at *
 have Wr:∀i (h:i<ls.length),PV.kD ls[i]=PV.aj (ls[i].map aU.tm)/\lK 2 (ls[i].map aU.tm):=fun i hi=>by have h3:=h2;simp only[tU,Kat,decide_eq_true_eq,Kav]at h3;exact Ja (fun t ht=>(hp _ (Kag hi)).2 t ht) (by have:=h3.2 _ (Kag hi);simpa[Kav]using this)
 refine Sz2 j5 d1 ?_;refine Qw (by repeat (first|exact Qr|exact Qk|exact Ql|exact Qm|exact Qn|apply Qj|apply Qq|apply Qx|apply Q5|apply Q6|apply Qi|apply Q2)) [(4,4),(6,8),(60,82)] [7] (fun m J hp=>∃i,m=ls.length-i/\i<=ls.length/\(∀j (h:j<ls.length),j<i->dG vs (ls[j].map aU.tm)=0)/\J 6= .int .i64 (i:Nat)) ls.length ?_ ?_
 ·refine⟨0,rfl,by omega,by omega,?_⟩;refine Sz0 ?_
  try (first|rfl|exact⟨rfl,rfl⟩)
 rintro _ J2 gO ⟨i,rfl,hi,bz,j6⟩;by_cases c1:i<ls.length
 ·have d1:decide ((i:Int)<(ls.length:Int))=true:=decide_eq_true (by omega);obtain⟨f1,f2⟩:=Wr i c1;obtain⟨v1,v2⟩:=VH (f2.b.mono (by omega) (by omega)) (by have:=f2.l;omega) f2.m;have Ff:=vF (a:=dG vs (ls[i].map aU.tm)) (by omega);rw[<-f1]at v1;have fE:dG vs (ls[i].map aU.tm)=0->∀j (h:j<ls.length),j<i+1->dG vs (ls[j].map aU.tm)=0:=fun h j hj dW=>by
   by_cases e:j=i
   ·subst e;exact h
   ·exact bz j hj (by omega)
  have hz:fk (dG vs (ls[i].map aU.tm))=0->dG vs (ls[i].map aU.tm)=0:=gG.1;generalize dG vs (ls[i].map aU.tm)=y at *
  generalize eA:ls[i]=x at *
  refine Sz3 j6 d1 eA ?_;refine Qa hP v1 rfl rfl rfl ?_;refine Sz2 j6 eA ?_;refine Qa hP Ff rfl rfl rfl ?_;by_cases e1:fk y=0
  ·have q1:decide (¬fk y=0)=false:=decide_eq_false (by simp[e1]);refine Sz2 j6 q1 ?_;refine Qg (ls.length-(i+1)) (by omega) ⟨i+1,rfl,by omega,fE (hz e1),?_⟩;refine Sz0 ?_
   try trivial
  ·have q1:decide (¬fk y=0)=true:=decide_eq_true e1;refine Sz2 j6 q1 ?_;refine Qa hP um rfl rfl rfl ?_;refine Sz0 ?_;exact Qd rfl rfl
 obtain rfl:i=ls.length:=by omega
 have d2:decide ((ls.length:Int)<(ls.length:Int))=false:=decide_eq_false (by omega);have hzero:∀p∈w7 ls,(∃K E,PB K E p)/\dG vs p=0:=fun p an=>⟨⟨_,_,(k3 p an).b⟩,by obtain⟨l,wy,rfl⟩:=KaE.1 an;obtain⟨j,hj,rfl⟩:=Ka8 wy;exact bz j hj hj⟩
 have o5:∀p∈w7 ls,az p:=fun p hp=>(k3 p hp).v.nF;obtain⟨o,hM⟩:=ak4 pY k3;obtain⟨m1,-⟩:=ade pY k3 hM;obtain⟨b1,b2⟩:=hM.cb o5;rw[<-k2]at m1;have hL:∃L e,vT o= .au [PV.ct L,.int .i64 e]/\e≠13/\L.length<=64/\∀x∈L,oS (w7 ls).length x/\CB (w7 ls) x:=by
  cases o with
  |error e=>
   refine⟨[],e,rfl,fun h=>?_,by simp,fun x hx=>by cases hx⟩;subst h;rcases b2 13 rfl with h|⟨_,x,h1,h2,h3⟩
   ·omega
   ·exact h1.const h2 h3 vs (h1.zero hzero)
  |ok l=>
   refine⟨su l,0,rfl,by omega,aeS l,fun x hx=>⟨?_,b1 l rfl x (PJ hx)⟩⟩;cases hM with
   |go _ _ h=>exact(h l rfl).2 x (PJ hx)
 obtain⟨L,e,lA,he,VN,ki⟩:=hL;rw[lA]at m1;have d13:decide (e=13)=false:=decide_eq_false he;clear hM b1 b2 lA Wr bz;refine Sz2 j6 d2 ?_;refine Qa hP m1 rfl rfl rfl ?_;refine Sz1 d13 ?_;refine Qw (by repeat (first|exact Qr|exact Qk|exact Ql|exact Qm|exact Qn|apply Qj|apply Qq|apply Qx|apply Q5|apply Q6|apply Qi|apply Q2)) [(4,4),(11,13),(90,112)] [12] (fun m J hp=>∃i,m=L.length-i/\i<=L.length/\J 11= .int .i64 (i:Nat)) L.length ?_ ?_
 ·refine⟨0,rfl,by omega,?_⟩;refine Sz0 ?_
  try (first|rfl|exact⟨rfl,rfl⟩)
 rintro _ J3 bB ⟨i,rfl,hi,FX⟩;by_cases c1:i<L.length
 ·have d1:decide ((i:Int)<(L.length:Int))=true:=decide_eq_true (by omega);obtain⟨f1,f2⟩:=ki _ (Kag c1);have hb:=f1.pvb;obtain⟨v1,v2⟩:=VH hb.b f1.lv.len f1.lv.v;have hz:=f2.zero hzero;rw[hz]at v1 v2;have Ff:=vF (a:=(0:Rat)) (by omega);have e1:fk 0=0:=gG.2 rfl;rw[e1]at Ff;generalize eA:L[i]=x at *
  generalize(0:Rat)=y at *
  refine Sz3 FX d1 eA ?_;refine Qa hP v1 rfl rfl rfl ?_;refine Sz2 FX eA ?_;refine Qa hP Ff rfl rfl rfl ?_;refine Sz1 FX ?_;refine Qg (L.length-(i+1)) (by omega) ⟨i+1,rfl,by omega,?_⟩;refine Sz0 ?_
  try trivial
 ·obtain rfl:i=L.length:=by omega
  have d1:decide ((L.length:Int)<(L.length:Int))=false:=decide_eq_false (by omega);refine Sz2 FX d1 ?_;refine Qa hP um rfl rfl rfl ?_;refine Sz0 ?_;exact Qd rfl rfl
open Go Go.FW Go.ChangeShapes Go.WideShapes Go.ChangeAt Go.RowKit
theorem Qnx(H:Type)(enc:TypeId×Value->H)(W:World)(base:Nat)(args:Array Value)(ds gs:List (DataW H))(before:List MemPlace)
  (gh:∀(j:Nat) t v,Tryz.f5.params[j]? =some t->args[j]? =some v->Value.okWide Tryz.prog W .any base t v)
  (hW:DataW.Whole enc Tryz.prog Tryz.f5.params.toList Rows.triangularZerosSpec.vars false W args.toList ds gs before) (hk:Rows.uptoSmall H (ds++gs)=true):
  Calls Tryz.prog 5 args W fun e W'=>∃v,e= .returned v/\Rows.triangularZerosSpec.post enc Tryz.prog Tryz.f5 false true false false W args v W':=by
 have Bg:=hW;obtain⟨p,q,hA0,hV,rfl,ma,Nd⟩:=hW;have hA:DataW.TrodAll enc Tryz.prog W 0 (fun _=>true) true Tryz.f5.params.toList args.toList ds p:=hA0;rw[Tryz.params5]at hA gh;obtain⟨v0,vs0,e0,ds0,p0,q0,dT,rfl,rfl,h0,r0⟩:=trodAll_cons hA;obtain⟨v1,vs1,e1,ds1,p1,q1,rfl,rfl,rfl,h1,r1⟩:=trodAll_cons r0;obtain⟨rfl,rfl,rfl⟩:=trodAll_nil r1;obtain rfl:args= #[v0,v1]:=by cases args;simp_all
 obtain⟨rfl,rfl⟩:=trodVars_none hV;have hb:=aex hk;simp only[Kak,Rows.uptoBulkAll]at hb;obtain⟨a0,g0,b0⟩:=acZ (gh 0 _ v0 rfl rfl) h0 (by omega);obtain⟨a1,g1,b1⟩:=aez (gh 1 _ v1 rfl rfl) h1 (by omega);exact ac0 Bg rfl (by kernel_rfl) (by kernel_rfl) rfl (Qrx b0.1 (fun l hl=>⟨(b0.2 l hl).1,fun t ht=>((b0.2 l hl).2 t ht).1⟩) b1) rfl
  (aeA (vs:=[v0,v1]) (by
   intro i x hx v hv
   match i,hx,hv with
   |0,hx,hv=>simp at hx hv;subst hx hv;exact g0
   |1,hx,hv=>simp at hx hv;subst hx hv;exact g1
   |i+2,hx,hv=>simp at hx) rfl)
theorem Qo4(os:Os)(started:os.Started)(H:Type)(enc:TypeId×Value->H)(F:Stop.Interp):
  ReturnsInHanded {} Tryz.checked os 5 .any ((Rows.OpenSpec.upto Rows.triangularZerosSpec).pre6 enc Tryz.prog Tryz.f5 Rows.triangularZerosUptoRow.domain false) (((Rows.OpenSpec.upto Rows.triangularZerosSpec).at F).post enc Tryz.prog Tryz.f5 false true false false):=by
 refine returnsInHanded_of_cond (C:=Tryz.checked) (s:=Rows.OpenSpec.upto Rows.triangularZerosSpec) (k:=Rows.uptoSmall) rfl own started (by kernel_rfl) Tryz.func5
  (OpenSpec.witness (enc:=enc) (C:=Tryz.checked) (s:=Rows.OpenSpec.upto Rows.triangularZerosSpec) (k:=Rows.uptoSmall) rfl false ⟨#[],#[.slice none 0 0,.slice none 0 0],[]⟩ 8 (by kernel_rfl) (by kernel_rfl) (by kernel_rfl)
   (x:=([.nil,.nil],[],[])) (by kernel_rfl) rfl (by kernel_rfl)) ?_
 intro W base args ds gs before gh hW _ hk _;exact Qnx H enc W base args ds gs before gh hW hk
theorem triangularZeros_proved:Rows.TriangularZerosUptoSaid:=
 OpenClaim.holds_of_cond 5 Tryz.f5 rfl rfl rfl rfl rfl rfl rfl ⟨rfl,rfl,rfl,rfl,rfl⟩ rfl rfl rfl rfl rfl (by kernel_rfl) Tryz.func5 (by kernel_rfl)
  (of_decide_eq_true (by kernel_rfl)) (by unfold Func.isWrapper;first|(rw[if_pos (by decide+kernel)];kernel_rfl)|(rw[if_neg (by decide+kernel)];exact⟨rfl,rfl⟩))
  (fun os started H enc _ F=>Qo4 os started H enc F)
end Go.Proofs.YtdjoomkeehihmaaGreat
