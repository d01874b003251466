/- TriangularMakes holds, for arguments of bulk at most 1048576. -/
import Derived.Test.YtdjoomkeehihmaaGreatTriangularMakesPart17
set_option maxHeartbeats 1000000
set_option linter.unusedSimpArgs false
set_option linter.unusedVariables false
set_option linter.unnecessarySimpa false
set_option maxRecDepth 100000
namespace Go.Proofs.YtdjoomkeehihmaaGreat
open Go Go.FW
def fa(p:List Tm):Rat:=if p=[]then((1:Int):Rat)else dI p
def di(p:List Tm)(cs:List (List Tm)):aB:=(ch p (fa p),cs.map (fun c=>ch c (fa p)))
def uf(x:aB):Bool:=bf x.1||x.2.any bf
def fu(x:aB):Int:=if uf x then 4 else if 0<x.1.length/\Qv x.1<0 then 13 else 0
def fH(f g:aB):aB×Int:=
 match qy f.1 g.1 with
 |none=>(([],[]),4)
 |some (q,r,n)=>(di r (cY (cF (cy g.1) n) q f.2 g.2),fu (di r (cY (cF (cy g.1) n) q f.2 g.2)))
def nL(j:Nat):Nat:=if j<2 then 2 else 4
def bL:Nat->Nat
 |0=>17
 |j+1=>bL j+nL j*(bL j+2)+(nL j+1)
def tL:Nat->Nat
 |0=>4
 |j+1=>if j<2 then 4 else tL j+nL j*tL j
def kL(j:Nat):Nat:=2*(1+nL j)+(bL j+nL j*(bL j+2))+3
def aL:Nat->Nat
 |0=>30
 |j+1=>2*(1+nL j+aL j)+kL j
def cL:Nat->Nat
 |0=>31
 |j+1=>bL j+nL j*(bL j+2)+cL j+2+kL j
def eL:Nat->Nat
 |0=>0
 |j+1=>tL j+nL j*tL j+eL j
theorem jb{j:Nat}(h:j<=5):bL j<=23028/\aL j<=40000/\cL j<=57700/\eL j<=700/\tL j<=500/\kL j<=115200/\nL j<=4/\2<=nL j/\17<=bL j/\nL j*tL j<=2000/\bL j+nL j*(bL j+2)<=115150:=by
 have:j=0∨j=1∨j=2∨j=3∨j=4∨j=5:=by omega
 rcases this with rfl|rfl|rfl|rfl|rfl|rfl<;>decide
theorem Na{j:Nat}(h:j<=1):nL j=2/\tL j=4:=by
 have:j=0∨j=1:=by omega
 rcases this with rfl|rfl<;>decide
theorem M':bL 6<=115200/\aL 6<=200000/\cL 6<=300000/\eL 6<=3200/\tL 6<=2500:=by decide
structure Lv(m j T:Nat)(x:aB):Prop where
 s:SZ 1 (bL j) T x.1
 t:TD T x.1
 n:aC x.1
 l:bf x.1=false
 v:ML 3 x.1
 c:∀y∈x.2,SZ (aL j) (cL j) (eL j) y/\aC y/\bf y=false
 k:x.2.length=m
theorem agf(j:Nat):bL j<=bL (j+1)/\aL j<=aL (j+1)/\cL j<=cL (j+1)/\eL j<=eL (j+1):=by simp only[bL,aL,cL,eL];omega
theorem Lv.up{m j T:Nat}{x:aB}(h:Lv m j T x):Lv m (j+1) T x:=by obtain⟨h1,h2,h3,h4⟩:=agf j;exact⟨h.s.mono (Kac _) h1 (Kac _),h.t,h.n,h.l,h.v,fun y hy=>⟨(h.c y hy).1.mono h2 h3 h4,(h.c y hy).2⟩,h.k⟩
theorem Lv.to{m j j' T:Nat}{x:aB}(h:Lv m j T x)(hj:j<=j'):Lv m j' T x:=by
 obtain⟨k,rfl⟩:∃k,j'=j+k:=⟨j'-j,by omega⟩
 clear hj;induction k with
 |zero=>exact h
 |succ k ih=>exact ih.up
theorem Lv.deg{m j T T':Nat}{x:aB}(h:Lv m j T x)(hT:T<=T'):Lv m j T' x:=⟨h.s.mono (Kac _) (Kac _) hT,h.t.mono (by omega),h.n,h.l,h.v,h.c,h.k⟩
theorem Lv.pb{m j T:Nat}{x:aB}(h:Lv m j T x):PB (bL j+5) T x.1:=h.s.PB.mono (by omega) (Kac _)
theorem Lv.len{m j T:Nat}{x:aB}(h:Lv m j T x):x.1.length<=4000:=qd h.l
theorem O'{g f:List Tm}{v d:Nat}:∀(fuel k:Nat) {q r:List Tm} {n:Nat},mP g v d fuel (aG g v d f k).1 (aG g v d f k).2 k=some (q,r,n)->k<=n/\∀j,k<=j->j<n->(aG g v d f j).2≠[]/\(d:Int)<=Q3 (aG g v d f j).2 v
 |0,k,q,r,n,h=>by simp only[mP,KaB,KcN]at h;obtain⟨_,_,rfl⟩:=h;exact⟨Kac _,fun j h1 h2=>by omega⟩
 | fuel+1,k,q,r,n,h=>by
  rw[mP]at h;split at h
  ·simp only[KaB,KcN]at h;obtain⟨_,_,rfl⟩:=h;exact⟨Kac _,fun j h1 h2=>by omega⟩
  ·rename_i hs;split at h
   ·cases h
   ·obtain⟨h1,h2⟩:=O' fuel (k+1) h;refine⟨by omega,fun j hj1 vN=>?_⟩;by_cases e:j=k
    ·subst e;simp only[not_or]at hs;exact⟨hs.1,by omega⟩
    ·exact h2 j (by omega) vN
structure fm(m j Tf Tg v:Nat)(f g:aB):Prop where
 hj:j<=5
 hf:Lv m j Tf f
 hg:Lv m j Tg g
 tf:Tf<=tL j
 tg:Tg<=tL j
 mf:Qv f.1=v
 mg:Qv g.1=v
 hv:v<=2
 lo:v=2->j<=1
 hd:Q3 f.1 v<=nL j
 le:Q3 g.1 v<=Q3 f.1 v
 hm:m<=3
theorem ru{p:List Tm}(h:0<=Qv p):p≠[]:=fun e=>by subst e;exact absurd h (by decide)
theorem CX{p:List Tm}{K E v:Nat}(hb:PB K E p)(h:Qv p=v):1<=Q3 p v:=by
 have h0:=ru (p:=p) (by omega);rcases(wO p).2.2 with e|⟨t,ht,e⟩
 ·omega
 ·have hl:t.2.length=v+1:=by omega
  have hc:=(hb t ht).l;have h1:=(rq p v).2.1 t ht;have ar:v<t.2.length:=by omega
  have h2:=(hb t ht).m.eN v;have:eN t.2 v≠0:=fun e0=>by rw[e9 ar]at e0;apply hc;rw[Ka3,hl,Nat.add_sub_cancel,Kam ar,e0]
  omega
section
variable {m j Tf Tg v : Nat} {f g : aB}
theorem fm.num(h:fm m j Tf Tg v f g):Tf<=500/\Tg<=500/\nL j<=4/\2<=nL j/\1<=Q3 g.1 v/\(((Q3 g.1 v).toNat:Nat):Int)=Q3 g.1 v/\(((Q3 f.1 v).toNat:Nat):Int)=Q3 f.1 v/\(Qv g.1).toNat=v/\Q3 g.1 v<=Tg:=by obtain⟨h1,h2,h3,h4,h5,h6,h7,h8,h9,bF,cn⟩:=jb h.hj;have hd:=CX h.hg.pb h.mg;have hf:=CX h.hf.pb h.mf;have hm:=h.mg;have:=(oq h.hg.pb (ru (by omega)) v).2;exact⟨by have:=h.tf;omega,by have:=h.tg;omega,h7,h8,hd,by omega,by omega,by omega,this⟩
theorem fm.st(h:fm m j Tf Tg v f g)(d k:Nat)(hk:k<=nL j):DV (1+nL j) (bL j+nL j*(bL j+2)) (Tf+nL j*Tg) (aG g.1 v d f.1 k).1 (aG g.1 v d f.1 k).2:=by have hs:=DV.steps (d:=d) h.hf.s h.hf.n h.hg.s h.hg.n (by have:=h.hv;omega:v<64) k;obtain⟨⟨D,N,h1,h2,h3,h4,h5⟩,⟨K1,x1⟩,K2,x2⟩:=hs;have e1:k*1<=nL j*1:=Kaf _ hk;have e2:k*(bL j+2)<=nL j*(bL j+2):=Kaf _ hk;have e3:k*Tg<=nL j*Tg:=Kaf _ hk;exact⟨⟨D,N,h1,h2,by omega,by omega,h5⟩,⟨K1,x1.mono (Kac _) (by omega)⟩,K2,x2.mono (Kac _) (by omega)⟩
theorem fm.Ww(h:fm m j Tf Tg v f g)(d k:Nat)(hk:k<=nL j):PB 115200 2500 (aG g.1 v d f.1 k).1/\PB 115200 2500 (aG g.1 v d f.1 k).2:=by obtain⟨n1,n2,n3,n4,_⟩:=h.num;obtain⟨h1,h2,h3,h4,h5,h6,h7,h8,h9,bF,cn⟩:=jb h.hj;have e3:nL j*Tg<=4*500:=KaM n3 n2;have hs:=h.st d k hk;exact⟨hs.q.PB.mono (by omega) (by omega),hs.r.PB.mono (by omega) (by omega)⟩
theorem fm.ak6(h:fm m j Tf Tg v f g)(d k:Nat):∃K E,PB K E (aG g.1 v d f.1 k).2:=by have hs:=DV.steps (d:=d) h.hf.s h.hf.n h.hg.s h.hg.n (by have:=h.hv;omega:v<64) k;obtain⟨K,hx⟩:=hs.xr;exact⟨K,_,hx⟩
structure om(m j Tf Tg v:Nat)(f g:aB)(q r:List Tm)(n:Nat):Prop where
 nn:(n:Int)<=Q3 f.1 v-Q3 g.1 v+1/\n<=nL j
 sq:SZ (1+nL j) (bL j+nL j*(bL j+2)) (Tf+nL j*Tg) q
 sr:SZ (1+nL j) (bL j+nL j*(bL j+2)) (Tf+nL j*Tg) r
 nq:aC q
 nr:aC r
 lq:q.length<=4000
 lr:r.length<=4000
 tr:TD ((Tf:Int)+n*((Tg:Int)-Q3 g.1 v)) r
 dr:r=[]∨Q3 r v<Q3 g.1 v
 mr:ML 3 r
 mv:ML (v+1) r
 ni:ML v (cy g.1)/\aC (cy g.1)/\SZ 1 (bL j) Tg (cy g.1)/\(cy g.1).length<=4000
theorem ML.aG{w v d:Nat}{f g:List Tm}(hf:ML w f)(hg:ML w g)(nf:aC f)(ng:aC g)(hv:v<w):∀k,ML w (FW.aG g v d f k).2:=by
 intro k;induction k with
 |zero=>exact hf
 | succ k ih=>
  obtain⟨n1,n2⟩:=sZ (v:=v) (d:=d) nf ng k;have hb:=sK (kJ n2 v (Q3 (FW.aG g v d f k).2 v).toNat) v ((Q3 (FW.aG g v d f k).2 v).toNat-d);show ML w (eD _ _ _ _ _);refine fun t ht=>?_;rcases Hl (kd (show eR (de (FW.aG g v d f k).2 v (Q3 (FW.aG g v d f k).2 v).toNat d)from hb.s) ng.s).c ht with⟨s,hs,e⟩|⟨s,hs,e⟩
  ·rw[<-e];exact((hg.mO v d).l8 ih) s hs
  ·rw[<-e];obtain⟨a,ha,b,aw,e2⟩:=wV hs;rw[e2];have h1:=hg b aw;have h2:=NY a.2 b.2;have h3:a.2.length<=w:=by
    obtain⟨u,hu,e3⟩:=CE (show a∈gr (aX (FW.aG g v d f k).2 v (Q3 (FW.aG g v d f k).2 v).toNat) v ((Q3 (FW.aG g v d f k).2 v).toNat-d)from ha);have v5:=(ih.mO v _) u hu;apply Decidable.byContradiction;intro hc;have hl:0<a.2.length:=by omega
    have hz:eN a.2 (a.2.length-1)=0:=by rw[e3,fq (by omega),if_neg (by omega)];rfl
    have Er:=hb.c a ha;rw[e9 (by omega)]at hz;apply Er;rw[Ka3,Kam (by omega),hz]
   omega
theorem agh{f g q r:List Tm}{v d n fuel:Nat}(nf:aC f)(ng:aC g)(hd:Q3 g v=d)(hb:∀k,∃K E,PB K E (aG g v d f k).2)(hN:f=[]∨Q3 f v<fuel)(he:mP g v d fuel [] f 0=some (q,r,n)):r=[]∨Q3 r v<d:=by
 obtain⟨e1,e2,_,_⟩:=G7 (f:=f) fuel 0 he (fun h=>absurd h (by omega));have h1:=zT g v d fuel [] f 0;rw[he]at h1;rcases Td nf ng hd hb fuel 0 hN with h2|⟨j,_,_,j3,h2⟩
 ·rw[show(aG g v d f 0).1=[]from rfl,show(aG g v d f 0).2=f from rfl,h1]at h2;simp only[PV.dv,PV.au.injEq,KcJ,PV.int.injEq]at h2;omega
 ·rw[show(aG g v d f 0).1=[]from rfl,show(aG g v d f 0).2=f from rfl,h1]at h2;simp only[PV.dv,PV.au.injEq,KcJ,PV.int.injEq]at h2;have:n=j:=by omega
  subst this;rw[e2];exact j3
theorem fm.Bq(h:fm m j Tf Tg v f g):cy g.1=aX g.1 v (Q3 g.1 v)/\ML v (cy g.1)/\aC (cy g.1)/\SZ 1 (bL j) Tg (cy g.1)/\(cy g.1).length<=4000:=by
 have hm:=h.mg;have e:cy g.1=aX g.1 v (Q3 g.1 v):=by unfold cy cP;rw[if_neg (by omega),if_neg (by omega),hm];rfl
 rw[e];refine⟨rfl,ML.top h.hg.pb (fun t ht=>?_) _,kJ h.hg.n _ _,h.hg.s.mO _ _,Kay (pZ _ _ _) h.hg.len⟩;have:=(wO g.1).2.1 t ht;omega
theorem fm.out(h:fm m j Tf Tg v f g){q r:List Tm}{n:Nat}(he:qy f.1 g.1=some (q,r,n)):om m j Tf Tg v f g q r n:=by
 obtain⟨n1,n2,n3,n4,n5,n6,n7,n8,n9⟩:=h.num;have hi:=h.Bq.2;have aF:=h.st;have vF:=h.ak6;have hle:=h.le;have UK:=h.hd;unfold qy at he;rw[n8]at he;generalize qG:(Q3 g.1 v).toNat=d at *
 obtain⟨e1,e2,e3,e4⟩:=G7 (f:=f.1) _ 0 he (fun h=>absurd h (by omega));obtain⟨-,bm⟩:=O' (f:=f.1) _ 0 he;have en:∀t∈g.1,eN t.2 v<=d:=fun t ht=>by have:=(rq g.1 v).2.1 t ht;omega
 have hnn:(n:Int)<=Q3 f.1 v-d+1:=by
  cases n with
  |zero=>omega
  |succ n=>
   have h1:=(O9 h.hf.n h.hg.n en (vF d) n fun j hj=>bm j (by omega) (by omega))
   have h2:=bm n (by omega) (by omega);have:=h1.resolve_left h2.1;omega
 obtain⟨k1,k2⟩:=sZ (v:=v) (d:=d) h.hf.n h.hg.n n;have hs:=aF d n (by omega);have hT:=TD.aG (d:=d) h.hf.t h.hf.n h.hg.t h.hg.n (by have:=h.hv;omega:v<64) (vF d) n fun j hj=>bm j (by omega) hj;have hM:=ML.aG (d:=d) h.hf.v h.hg.v h.hf.n h.hg.n (by have:=h.hv;omega:v<3) n;have Ej:=ML.aG (d:=d) (w:=v+1) (f:=f.1) (g:=g.1) (fun t ht=>by have h1:=(wO f.1).2.1 t ht;have h2:=h.mf;omega) (fun t ht=>by have h1:=(wO g.1).2.1 t ht;have h2:=h.mg;omega) h.hf.n h.hg.n (Kdb v) n;have tQ:=agh h.hf.n h.hg.n (by omega:Q3 g.1 v=d) (vF d) (.inr (by omega)) he;have hl:q.length<=4000/\r.length<=4000:=by
  by_cases h0:0<n
  ·exact⟨qd (e4 h0).1,qd (e4 h0).2⟩
  ·obtain rfl:n=0:=by omega
   rw[e1,e2];exact⟨by simp[aG],h.hf.len⟩
 rw[<-e2]at k2 hT hM Ej;rw[<-e1]at k1;have sq:=hs.q;have sr:=hs.r;rw[<-e1]at sq;rw[<-e2]at sr;exact⟨⟨by omega,by omega⟩,sq,sr,k1,k2,hl.1,hl.2,hT.mono (by rw[n6];omega),tQ.imp id (fun h=>by omega),hM,Ej,hi⟩
theorem Oc{p:List Tm}(np:aC p):fa p≠0:=by
 unfold fa;split
 ·decide
 ·exact OE np ‹_›
theorem Od{c q:List Tm}{a b:List (List Tm)}{y:List Tm}(h:y∈cY c q a b):∃u∈a,∃w∈b,y=fY (Q8 c u) (Q8 q w):=by unfold cY at h;obtain⟨i,hi,rfl⟩:=Kbd h;rw[Kb3]at hi;exact⟨a[i],Kah _,b[i],Kah _,by rw[List.getElem_zipWith]⟩
theorem om.DT(h:fm m j Tf Tg v f g){q r:List Tm}{n:Nat}(o:om m j Tf Tg v f g q r n){u w:List Tm}(hu:u∈f.2)(hw:w∈g.2):
  SZ (1+n*1+aL j) (1+n*bL j+cL j) (nL j*tL j+eL j) (Q8 (cF (cy g.1) n) u)/\SZ (1+nL j+aL j) (bL j+nL j*(bL j+2)+cL j) (tL j+nL j*tL j+eL j) (Q8 q w)/\aC (Q8 (cF (cy g.1) n) u)/\aC (Q8 q w):=by
 obtain⟨u1,u2,u3⟩:=h.hf.c u hu;obtain⟨w1,w2,w3⟩:=h.hg.c w hw;obtain⟨i1,i2,i3,i4⟩:=o.ni;have e1:n*Tg<=nL j*tL j:=KaM o.nn.2 h.tg;have e2:nL j*Tg<=nL j*tL j:=Ka7 _ h.tg;have:=h.tf;exact⟨((i3.yr n).l8 u1).mono (Kac _) (Kac _) (by omega),(o.sq.l8 w1).mono (by omega) (Kac _) (by omega),kd (wU i2 n).s u2.s,kd o.nq.s w2.s⟩
theorem om.Ao{q r:List Tm}{n:Nat}(o:om m j Tf Tg v f g q r n):rs (fa r)<=kL j:=by
 unfold fa kL;split
 ·have:=nK;show rs ((1:Int):Rat)<=_;have e:((1:Int):Rat)=1:=rfl;rw[e];omega
 ·have:=(o.sr.Fg o.nr ‹_›).2;omega
theorem fm.next(h:fm m j Tf Tg v f g){q r:List Tm}{n:Nat}(o:om m j Tf Tg v f g q r n){T:Nat}(hT:(Tf:Int)+n*((Tg:Int)-Q3 g.1 v)<=T)(hc:fu (di r (cY (cF (cy g.1) n) q f.2 g.2))=0):Lv m (j+1) T (di r (cY (cF (cy g.1) n) q f.2 g.2))/\(r=[]∨0<=Qv (di r (cY (cF (cy g.1) n) q f.2 g.2)).1):=by
 have nX:uf (di r (cY (cF (cy g.1) n) q f.2 g.2))=false:=by
  unfold fu at hc;split at hc
  ·cases hc
  ·rename_i h1;simpa using h1
 have Ma:=nX;simp only[uf,Kcf]at nX;obtain⟨g1,g2⟩:=nX;rw[KbB]at g2;have hx:XB T r:=Ob (o.tr.mono hT) (let⟨K,hk⟩:=o.sr.x;⟨_,K,hk⟩);have hr:=o.sr.Wq hx;have UI:=o.nr.c;refine⟨⟨?_,(o.tr.mono hT).wj UI _,?_,g1,?_,fun y hy=>?_,?_⟩,?_⟩
 ·show SZ 1 (bL (j+1)) T (ch r (fa r));unfold fa;split
  ·rename_i h0;subst h0;rw[wP];exact SZ.nil _ _ _ (by omega) (by rw[bL];omega)
  ·have:=(hr.Fg o.nr ‹_›).1;exact this.mono (Kac _) (by rw[bL];omega) (Kac _)
 ·exact sJ o.nr.s (fa r)
 ·exact o.mr.wj UI _
 ·obtain⟨y0,cV,rfl⟩:=KaI.1 hy;obtain⟨u,hu,w,hw,rfl⟩:=Od cV;obtain⟨s1,s2,m1,m2⟩:=o.DT h hu hw;have s3:=(s1.mono (Kac _) (Kac _) (by have:=h.tf;omega:nL j*tL j+eL j<=tL j+nL j*tL j+eL j)).yt s2;have s4:=s3.scale o.Ao;have e1:n*1<=nL j*1:=Kaf _ o.nn.2;have e2:n*bL j<=nL j*(bL j+2):=KaM o.nn.2 (by omega);have e3:=(jb h.hj).2.2.2.2.2.2.2.2.1;refine⟨s4.mono (by rw[aL];omega) (by rw[cL];omega) (by rw[eL];omega),sJ (Dg m1 m2).s _,?_⟩;have:=g2 _ hy;simpa using this
 ·show((cY _ q f.2 g.2).map _).length=m;rw[KaV,cY,Kb3,h.hf.k,h.hg.k,Nat.min_self]
 ·by_cases h0:r=[]
  ·exact .inl h0
  ·right;unfold fu at hc;rw[Ma]at hc;simp only[KaL,if_false]at hc;split at hc
   ·cases hc
   ·rename_i hn;have aP:0<(di r (cY (cF (cy g.1) n) q f.2 g.2)).1.length:=by show 0<(ch r (fa r)).length;rw[Si o.nr.z (Oc o.nr)];exact Kbq.2 h0
    omega
end
end Go.Proofs.YtdjoomkeehihmaaGreat
namespace Go.Proofs.YtdjoomkeehihmaaGreat
open Go Go.FW
def KG:az:=⟨25,[.t 2],Zr (Zo (.box 1 2 34 (.t 0))<|Zo (.mv 2 (.c (.bool false))) .nil)<|Zr (Zf 5 0 1<|Zl 6 1 5<|Zq 7 false 135 [.t 6]<|Zm 3 7 .nil)<| .seq (Zr (Zc 4 0 .nil)<| .block 0<| .loop<| .seq (Zr (Zm 8 4<|Zf 9 1 1<|Zl 10 1 9<|Zn 11 10<|Zb 12 .lss 8 11 .nil)<| .cond (.t 12) .skip (.exit 0))<| .seq (.block 1<| .rg (Zm 15 3<|Zm 16 15<|Zg 16 false (.cz 17 1 (.t 1))<|Zg 16 false (.ld 18 1 false (.t 17))<|Zg 16 false (.mv 19 (.t 4))<|Zg 16 false (.idx 20 1 (.t 18) (.t 19))<|Zg 16 false (.ld 21 1 false (.t 20))<|Zg 16 false (.call (some 22) false (.c (.fn 135 [] [])) [.t 21])<|Zo (.pick 23 (.t 16) (.c (.bool true)) (.t 22))<|Zm 3 23 .nil))<| .rg (Zm 13 4<|Zk 14 .add 13 1<|Zm 4 14 .nil))<|Zr (Zm 24 3<|Zm 2 24 .nil) .ret⟩
theorem ai0:Qe Tryz.prog Tryz.f75=some KG:=by kernel_rfl
def J6:az:=⟨15,[.t 2],Zr (Zo (.box 1 2 34 (.t 0))<|Zc 2 0 .nil)<| .seq (Zr (Zh 3 2 1<|Zq 4 false 75 [.t 3] .nil)<| .cond (.t 4) (Zr (Zc 2 4 .nil) .ret) .skip)<| .seq (Zr (Zf 5 0 1<|Zl 6 1 5<|Zn 7 6<|Zk 8 .gtr 7 0<|Zm 9 8<|Zg 9 true (.cz 10 0 (.t 1))<|Zg 9 true (.ld 11 1 false (.t 10))<|Zg 9 true (.call (some 12) false (.c (.fn 35 [] [])) [.t 11])<|Zg 9 true (.bin 13 .lss false (.t 12) (.c (Zz 0)))<|Zo (.pick 14 (.t 9) (.t 13) (.c (.bool false))) .nil)<| .cond (.t 14) (Zr (Zc 2 13 .nil) .ret) .skip)<|Zr (Zc 2 0 .nil) .ret⟩
theorem ai1:Qe Tryz.prog Tryz.f33=some J6:=by kernel_rfl
def J7:az:=⟨69,[.t 4,.t 5],Zr (Zc 4 0<|Zc 5 0 .nil)<|Zr (Zc 6 (-1)<|Zc 7 0 .nil)<| .seq (Zr (Zc 8 0 .nil)<| .block 0<| .loop<| .seq (Zr (Zm 11 8<|Zm 12 0<|Zn 13 12<|Zb 14 .lss 11 13 .nil)<| .cond (.t 14) .skip (.exit 0))<| .seq (.block 1<| .seq (Zr (Zm 17 0<|Zm 18 8<|Zi 19 2 17 18<|Zf 20 0 19<|Zl 21 1 20<|Zq 22 false 35 [.t 21]<|Zm 23 1<|Zb 24 .neq 22 23 .nil)<| .cond (.t 24) (.exit 1) .skip)<|Zr (Zm 25 7<|Zk 26 .add 25 1<|Zm 7 26 .nil)<| .seq (Zr (Zm 27 6<|Zk 28 .lss 27 0 .nil)<| .cond (.t 28) (Zr (Zm 29 8<|Zm 6 29 .nil)<| .exit 1) .skip)<|Zr (Zm 30 0<|Zm 31 8<|Zi 32 2 30 31<|Zf 33 0 32<|Zl 34 1 33<|Zm 35 1<|Zm 37 0<|Zm 38 6<|Zi 39 2 37 38<|Zf 40 0 39<|Zl 41 1 40<|Zm 42 1<|Zq 36 true 76 [.t 34,.t 35]<|Zq 43 true 76 [.t 41,.t 42]<|Zm 9 36<|Zm 10 43 .nil)<|Zr (Zm 44 9<|Zm 45 10<|Zb 46 .lss 44 45<|Zm 47 46<|Zg 47 false (.mv 48 (.t 9))<|Zg 47 false (.mv 49 (.t 10))<|Zg 47 false (.bin 50 .eql false (.t 48) (.t 49))<|Zg 47 false (.mv 51 (.t 50))<|Zg 51 true (.mv 52 (.t 0))<|Zg 51 true (.mv 53 (.t 8))<|Zg 51 true (.idx 54 2 (.t 52) (.t 53))<|Zg 51 true (.cz 55 0 (.t 54))<|Zg 51 true (.ld 56 1 false (.t 55))<|Zg 51 true (.mv 57 (.t 0))<|Zg 51 true (.mv 58 (.t 6))<|Zg 51 true (.idx 59 2 (.t 57) (.t 58))<|Zg 51 true (.cz 60 0 (.t 59))<|Zg 51 true (.ld 61 1 false (.t 60))<|Zg 51 true (.call (some 62) false (.c (.fn 38 [] [])) [.t 56,.t 61])<|Zg 51 true (.bin 63 .lss false (.t 62) (.c (Zz 0)))<|Zg 47 false (.pick 64 (.t 51) (.t 63) (.c (.bool false)))<|Zo (.pick 65 (.t 47) (.c (.bool true)) (.t 64)) .nil)<| .cond (.t 65) (.rg (Zm 66 8<|Zm 6 66 .nil)) .skip)<| .rg (Zm 15 8<|Zk 16 .add 15 1<|Zm 8 16 .nil))<|Zr (Zm 67 6<|Zm 68 7<|Zm 4 67<|Zm 5 68 .nil) .ret⟩
theorem ai2:Qe Tryz.prog Tryz.f34=some J7:=by kernel_rfl
def Io:az:=⟨43,[.t 4],Zr (Zo (.mv 4 (.c (.bool false))) .nil)<| .seq (Zr (Zm 6 0<|Zn 7 6<|Zm 8 1<|Zn 9 8<|Zb 10 .neq 7 9 .nil)<| .cond (.t 10) (Zr (Zo (.mv 4 (.c (.bool false))) .nil) .ret) .skip)<| .seq (Zr (Zc 5 0 .nil)<| .block 0<| .loop<| .seq (Zr (Zm 11 5<|Zm 12 0<|Zn 13 12<|Zb 14 .lss 11 13 .nil)<| .cond (.t 14) .skip (.exit 0))<| .seq (.block 1<|Zr (Zm 17 0<|Zm 18 5<|Zi 19 2 17 18<|Zf 20 0 19<|Zl 21 1 20<|Zm 22 1<|Zm 23 5<|Zi 24 2 22 23<|Zf 25 0 24<|Zl 26 1 25<|Zq 27 true 11 [.t 21,.t 26]<|Zu 28 27<|Zm 29 28<|Zg 29 false (.mv 30 (.t 0))<|Zg 29 false (.mv 31 (.t 5))<|Zg 29 false (.idx 32 2 (.t 30) (.t 31))<|Zg 29 false (.cz 33 1 (.t 32))<|Zg 29 false (.ld 34 1 false (.t 33))<|Zg 29 false (.mv 35 (.t 1))<|Zg 29 false (.mv 36 (.t 5))<|Zg 29 false (.idx 37 2 (.t 35) (.t 36))<|Zg 29 false (.cz 38 1 (.t 37))<|Zg 29 false (.ld 39 1 false (.t 38))<|Zg 29 false (.call (some 40) true (.c (.fn 37 [] [])) [.t 34,.t 39])<|Zg 29 false (.un 41 .not (.t 40))<|Zo (.pick 42 (.t 29) (.c (.bool true)) (.t 41)) .nil)<| .cond (.t 42) (Zr (Zo (.mv 4 (.c (.bool false))) .nil) .ret) .skip)<| .rg (Zm 15 5<|Zk 16 .add 15 1<|Zm 5 16 .nil))<|Zr (Zo (.mv 4 (.c (.bool true))) .nil) .ret⟩
theorem ajD:Qe Tryz.prog Tryz.f10=some Io:=by kernel_rfl
def J4:az:=⟨16,[.t 6],Zr (Zo (.box 5 3 43 (.t 2))<|Zo (.mv 6 (.c .aa)) .nil)<|Zr (Zm 8 0<|Zo (.mk 9 1 24 32 .aa (.t 8) (.t 8))<| .wk<|Zm 7 9 .nil)<|Zr (Zm 10 7<|Zm 11 1<|Zh 12 3 5<|Zq 13 false 25 [.t 12]<|Zi 14 1 10 11<|Zs 1 14 13 .nil)<|Zr (Zm 15 7<|Zm 6 15 .nil) .ret⟩
theorem ajE:Qe Tryz.prog Tryz.f31=some J4.strip:=by kernel_rfl
def JZ:az:=⟨35,[.cell 2 2 true],Zr (Zo (.box 1 2 34 (.t 0))<|Zo (.alloc 2 2 34 (.agg [.aa,.aa])) .nil)<|Zr (Zf 8 0 1<|Zl 9 1 8<|Zq 10 false 70 [.t 9]<|Zm 7 10<|Zo (.ext 11 (.t 7) 0)<|Zo (.ext 12 (.t 7) 1)<|Zo (.alloc 4 3 43 (.agg [.bool false,.aa,.aa]))<|Zm 3 11<|Zs 3 4 12 .nil)<|Zr (Zm 13 3<|Zo (.bT 14 [.aa,.aa] [(0,1,.t 13)])<|Zo (.alloc 5 2 34 (.agg [.aa,.aa]))<|Zs 2 5 14<| .wk<| .wk<| .wk .nil)<| .seq (Zr (Zc 6 0 .nil)<| .block 0<| .loop<| .seq (Zr (Zm 15 6<|Zf 16 1 1<|Zl 17 1 16<|Zn 18 17<|Zb 19 .lss 15 18 .nil)<| .cond (.t 19) .skip (.exit 0))<| .seq (.block 1<| .rg (Zf 22 1 5<|Zl 23 1 22<|Zf 24 1 1<|Zl 25 1 24<|Zm 26 6<|Zi 27 1 25 26<|Zl 28 1 27<|Zh 29 3 4<|Zq 30 true 71 [.t 28,.t 29]<|Zo (.bs 31 1 32 [.t 30])<|Zo (.app 32 1 24 32 (.t 23) (.t 31))<|Zf 33 1 5<|Zs 1 33 32 .nil))<| .rg (Zm 20 6<|Zk 21 .add 20 1<|Zm 6 21 .nil))<|Zr (Zh 34 2 5<| .wk<|Zs 2 2 34 .nil) .ret⟩
theorem ajF:Qe Tryz.prog Tryz.f30=some JZ.strip:=by kernel_rfl
theorem adO{n i:Nat}(hi:i<n)(hn:n<=100):Qc Tryz.prog 31 [.int .i64 n,.int .i64 i,PV.rat ((1:Int):Rat)] (· =PV.bZ (fP n i)):=by
 have h1:=nK;have ae:=GH (a:=((1:Int):Rat)) (k:=1) (by have:((1:Int):Rat)=1:=rfl;rw[this];exact h1) (by omega);refine wL Qj Tryz.func31 rfl ajE (by simp[J4]) fun C hP=>?_;simp only[J4,Zo,Zg,Zm,Zc,Zf,Zl,Zh,Zs,Zi,Zb,Zk,Zn,Zu,Zq,Zr,Zz];generalize hA:((1:Int):Rat)=a1 at *
 refine Sz0 ?_;refine mE (H7 n 9 32 _ _ Tz0) ?_;have lZ:(List.replicate n ([]:List Tm)).length=n:=List.length_replicate;unfold fP;rw[hA];generalize List.replicate n ([]:List Tm)=Z at *
 have hiZ:i<Z.length:=by omega
 have jT:(Z.map PV.aj).set i (PV.aj (dQ a1))=(Z.set i (dQ a1)).map PV.aj:=by rw[Kc8]
 have L5:i<(Z.map PV.aj).length:=by rw[KaV];omega
 have hlS:(Z.set i (dQ a1)).length=n:=by rw[Kb8,lZ]
 refine Sz0 ?_;refine Qa hP ae rfl rfl rfl ?_;refine Sz0 ?_;rw[CR (n:=1) (v:=PV.sl 4 ((dQ a1).map PV.term)) L5 rfl rfl];rw[show(Z.map PV.aj).set i (PV.sl 4 ((dQ a1).map PV.term))=(Z.set i (dQ a1)).map PV.aj from jT];generalize Z.set i (dQ a1)=Y at *
 refine Sz0 ?_;have e0:List.take n (Y.map PV.aj)=Y.map PV.aj:=Kae (by rw[KaV];omega);refine sS ?_;refine tA e0 ?_;exact Qd rfl rfl
theorem abO{x:aB}{E:Nat}(h1:∀t∈x.1,MB E t.2)(h2:x.1.length<=2^36)(h3:∀y∈x.2,(∀t∈y,MB E t.2)/\y.length<=2^36)(hl:x.2.length<=100):Qc Tryz.prog 75 [PV.el x] (· = .bool (uf x)):=by
 obtain⟨p,cs⟩:=x;simp only at h1 h2 h3 hl;have hL:=yJ h1 h2;have hc:∀i (h:i<cs.length),Qc Tryz.prog 135 [PV.aj cs[i]] (· = .bool (bf cs[i])):=fun i h=>yJ (h3 _ (Kah h)).1 (h3 _ (Kah h)).2;have aF:∀i (h:i<cs.length),(bf p||(cs.take (i+1)).any bf)=((bf p||(cs.take i).any bf)||bf cs[i]):=fun i h=>by rw[Kag h,List.any_append];simp[Bool.or_assoc]
 refine Qf Qj Tryz.func75 rfl ai0 (by simp[KG]) fun C hP=>?_;simp only[KG,Zo,Zg,Zm,Zc,Zf,Zl,Zh,Zs,Zi,Zb,Zk,Zn,Zu,Zq,Zr,Zz];refine Sz0 ?_;refine Qa hP hL rfl rfl rfl ?_;refine Sz0 ?_;refine Qz (by repeat (first|exact Qs|exact Ql|exact Qm|exact Qn|exact Qo|apply Qk|apply Qr|apply Qx|apply Q4|apply Q5|apply Qi|apply Q2)) [(3,4),(8,23)] [] (fun m J hp=>∃i,m=cs.length-i/\i<=cs.length/\J 3= .bool (bf p||(cs.take i).any bf)/\J 4= .int .i64 (i:Nat)/\hp 1=some ⟨2,34,[PV.el (p,cs)],false⟩) cs.length ?_ ?_
 ·refine⟨0,rfl,by omega,?_⟩;refine Sz0 ?_
  first|trivial|simp
 rintro _ J h ⟨i,rfl,hi,j3,j4,hb⟩;by_cases c1:i<cs.length
 ·have d1:decide ((i:Int)<(cs.length:Int))=true:=decide_eq_true (by omega);have hc:=hc i c1;have aF:=aF i c1;generalize(bf p||(cs.take i).any bf)=b at *
  generalize hx:cs[i]=y at *
  refine Sz4 j3 j4 hb d1 ?_;cases b
  ·refine Sz5 j3 j4 hb d1 hx ?_;refine Qa hP hc rfl rfl rfl ?_;rw[Kcm]at aF;refine Sz5 j3 j4 hb d1 hx ?_;refine Qh (cs.length-(i+1)) (by omega) ⟨i+1,rfl,by omega,?_⟩;rw[aF];refine Sz1 hb ?_
   try trivial
  ·rw[KcL]at aF;refine Sz5 j3 j4 hb d1 hx ?_;refine Qh (cs.length-(i+1)) (by omega) ⟨i+1,rfl,by omega,?_⟩;rw[aF];refine Sz1 hb ?_
   try trivial
 ·obtain rfl:i=cs.length:=by omega
  have d1:decide ((cs.length:Int)<(cs.length:Int))=false:=decide_eq_false (by omega);rw[Kas]at j3;refine Sz4 j3 j4 hb d1 ?_;exact Qd rfl rfl
theorem abP{x:aB}{K E:Nat}(h1:PB K E x.1)(n1:aC x.1)(h2:x.1.length<=2^36)(h3:∀y∈x.2,(∀t∈y,MB E t.2)/\y.length<=2^36)(hl:x.2.length<=100):Qc Tryz.prog 33 [PV.el x] (· = .int .i64 (fu x)):=by
 have hL:=abO (fun t ht=>(h1 t ht).m) h2 h3 hl;have hM:=B8 h1 n1 h2;unfold fu;generalize uf x=b at *
 obtain⟨p,cs⟩:=x;simp only at h1 n1 h2 hM;refine Qf Qj Tryz.func33 rfl ai1 (by simp[J6]) fun C hP=>?_;simp only[J6,Zo,Zg,Zm,Zc,Zf,Zl,Zh,Zs,Zi,Zb,Zk,Zn,Zu,Zq,Zr,Zz];refine Sz0 ?_;refine Qa hP hL rfl rfl rfl ?_;cases b
 ·simp only[KaL,if_false];by_cases c1:0<p.length
  ·have d1:decide ((p.length:Int)>0)=true:=decide_eq_true (by omega);have xK:decide (0<(p.length:Int))=true:=decide_eq_true (by omega);by_cases c2:Qv p<0
   ·have d2:decide (Qv p<0)=true:=decide_eq_true c2;rw[if_pos ⟨c1,c2⟩];refine Sz3 d1 xK d2 ?_;refine Qa hP hM rfl rfl rfl ?_;refine Sz3 d1 xK d2 ?_;exact Qd rfl rfl
   ·have d2:decide (Qv p<0)=false:=decide_eq_false c2;rw[if_neg fun h=>c2 h.2];refine Sz3 d1 xK d2 ?_;refine Qa hP hM rfl rfl rfl ?_;refine Sz3 d1 xK d2 ?_;exact Qd rfl rfl
  ·have d1:decide ((p.length:Int)>0)=false:=decide_eq_false (by omega);have xK:decide (0<(p.length:Int))=false:=decide_eq_false (by omega);rw[if_neg fun h=>c1 h.1];refine Sz2 d1 xK ?_;exact Qd rfl rfl
 ·refine Sz0 ?_;exact Qd rfl rfl
theorem Xc{p q:List Tm}{cs ds:List (List Tm)}{a:Rat}(hlen:ds.length=cs.length)(hl:cs.length<=100)
  (vA:Qc Tryz.prog 70 [PV.aj p] (· = .au [PV.aj q,PV.rat a])) (vB:∀i (h:i<cs.length),Qc Tryz.prog 71 [PV.aj cs[i],PV.rat a] (· =PV.aj (ds.getD i []))):
  Qc Tryz.prog 30 [PV.el (p,cs)] (· =PV.el (q,ds)):=by
 refine wL Qj Tryz.func30 rfl ajF (by simp[JZ]) fun C hP=>?_;simp only[JZ,Zo,Zg,Zm,Zc,Zf,Zl,Zh,Zs,Zi,Zb,Zk,Zn,Zu,Zq,Zr,Zz];refine Sz0 ?_;refine Qa hP vA rfl rfl rfl ?_;refine Sz0 ?_;refine mE (FJ 5 2000001 cE (by omega) rfl (by omega)) ?_;refine Sz0 ?_;refine mE (Fz (γ:=2000001) (e:=2) (ty:=34) (xs:=[.agg [PV.aj q,.aa]]) (fz:=false) cE (by simp) (by omega) (fun x hx=>by rw[KaP.1 hx];rfl)) ?_;refine Sz0 ?_;refine mE (N2 (γ:=2000001) (e:=2) (ty:=34) (cs:=[PV.aj q,.aa]) (cs':=[PV.aj q,.ax 2000002 0 0]) 2000002 1 32 cE cE (by omega) (by omega) rfl (by simp)) ?_;refine Sz0 ?_;refine zB (by repeat (first|exact Qs|exact Ql|exact Qm|exact Qn|exact Qo|apply Qk|apply Qr|apply Qx|apply Q4|apply Q5|apply Qi|apply Q2)) [(5,6),(15,33),(2000001,2000001)] [31,32] (fun q' J hp=>∃k,q'=cs.length-k/\k<=cs.length/\J 5= .np 2000001 0 0/\J 6= .int .i64 (k:Nat)/\J 2000001= .aN 2000001 2 34 [.aT [PV.aj q,.ax 2000002 0 k]]/\hp 2000001=some ⟨2,34,[],false⟩/\
   hp 2000002=some ⟨1,32,(ds.take k).map PV.aj,false⟩/\hp 1=some ⟨2,34,[PV.el (p,cs)],false⟩/\hp 2=some ⟨2,34,[.agg [.aa,.aa]],false⟩/\hp 4=some ⟨3,43,[PV.rat a],false⟩) cs.length ?_ ?_
 ·refine⟨0,rfl,by omega,?_⟩;refine Sz0 ?_;rfl
 rintro _ J h ⟨k,rfl,hk,j5,j6,g5,k5,k0,kx,kr,ka⟩;by_cases c1:k<cs.length
 ·have d1:decide ((k:Int)<(cs.length:Int))=true:=decide_eq_true (by omega);have hc:=vB k c1;have bn:ds.take (k+1)=ds.take k++[ds.getD k []]:=by rw[Kag (by omega)];simp[show k<ds.length by omega]
  have qU:k=(ds.take k).length:=by rw[KaF];omega
  generalize ds.getD k []=y at *
  generalize hx:cs[k]=x at *
  refine Sz5 j6 kx d1 hx ka ?_;refine Sz7 j5 j6 kx hx ka g5 k5 ?_;refine Qa hP hc rfl rfl rfl ?_;refine Sz5 j5 j6 kx g5 k5 ?_;rw[Ry (f:=PV.aj) (y:=y) (xs:=ds.take k) (ty':=32) (fz:=false) (Tzr1 k0) cE (by omega) qU (by omega) (by omega) (by omega)];refine Sz4 j5 j6 g5 k5 ?_;refine wJ (cs.length-(k+1)) (by omega) ⟨k+1,rfl,by omega,?_⟩;rw[bn];refine Sz6 j5 g5 k5 kx kr ka ?_
  try trivial
 ·obtain rfl:k=cs.length:=by omega
  have d1:decide ((cs.length:Int)<(cs.length:Int))=false:=decide_eq_false (by omega);have e0:(List.take ds.length ((ds.take cs.length).map PV.aj))=ds.map PV.aj:=by rw[hlen.symm,Kas,Kae (by simp)]
  rw[hlen]at e0;refine Sz7 j5 j6 g5 k5 kx kr d1 ?_;refine H2 34 2 [2000002] (p:=.aT [PV.aj q,.ax 2000002 0 cs.length]) Tz0 (D:=PV.el (q,ds)) ?_ ?_ rfl ?_
  ·intro c hc;simp only[KaO,Kdf,or_false]at hc;rcases hc with rfl|rfl
   ·trivial
   ·simp only[sB,bG];simp
  ·show PV.agg [_,jO _ h 2 (.ax 2000002 0 _)]=_;simp only[jO,k0,Kbo];rw[e0]
  refine tA kr ?_;refine sS (dA ?_);refine Sz0 ?_;exact Qd rfl rfl
def Ai:az:=⟨69,[.cell 6 2 true,.t 7],Zr (Zo (.box 3 2 34 (.t 0))<|Zo (.box 4 2 34 (.t 1))<|Zo (.alloc 6 2 34 (.agg [.aa,.aa]))<|Zc 7 0 .nil)<|Zr (Zf 16 0 3<|Zl 17 1 16<|Zf 18 0 4<|Zl 19 1 18<|Zm 20 2<|Zq 21 false 78 [.t 17,.t 19,.t 20]<|Zm 15 21<|Zo (.ext 22 (.t 15) 0)<|Zo (.ext 23 (.t 15) 1)<|Zo (.ext 24 (.t 15) 2)<|Zo (.ext 25 (.t 15) 3)<|Zm 8 22<|Zm 9 23<|Zm 10 24<|Zm 11 25 .nil)<| .seq (Zr (Zm 26 11<|Zk 27 .neq 26 0 .nil)<| .cond (.t 27) (Zr (Zo (.bT 28 [.aa,.aa] [])<|Zm 29 11<|Zs 2 6 28<|Zm 7 29 .nil) .ret) .skip)<|Zr (Zf 30 0 4<|Zl 31 1 30<|Zq 32 false 80 [.t 31]<|Zm 33 10<|Zq 34 false 79 [.t 32,.t 33]<|Zm 12 34 .nil)<|Zr (Zm 35 9<|Zo (.bT 36 [.aa,.aa] [(0,1,.t 35)])<|Zo (.alloc 13 2 34 (.agg [.aa,.aa]))<|Zs 2 13 36<| .wk<| .wk<| .wk .nil)<| .seq (Zr (Zc 14 0 .nil)<| .block 0<| .loop<| .seq (Zr (Zm 37 14<|Zf 38 1 3<|Zl 39 1 38<|Zn 40 39<|Zb 41 .lss 37 40 .nil)<| .cond (.t 41) .skip (.exit 0))<| .seq (.block 1<| .rg (Zf 44 1 13<|Zl 45 1 44<|Zm 46 12<|Zf 47 1 3<|Zl 48 1 47<|Zm 49 14<|Zi 50 1 48 49<|Zl 51 1 50<|Zm 53 8<|Zf 54 1 4<|Zl 55 1 54<|Zm 56 14<|Zi 57 1 55 56<|Zl 58 1 57<|Zq 52 true 24 [.t 46,.t 51]<|Zq 59 true 24 [.t 53,.t 58]<|Zq 60 true 21 [.t 52,.t 59]<|Zo (.bs 61 1 32 [.t 60])<|Zo (.app 62 1 24 32 (.t 45) (.t 61))<|Zf 63 1 13<|Zs 1 63 62 .nil))<| .rg (Zm 42 14<|Zk 43 .add 42 1<|Zm 14 43 .nil))<|Zr (Zh 64 2 13<| .wk<|Zq 65 false 30 [.t 64]<|Zs 2 13 65 .nil)<|Zr (Zh 66 2 13<|Zh 67 2 13<|Zq 68 true 33 [.t 67]<|Zs 2 6 66<|Zm 7 68 .nil) .ret⟩
theorem PU:Qe Tryz.prog Tryz.f36=some Ai.strip:=by kernel_rfl
theorem adP{f g:aB}{v:Int}{q r c:List Tm}{n:Nat}{x:aB}{e:Int}(hl:f.2.length<=100)(hlen:g.2.length=f.2.length)
  (hd:Qc Tryz.prog 78 [PV.aj f.1,PV.aj g.1,.int .i64 v] (· = .au [PV.aj q,PV.aj r,.int .i64 n,.int .i64 0]))
  (hi:Qc Tryz.prog 80 [PV.aj g.1] (· =PV.aj (cy g.1))) (pL:Qc Tryz.prog 79 [PV.aj (cy g.1),.int .i64 n] (· =PV.aj c))
  (qO:∀y∈f.2,Qc Tryz.prog 24 [PV.aj c,PV.aj y] (· =PV.aj (Q8 c y))) (mX:∀y∈g.2,Qc Tryz.prog 24 [PV.aj q,PV.aj y] (· =PV.aj (Q8 q y)))
  (ub:∀y∈f.2,∀z∈g.2,Qc Tryz.prog 21 [PV.aj (Q8 c y),PV.aj (Q8 q z)] (· =PV.aj (fY (Q8 c y) (Q8 q z))))
  (dz:Qc Tryz.prog 30 [PV.el (r,cY c q f.2 g.2)] (· =PV.el x)) (AI:Qc Tryz.prog 33 [PV.el x] (· = .int .i64 e)):
  Qc Tryz.prog 36 [PV.el f,PV.el g,.int .i64 v] (· = .au [PV.el x,.int .i64 e]):=by
 obtain⟨fp,fc⟩:=f;obtain⟨gp,gc⟩:=g;simp only at *
 refine wL Qj Tryz.func36 rfl PU (by simp[Ai]) fun C hP=>?_;simp only[Ai,Zo,Zg,Zm,Zc,Zf,Zl,Zh,Zs,Zi,Zb,Zk,Zn,Zu,Zq,Zr,Zz];refine Sz0 ?_;refine Qa hP hd rfl rfl rfl ?_;refine Sz0 ?_;rw[bI rfl];refine Sz0 ?_;refine Qa hP hi rfl rfl rfl ?_;refine Sz0 ?_;refine Qa hP pL rfl rfl rfl ?_;refine Sz0 ?_;refine mE (FJ 13 2000001 cE (by omega) rfl (by omega)) ?_;refine Sz0 ?_;refine mE (Fz (γ:=2000001) (e:=2) (ty:=34) (xs:=[.agg [PV.aj r,.aa]]) (fz:=false) cE (by simp) (by omega) (fun x hx=>by rw[KaP.1 hx];rfl)) ?_;refine Sz0 ?_;refine mE (N2 (γ:=2000001) (e:=2) (ty:=34) (cs:=[PV.aj r,.aa]) (cs':=[PV.aj r,.ax 2000002 0 0]) 2000002 1 32 cE cE (by omega) (by omega) rfl (by simp)) ?_;refine Sz0 ?_;refine zB (by repeat (first|exact Qs|exact Ql|exact Qm|exact Qn|exact Qo|apply Qk|apply Qr|apply Qx|apply Q4|apply Q5|apply Qi|apply Q2)) [(13,14),(37,63),(2000001,2000001)] [61,62] (fun q' J hp=>∃k,q'=fc.length-k/\k<=fc.length/\J 13= .np 2000001 0 0/\J 14= .int .i64 (k:Nat)/\J 2000001= .aN 2000001 2 34 [.aT [PV.aj r,.ax 2000002 0 k]]/\hp 2000001=some ⟨2,34,[],false⟩/\
   hp 2000002=some ⟨1,32,((cY c q fc gc).take k).map PV.aj,false⟩/\hp 3=some ⟨2,34,[PV.el (fp,fc)],false⟩/\hp 4=some ⟨2,34,[PV.el (gp,gc)],false⟩/\hp 6=some ⟨2,34,[.agg [.aa,.aa]],false⟩) fc.length ?_ ?_
 ·refine⟨0,rfl,by omega,?_⟩;refine Sz0 ?_;rfl
 rintro _ J h ⟨k,rfl,hk,jX,fA,g5,k5,k0,kx,ky,kr⟩;by_cases c1:k<fc.length
 ·have d1:decide ((k:Int)<(fc.length:Int))=true:=decide_eq_true (by omega);have c2:k<gc.length:=by omega
  have m1:=qO _ (Kah c1);have m2:=mX _ (Kah c2);have m3:=ub _ (Kah c1) _ (Kah c2);have hz:k<(cY c q fc gc).length:=by unfold cY;rw[Kb3];omega
  have bn:(cY c q fc gc).take (k+1)=(cY c q fc gc).take k++[fY (Q8 c fc[k]) (Q8 q gc[k])]:=by rw[Kag hz];simp[cY]
  have qU:k=((cY c q fc gc).take k).length:=by rw[KaF];omega
  generalize(cY c q fc gc).take k=A at *
  generalize hx:fc[k]=y at *
  generalize hw:gc[k]=z at *
  refine Sz4 fA kx d1 hx ?_;refine Sz8 jX fA kx ky hx hw g5 k5 ?_;refine Qa hP m1 rfl rfl rfl ?_;refine Sz8 jX fA kx ky hx hw g5 k5 ?_;refine Qa hP m2 rfl rfl rfl ?_;refine Sz4 jX fA g5 k5 ?_;refine Qa hP m3 rfl rfl rfl ?_;refine Sz4 jX fA g5 k5 ?_;rw[Ry (f:=PV.aj) (y:=fY (Q8 c y) (Q8 q z)) (xs:=A) (ty':=32) (fz:=false) (Tzr1 k0) cE (by omega) qU (by omega) (by omega) (by omega)];refine Sz4 jX fA g5 k5 ?_;refine wJ (fc.length-(k+1)) (by omega) ⟨k+1,rfl,by omega,?_⟩;rw[bn];refine Sz6 jX g5 k5 kx ky kr ?_
  try trivial
 ·obtain rfl:k=fc.length:=by omega
  have d1:decide ((fc.length:Int)<(fc.length:Int))=false:=decide_eq_false (by omega);have eV:(cY c q fc gc).length=fc.length:=by unfold cY;rw[Kb3];omega
  have e0:(List.take fc.length (((cY c q fc gc).take fc.length).map PV.aj))=(cY c q fc gc).map PV.aj:=by rw[<-eV,Kas,Kae (by simp)]
  generalize cY c q fc gc=A at *
  refine Sz8 jX fA g5 k5 kx ky kr d1 ?_;refine H2 64 2 [2000002] (p:=.aT [PV.aj r,.ax 2000002 0 fc.length]) Tz0 (D:=PV.el (r,A)) ?_ ?_ rfl ?_
  ·intro c hc;simp only[KaO,Kdf,or_false]at hc;rcases hc with rfl|rfl
   ·trivial
   ·simp only[sB,bG];simp
  ·show PV.agg [_,jO _ h 2 (.ax 2000002 0 _)]=_;simp only[jO,k0,Kbo];rw[e0]
  refine kQ jX kr ?_;refine Qa hP dz rfl rfl rfl ?_;refine Ik jX kr k5 g5 ?_;refine Qa hP AI rfl rfl rfl ?_;refine tA kr ?_;refine sS (jr ?_);refine Sz0 ?_;exact fb rfl rfl rfl (Qw _) (Qw _)
theorem XK{f g:aB}{v:Int}(hd:Qc Tryz.prog 78 [PV.aj f.1,PV.aj g.1,.int .i64 v] (· = .au [PV.aj [],PV.aj [],.int .i64 0,.int .i64 4])):
  Qc Tryz.prog 36 [PV.el f,PV.el g,.int .i64 v] (· = .au [PV.el ([],[]),.int .i64 4]):=by
 obtain⟨fp,fc⟩:=f;obtain⟨gp,gc⟩:=g;simp only at *
 refine wL Qj Tryz.func36 rfl PU (by simp[Ai]) fun C hP=>?_;simp only[Ai,Zo,Zg,Zm,Zc,Zf,Zl,Zh,Zs,Zi,Zb,Zk,Zn,Zu,Zq,Zr,Zz];refine Sz0 ?_;refine Qa hP hd rfl rfl rfl ?_;refine Sz0 ?_;rw[bI rfl];refine Sz0 ?_;refine sS (jr ?_);refine Sz0 ?_;exact fb (p':=PV.el ([],[])) rfl rfl rfl ⟨trivial,trivial,trivial⟩ (Qw _)
theorem Ye{l:List aB}{v K E:Nat}(hv:v<64)(hp:∀x∈l,PB K E x.1/\aC x.1/\x.1.length<=2^30)(hK:K<=2^33)(hE:E<=2^38)(hl:l.length<=100):
  Qc Tryz.prog 34 [.sl 2 (l.map PV.el),.int .i64 v] (· = .au [.int .i64 (cD l v).1,.int .i64 (cD l v).2]):=by
 refine Qf Qj Tryz.func34 rfl ai2 (by simp[J7]) fun C hP=>?_;simp only[J7,Zo,Zg,Zm,Zc,Zf,Zl,Zh,Zs,Zi,Zb,Zk,Zn,Zu,Zq,Zr,Zz];refine Sz0 ?_;refine Qz (by repeat (first|exact Qs|exact Ql|exact Qm|exact Qn|exact Qo|apply Qk|apply Qr|apply Qx|apply Q4|apply Q5|apply Qi|apply Q2)) [(6,66)] [] (fun m J hp=>∃i,m=l.length-i/\i<=l.length/\J 6= .int .i64 (iv l v i).1/\J 7= .int .i64 (iv l v i).2/\J 8= .int .i64 (i:Nat)) l.length ?_ ?_
 ·refine⟨0,rfl,by omega,?_⟩;refine Sz0 ?_
  try (first|rfl|exact⟨rfl,rfl⟩|exact⟨rfl,rfl,rfl⟩)
 rintro _ J h ⟨i,rfl,hi,j6,j7,fA⟩;obtain⟨s1,s2,s3⟩:=Dq l v i;have cS:=CO l v i;generalize aF:iv l v i=st at *
 obtain⟨at_,n⟩:=st;simp only at s1 s2 s3 j6 j7;by_cases c1:i<l.length
 ·have d1:decide ((i:Int)<(l.length:Int))=true:=decide_eq_true (by omega);obtain⟨b1,b2,b3⟩:=hp _ (Kah c1);have hm:=B8 b1 b2 (by omega:_<=2^36);have en:l.getD i default=l[i]:=by simp[c1]
  unfold xj at cS;rw[en]at cS;generalize hx:l[i]=x at *
  refine Sz3 fA d1 hx ?_;refine Qa hP hm rfl rfl rfl ?_;by_cases e1:Qv x.1=v
  ·have q1:decide (¬Qv x.1=(v:Int))=false:=decide_eq_false fun h=>h e1;have sE:(!decide (Qv x.1=(v:Int)))=false:=by simp[e1]
   rw[if_neg (by simpa using e1)]at cS;by_cases e2:at_<0
   ·have q2:decide (at_<0)=true:=decide_eq_true e2;simp only[e2,if_true]at cS;refine Sz8 j6 j7 fA d1 hx q1 sE q2 ?_;refine Qh (l.length-(i+1)) (by omega) ⟨i+1,rfl,by omega,?_⟩;rw[cS];refine Sz2 j6 j7 ?_
    try (first|rfl|trivial|exact⟨rfl,rfl⟩|exact⟨rfl,rfl,rfl⟩)
   ·have q2:decide (at_<0)=false:=decide_eq_false e2;simp only[e2,if_false]at cS;obtain⟨a,rfl⟩:∃a:Nat,at_=a:=⟨at_.toNat,by omega⟩
    have ha:a<l.length:=by omega
    obtain⟨b4,b5,b6⟩:=hp _ (Kah ha);have LX:l.getD ((a:Int)).toNat default=l[a]:=by simp[ha]
    rw[LX]at cS;generalize hy:l[a]=y at *
    have fw:=wv (v:=(v:Int)) b1 (by omega:_<=2^36);have gf:=wv (v:=(v:Int)) b4 (by omega:_<=2^36);rw[mA]at fw gf;have hc:=RJ b1 b4 hK hE (by omega) (by omega);unfold xE at cS;generalize Q3 x.1 v=dx at *
    generalize Q3 y.1 v=dy at *
    generalize gO x.1 y.1=cv at *
    refine Sz9 j6 j7 fA d1 hx hy q1 sE q2 ?_;refine Qa hP fw rfl rfl rfl ?_;refine Sz0 ?_;refine Qa hP gf rfl rfl rfl ?_;by_cases e3:dx<dy
    ·have q3:decide (dx<dy)=true:=decide_eq_true e3;rw[q3]at cS;simp only[KcL,if_true]at cS;refine Sz7 j6 j7 fA d1 hx hy q3 ?_;refine Qh (l.length-(i+1)) (by omega) ⟨i+1,rfl,by omega,?_⟩;rw[cS];refine Sz2 j6 j7 ?_
     try (first|rfl|trivial|exact⟨rfl,rfl⟩|exact⟨rfl,rfl,rfl⟩)
    have q3:decide (dx<dy)=false:=decide_eq_false e3;rw[q3]at cS;simp only[Kcm]at cS;by_cases e4:dx=dy
    ·have q4:decide (dx=dy)=true:=decide_eq_true e4;rw[q4]at cS;simp only[KbY]at cS;refine Sz8 j6 j7 fA d1 hx hy q3 q4 ?_;refine Qa hP hc rfl rfl rfl ?_;by_cases e5:cv<0
     ·have q5:decide (cv<0)=true:=decide_eq_true e5;simp only[q5,if_true]at cS;refine Sz9 j6 j7 fA d1 hx hy q3 q4 q5 ?_;refine Qh (l.length-(i+1)) (by omega) ⟨i+1,rfl,by omega,?_⟩;rw[cS];refine Sz2 j6 j7 ?_
      try (first|rfl|trivial|exact⟨rfl,rfl⟩|exact⟨rfl,rfl,rfl⟩)
     ·have q5:decide (cv<0)=false:=decide_eq_false e5;simp only[q5,KaL,if_false]at cS;refine Sz9 j6 j7 fA d1 hx hy q3 q4 q5 ?_;refine Qh (l.length-(i+1)) (by omega) ⟨i+1,rfl,by omega,?_⟩;rw[cS];refine Sz2 j6 j7 ?_
      try (first|rfl|trivial|exact⟨rfl,rfl⟩|exact⟨rfl,rfl,rfl⟩)
    ·have q4:decide (dx=dy)=false:=decide_eq_false e4;simp only[q4,Kc5,KaL,if_false]at cS;refine Sz8 j6 j7 fA d1 hx hy q3 q4 ?_;refine Qh (l.length-(i+1)) (by omega) ⟨i+1,rfl,by omega,?_⟩;rw[cS];refine Sz2 j6 j7 ?_
     try (first|rfl|trivial|exact⟨rfl,rfl⟩|exact⟨rfl,rfl,rfl⟩)
  ·have q1:decide (¬Qv x.1=(v:Int))=true:=decide_eq_true e1;have sE:(!decide (Qv x.1=(v:Int)))=true:=by simp[e1]
   rw[if_pos (by simpa using e1)]at cS;refine Sz7 j6 j7 fA d1 hx q1 sE ?_;refine Qh (l.length-(i+1)) (by omega) ⟨i+1,rfl,by omega,?_⟩;rw[cS];refine Sz2 j6 j7 ?_
   try (first|rfl|trivial|exact⟨rfl,rfl⟩|exact⟨rfl,rfl,rfl⟩)
 ·obtain rfl:i=l.length:=by omega
  have d1:decide ((l.length:Int)<(l.length:Int))=false:=decide_eq_false (by omega);refine Sz4 j6 j7 fA d1 ?_;exact fb (by unfold cD;rw[aF]) rfl rfl (Qw _) (Qw _)
def yq(x:aB)(e:Int):aB:=if e=0 then x else([],[])
theorem ZU(x:aB):ot (bf x.1) (x.2.any bf) (decide (Qv x.1<0)) x.1 x.2= .au [PV.el (yq x (fu x)),.int .i64 (fu x)]:=by
 unfold ot fu uf yq;cases h1:(bf x.1||x.2.any bf)
 ·simp only[KaL,if_false];by_cases h2:0<x.1.length
  ·by_cases h3:Qv x.1<0
   ·simp[h2,h3]
   ·simp[h2,h3]
  ·simp[h2]
 ·simp
structure uv(p:List Tm)(cs:List (List Tm)):Prop where
 b:PB 115200 2500 p
 n:aC p
 l:p.length<=4000
 r:rs (fa p)<=115200
 k:cs.length<=100
 c:∀c∈cs,PB 400000 5000 c/\aC c/\c.length<=2^34
theorem uv.x{p:List Tm}{cs:List (List Tm)}(h:uv p cs):PB 800000 5000 (di p cs).1/\aC (di p cs).1/\(di p cs).1.length<=4000/\∀y∈(di p cs).2,PB 800000 5000 y/\aC y/\y.length<=2^34:=by have hr:=h.r;refine⟨(zb (L:=115201) h.b (by omega)).mono (by omega) (by omega),sJ h.n.s _,Kay (uA _ _) h.l,fun y hy=>?_⟩;obtain⟨c,hc,rfl⟩:=KaI.1 hy;obtain⟨c1,c2,c3⟩:=h.c c hc;exact⟨(zb (L:=115201) c1 (by omega)).mono (by omega) (by omega),sJ c2.s _,Kay (uA _ _) c3⟩
theorem Qs6:Qc Tryz.prog 120 [PV.aj []] (· = .au [PV.aj [],PV.rat ((1:Int):Rat)]):=Quv
theorem Ic{p:List Tm}{cs:List (List Tm)}(h:uv p cs):Qc Tryz.prog 66 [PV.aj p,PV.bZ cs] (· = .au [PV.el (yq (di p cs) (fu (di p cs))),.int .i64 (fu (di p cs))]):=by
 obtain⟨x1,x2,x3,x4⟩:=h.x;have hr:=h.r;have hl:=h.l;have e:(di p cs).2.length=cs.length:=by simp[di]
 have hP:Qc Tryz.prog 120 [PV.aj p] (· = .au [PV.aj (di p cs).1,PV.rat (fa p)]):=by
  show Qc _ _ _ (· = .au [PV.aj (ch p (fa p)),PV.rat (fa p)]);unfold fa;split
  ·rename_i h0;subst h0;rw[wP];exact Qs6
  ·exact P' (K:=115200) (E:=2500) h.b h.n ‹_› (by omega) (by omega) (by omega)
 have hG:=QO (p:=p) (q:=(di p cs).1) (cs:=cs) (ds:=(di p cs).2) (a:=fa p) e h.k hP (fun i hi=>?_) (Dp (fun t ht=>(x1 t ht).m) (by omega)) (QA (g:=bf) (fun t ht=>Dp (fun s hs=>((x4 t ht).1 s hs).m) (by have:=(x4 t ht).2.2;omega)) (by have:=h.k;omega)) (Sf x1 (by omega))
 ·rwa[ZU]at hG
 ·obtain⟨c1,c2,c3⟩:=h.c _ (Kah hi);have e2:(di p cs).2.getD i []=ch cs[i] (fa p):=by simp[di,hi]
  rw[e2];exact Cb (K:=400000) (E:=5000) c1 (by omega) (by omega) (by omega) (by omega)
theorem G2{p:List Tm}{cs:List (List Tm)}(h:uv p cs):Qc Tryz.prog 30 [PV.el (p,cs)] (· =PV.el (di p cs))/\Qc Tryz.prog 33 [PV.el (di p cs)] (· = .int .i64 (fu (di p cs))):=by
 obtain⟨x1,x2,x3,x4⟩:=h.x;have hr:=h.r;have hl:=h.l;have e:(di p cs).2.length=cs.length:=by simp[di]
 have hP:Qc Tryz.prog 70 [PV.aj p] (· = .au [PV.aj (di p cs).1,PV.rat (fa p)]):=by
  show Qc _ _ _ (· = .au [PV.aj (ch p (fa p)),PV.rat (fa p)]);unfold fa;split
  ·rename_i h0;subst h0;rw[wP];exact Quw
  ·exact Qs5 (K:=115200) (E:=2500) h.b h.n ‹_› (by omega) (by omega) (by omega)
 refine⟨?_,abP x1 x2 (by omega) (fun y hy=>⟨fun t ht=>((x4 y hy).1 t ht).m,by have:=(x4 y hy).2.2;omega⟩) (by rw[e];exact h.k)⟩;refine Xc (p:=p) (q:=(di p cs).1) (cs:=cs) (ds:=(di p cs).2) (a:=fa p) e h.k hP (fun i hi=>?_);obtain⟨c1,c2,c3⟩:=h.c _ (Kah hi);have e2:(di p cs).2.getD i []=ch cs[i] (fa p):=by simp[di,hi]
 rw[e2];exact FU (K:=400000) (E:=5000) c1 c2.z (by omega) (by omega) (by omega) (by omega)
section
variable {m j Tf Tg v : Nat} {f g : aB}
theorem fm.Ue(h:fm m j Tf Tg v f g):PB 23100 500 g.1/\PB 23100 500 f.1:=by obtain⟨n1,n2,_⟩:=h.num;have:=(jb h.hj).1;exact⟨h.hg.pb.mono (by omega) (by omega),h.hf.pb.mono (by omega) (by omega)⟩
theorem om.pw(h:fm m j Tf Tg v f g){q r:List Tm}{n:Nat}(o:om m j Tf Tg v f g q r n):∀i,i<=n->PB 92200 2000 (cF (cy g.1) i)/\(cF (cy g.1) i).length<=2001:=by
 intro i hi;obtain⟨n1,n2,n3,n4,_⟩:=h.num;obtain⟨h1,h2,h3,h4,h5,h6,h7,h8,h9,bF,cn⟩:=jb h.hj;obtain⟨i1,i2,i3,i4⟩:=o.ni;have hn:=o.nn.2;have hs:=i3.yr i;have e1:i*bL j<=4*23028:=KaM (by omega) h1;have e2:i*Tg<=nL j*tL j:=KaM (by omega) h.tg;have hb:=hs.PB;refine⟨hb.mono (by omega) (by omega),?_⟩;have hc:=Yc hb (wU i2 i) (i1.yr i);have hv:v=0∨v=1∨v=2:=by have:=h.hv;omega
 rcases hv with e|e|e
 ·subst e;simp at hc;omega
 ·subst e;simp at hc;omega
 ·obtain⟨l1,l2⟩:=Na (h.lo e);subst e;have:i*Tg+1<=9:=by rw[l1,l2]at e2;omega
  have:=Nat.pow_le_pow_left this 2;omega
theorem om.Lb(h:fm m j Tf Tg v f g){q r:List Tm}{n:Nat}(o:om m j Tf Tg v f g q r n){u w:List Tm}(hu:u∈f.2)(hw:w∈g.2):
  PB 300000 5000 (Q8 (cF (cy g.1) n) u)/\PB 300000 5000 (Q8 q w)/\(Q8 (cF (cy g.1) n) u).length<=2^33/\(Q8 q w).length<=2^33:=by
 obtain⟨n1,n2,n3,n4,_⟩:=h.num;obtain⟨h1,h2,h3,h4,h5,h6,h7,h8,h9,bF,cn⟩:=jb h.hj;obtain⟨s1,s2,_,_⟩:=o.DT h hu hw;have e1:n*bL j<=4*23028:=KaM (by have:=o.nn.2;omega) h1;have hn:=o.nn.2;have hc:=(o.pw h n (Kac _))
 have l1:=qd (h.hf.c u hu).2.2;have l2:=qd (h.hg.c w hw).2.2;have p1:=(wH hc.1 (h.hf.c u hu).1.PB).2;have p2:=(wH o.sq.PB (h.hg.c w hw).1.PB).2;have m1:(cF (cy g.1) n).length*u.length<=2001*4000:=KaM hc.2 l1;have m2:q.length*w.length<=4000*4000:=KaM o.lq l2;exact⟨s1.PB.mono (by omega) (by omega),s2.PB.mono (by omega) (by omega),by omega,by omega⟩
theorem om.pri(h:fm m j Tf Tg v f g){q r:List Tm}{n:Nat}(o:om m j Tf Tg v f g q r n):uv r (cY (cF (cy g.1) n) q f.2 g.2):=by
 obtain⟨n1,n2,n3,n4,_⟩:=h.num;obtain⟨h1,h2,h3,h4,h5,h6,h7,h8,h9,bF,cn⟩:=jb h.hj;have hn:=o.nn.2;have e3:nL j*Tg<=4*500:=KaM n3 n2;refine⟨o.sr.PB.mono (by omega) (by omega),o.nr,o.lr,Kay o.Ao h6,?_,fun c hc=>?_⟩
 ·have:=h.hm;rw[cY,Kb3,h.hf.k,h.hg.k];omega
 ·obtain⟨u,hu,w,hw,rfl⟩:=Od hc;obtain⟨s1,s2,m1,m2⟩:=o.DT h hu hw;obtain⟨_,_,l1,l2⟩:=o.Lb h hu hw;have s3:=(s1.mono (Kac _) (Kac _) (by omega:nL j*tL j+eL j<=tL j+nL j*tL j+eL j)).yt s2;have e1:n*bL j<=4*23028:=KaM (by omega) h1;refine⟨s3.PB.mono (by omega) (by omega),Dg m1 m2,?_⟩;have:=uC (Q8 (cF (cy g.1) n) u) (kP (Q8 q w));have h5:=uA (Q8 q w) (-1);unfold fY;unfold kP at *
  omega
theorem Pa(h:fm m j Tf Tg v f g):js g.1 v (Q3 g.1 v).toNat ((Q3 f.1 v).toNat+1) [] f.1 0=PV.dv (qy f.1 g.1):=by obtain⟨_,_,_,_,_,_,_,n8,_⟩:=h.num;rw[zT];unfold qy;rw[n8]
theorem P6(h:fm m j Tf Tg v f g):Qc Tryz.prog 69 [PV.el f,PV.el g,.int .i64 v] (· = .au [PV.el (yq (fH f g).1 (fH f g).2),.int .i64 (fH f g).2]):=by
 obtain⟨n1,n2,n3,n4,n5,n6,n7,n8,n9⟩:=h.num;obtain⟨g1,g2⟩:=h.Ue;have qG:=h.hd;have hm:=h.hm;have hfk:=h.hf.k;have xY:=h.hg.k;have hD:=FR (f:=f.1) (g:=g.1) (v:=v) (d:=(Q3 g.1 v).toNat) (N:=(Q3 f.1 v).toNat+1) (K:=115200) (E:=2500) (M:=4000) h.hf.n h.hg.n (g1.mono (by omega) (by omega)) (by have:=h.hv;omega) (ru (by have:=h.mg;omega)) n6.symm (by omega) h.hf.l
  (fun k hk=>h.Ww _ k (by omega)) h.hg.len (by omega) (by omega) (by omega) (by omega) (by omega) (by omega) (by omega)
 rw[Pa h]at hD;unfold fH;cases hd:qy f.1 g.1 with
 |none=>rw[hd,H9]at hD;exact Xb hD
 | some d=>
  obtain⟨q,r,n⟩:=d;have o:=h.out hd;rw[hd,Ia]at hD;have hn:=o.nn.2;obtain⟨i1,i2,i3,i4⟩:=o.ni;have pL:=o.pw h;have qS:=pL n (Kac _);refine Te (by omega) (by omega) hD (FN g1 (by have:=h.hg.len;omega)) (H6 (K:=92200) (E:=2000) (L:=4000) (by omega) (i3.PB.mono ?_ (by omega)) (fun i hi=>⟨(pL i hi).1,by have:=(pL i hi).2;omega⟩) i4 (by omega) (by omega) (by omega) (by omega)) ?_ ?_ ?_ (Ic (o.pri h))
  ·have:=(jb h.hj).1;omega
  ·intro y hy;have l1:=qd (h.hf.c y hy).2.2;have m1:(cF (cy g.1) n).length*y.length<=2001*4000:=KaM qS.2 l1;have m3:min (cF (cy g.1) n).length y.length<=4000:=by omega
   refine rh (K:=140000) (E:=5000) (qS.1.mono (by omega) (by omega)) ((h.hf.c y hy).1.PB.mono ?_ ?_) (by omega) (by omega) (by omega) (by omega) (Kay (Kaf _ m3) (by decide+kernel)) (by omega)
   ·have:=(jb h.hj);omega
   ·have:=(jb h.hj);omega
  ·intro y hy;have l1:=qd (h.hg.c y hy).2.2;have lq:=o.lq;have m1:q.length*y.length<=4000*4000:=KaM o.lq l1;have m3:min q.length y.length<=4000:=by omega
   have e3:nL j*Tg<=4*500:=KaM n3 n2;refine rh (K:=140000) (E:=5000) (o.sq.PB.mono ?_ (by omega)) ((h.hg.c y hy).1.PB.mono ?_ ?_) (by omega) (by omega) (by omega) (by omega) (Kay (Kaf _ m3) (by decide+kernel)) (by omega)
   ·have:=(jb h.hj);omega
   ·have:=(jb h.hj);omega
   ·have:=(jb h.hj);omega
  ·intro y hy z hz;obtain⟨c1,c2,c3,c4⟩:=o.Lb h hy hz;exact GA c1 c2 (by omega) (by omega) (by omega) (by omega) (by omega)
theorem agi(h:fm m j Tf Tg v f g):Qc Tryz.prog 36 [PV.el f,PV.el g,.int .i64 v] (· = .au [PV.el (fH f g).1,.int .i64 (fH f g).2]):=by
 obtain⟨n1,n2,n3,n4,n5,n6,n7,n8,n9⟩:=h.num;obtain⟨g1,g2⟩:=h.Ue;have qG:=h.hd;have hm:=h.hm;have hfk:=h.hf.k;have xY:=h.hg.k;have hD:=Qyd (f:=f.1) (g:=g.1) (v:=v) (d:=(Q3 g.1 v).toNat) (N:=(Q3 f.1 v).toNat+1) (K:=115200) (E:=2500) (M:=4000) h.hf.n h.hg.n (g1.mono (by omega) (by omega)) (by have:=h.hv;omega) (ru (by have:=h.mg;omega)) n6.symm (by omega) h.hf.l
  (fun k hk=>h.Ww _ k (by omega)) h.hg.len (by omega) (by omega) (by omega) (by omega) (by omega) (by omega) (by omega) (by omega)
 rw[Pa h]at hD;unfold fH;cases hd:qy f.1 g.1 with
 |none=>rw[hd,H9]at hD;exact XK hD
 | some d=>
  obtain⟨q,r,n⟩:=d;have o:=h.out hd;rw[hd,Ia]at hD;have hn:=o.nn.2;obtain⟨i1,i2,i3,i4⟩:=o.ni;have pL:=o.pw h;have qS:=pL n (Kac _);refine adP (by omega) (by omega) hD (Qwz g1 h.hg.n (by have:=h.hg.len;omega) (by omega) (by omega)) (abL (K:=92200) (E:=2000) (L:=4000) (by omega) (i3.PB.mono ?_ (by omega)) i2 (fun i hi=>⟨(pL i hi).1,by have:=(pL i hi).2;omega⟩) i4 (by omega) (by omega) (by omega)) ?_ ?_ ?_ (G2 (o.pri h)).1 (G2 (o.pri h)).2
  ·have:=(jb h.hj).1;omega
  ·intro y hy;have l1:=qd (h.hf.c y hy).2.2;have m1:y.length*(cF (cy g.1) n).length<=4000*2001:=KaM l1 qS.2;have:=rj (K:=140000) (E:=5000) (qS.1.mono (by omega) (by omega)) ((h.hf.c y hy).1.PB.mono (by have:=(jb h.hj);omega) (by have:=(jb h.hj);omega)) (wU i2 n).z (h.hf.c y hy).2.1.z (by omega) (by omega) (by omega) (by omega) (Kay (Nat.add_le_add_right (Kaf _ l1) _) (by decide+kernel))
   rwa[uQ (wU i2 n) (h.hf.c y hy).2.1]at this
  ·intro y hy;have l1:=qd (h.hg.c y hy).2.2;have lq:=o.lq;have m1:y.length*q.length<=4000*4000:=KaM l1 o.lq;have e3:nL j*Tg<=4*500:=KaM n3 n2;have:=rj (K:=140000) (E:=5000) (o.sq.PB.mono (by have:=(jb h.hj);omega) (by omega)) ((h.hg.c y hy).1.PB.mono (by have:=(jb h.hj);omega) (by have:=(jb h.hj);omega)) o.nq.z (h.hg.c y hy).2.1.z (by omega) (by omega) (by omega) (by omega) (Kay (Nat.add_le_add_right (Kaf _ l1) _) (by decide+kernel))
   rwa[uQ o.nq (h.hg.c y hy).2.1]at this
  ·intro y hy z hz;obtain⟨c1,c2,c3,c4⟩:=o.Lb h hy hz;obtain⟨_,_,_,m2⟩:=o.DT h hy hz;exact Ck c1 c2 m2.z (by omega) (by omega) (by omega) (by omega) (by omega)
end
end Go.Proofs.YtdjoomkeehihmaaGreat
namespace Go.Proofs.YtdjoomkeehihmaaGreat
open Go Go.FW
theorem Pb{l:List (List Tm×List (List Tm))}{v K E:Nat}(hv:v<64)(hp:∀x∈l,PB K E x.1/\x.1.length<=2^30)(hK:K<=2^33)(hE:E<=2^38)(hl:l.length<=100):
  Qc Tryz.prog 28 [.sl 2 (l.map PV.el),.int .i64 v] (· = .au [.int .i64 (cD l v).1,.int .i64 (cD l v).2]):=by
 refine Qf Qj Tryz.func28 rfl ajl (by simp[JX]) fun C hP=>?_;simp only[JX,Zo,Zg,Zm,Zc,Zf,Zl,Zh,Zs,Zi,Zb,Zk,Zn,Zu,Zq,Zr,Zz];refine Sz0 ?_;refine Qz (by repeat (first|exact Qs|exact Ql|exact Qm|exact Qn|exact Qo|apply Qk|apply Qr|apply Qx|apply Q4|apply Q5|apply Qi|apply Q2)) [(6,11),(14,60)] [9] (fun m J hp=>∃i,m=l.length-i/\i<=l.length/\J 6= .int .i64 (iv l v i).1/\J 7= .int .i64 (iv l v i).2/\J 14= .int .i64 (i:Nat)) l.length ?_ ?_
 ·refine⟨0,rfl,by omega,?_⟩;refine Sz0 ?_
  try (first|rfl|exact⟨rfl,rfl⟩|exact⟨rfl,rfl,rfl⟩)
 rintro _ J h ⟨i,rfl,hi,j6,j7,fA⟩;obtain⟨s1,s2,s3⟩:=Dq l v i;have cS:=CO l v i;generalize aF:iv l v i=st at *
 obtain⟨at_,n⟩:=st;simp only at s1 s2 s3 j6 j7;by_cases c1:i<l.length
 ·have d1:decide ((i:Int)<(l.length:Int))=true:=decide_eq_true (by omega);obtain⟨b1,b2⟩:=hp _ (Kah c1);have hm:=wD b1 (by omega:_<=2^36);have en:l.getD i default=l[i]:=by simp[c1]
  unfold xj at cS;rw[en]at cS;generalize hx:l[i]=x at *
  refine Sz3 fA d1 hx ?_;refine Qa hP hm rfl rfl rfl ?_;by_cases e1:Qv x.1=v
  ·have q1:decide (¬Qv x.1=(v:Int))=false:=decide_eq_false fun h=>h e1;have sE:(!decide (Qv x.1=(v:Int)))=false:=by simp[e1]
   rw[if_neg (by simpa using e1)]at cS;by_cases e2:at_<0
   ·have q2:decide (at_<0)=true:=decide_eq_true e2;simp only[e2,if_true]at cS;refine Sz8 j6 j7 fA d1 hx q1 sE q2 ?_;refine Qh (l.length-(i+1)) (by omega) ⟨i+1,rfl,by omega,?_⟩;rw[cS];refine Sz2 j6 j7 ?_
    try (first|rfl|trivial|exact⟨rfl,rfl⟩|exact⟨rfl,rfl,rfl⟩)
   ·have q2:decide (at_<0)=false:=decide_eq_false e2;simp only[e2,if_false]at cS;obtain⟨a,rfl⟩:∃a:Nat,at_=a:=⟨at_.toNat,by omega⟩
    have ha:a<l.length:=by omega
    obtain⟨b3,b4⟩:=hp _ (Kah ha);have LX:l.getD ((a:Int)).toNat default=l[a]:=by simp[ha]
    rw[LX]at cS;generalize hy:l[a]=y at *
    have fw:=uy (v:=(v:Int)) b1 (by omega:_<=2^36);have gf:=uy (v:=(v:Int)) b3 (by omega:_<=2^36);rw[mA]at fw gf;have hc:=YG b1 b3 hK hE (by omega) (by omega);unfold xE at cS;generalize Q3 x.1 v=dx at *
    generalize Q3 y.1 v=dy at *
    generalize gO x.1 y.1=cv at *
    refine Sz9 j6 j7 fA d1 hx hy q1 sE q2 ?_;refine Qa hP fw rfl rfl rfl ?_;refine Sz0 ?_;refine Qa hP gf rfl rfl rfl ?_;by_cases e3:dx<dy
    ·have q3:decide (dx<dy)=true:=decide_eq_true e3;rw[q3]at cS;simp only[KcL,if_true]at cS;refine Sz7 j6 j7 fA d1 hx hy q3 ?_;refine Qh (l.length-(i+1)) (by omega) ⟨i+1,rfl,by omega,?_⟩;rw[cS];refine Sz2 j6 j7 ?_
     try (first|rfl|trivial|exact⟨rfl,rfl⟩|exact⟨rfl,rfl,rfl⟩)
    have q3:decide (dx<dy)=false:=decide_eq_false e3;rw[q3]at cS;simp only[Kcm]at cS;by_cases e4:dx=dy
    ·have q4:decide (dx=dy)=true:=decide_eq_true e4;rw[q4]at cS;simp only[KbY]at cS;refine Sz8 j6 j7 fA d1 hx hy q3 q4 ?_;refine Qa hP hc rfl rfl rfl ?_;by_cases e5:cv<0
     ·have q5:decide (cv<0)=true:=decide_eq_true e5;simp only[q5,if_true]at cS;refine Sz9 j6 j7 fA d1 hx hy q3 q4 q5 ?_;refine Qh (l.length-(i+1)) (by omega) ⟨i+1,rfl,by omega,?_⟩;rw[cS];refine Sz2 j6 j7 ?_
      try (first|rfl|trivial|exact⟨rfl,rfl⟩|exact⟨rfl,rfl,rfl⟩)
     ·have q5:decide (cv<0)=false:=decide_eq_false e5;simp only[q5,KaL,if_false]at cS;refine Sz9 j6 j7 fA d1 hx hy q3 q4 q5 ?_;refine Qh (l.length-(i+1)) (by omega) ⟨i+1,rfl,by omega,?_⟩;rw[cS];refine Sz2 j6 j7 ?_
      try (first|rfl|trivial|exact⟨rfl,rfl⟩|exact⟨rfl,rfl,rfl⟩)
    ·have q4:decide (dx=dy)=false:=decide_eq_false e4;simp only[q4,Kc5,KaL,if_false]at cS;refine Sz8 j6 j7 fA d1 hx hy q3 q4 ?_;refine Qh (l.length-(i+1)) (by omega) ⟨i+1,rfl,by omega,?_⟩;rw[cS];refine Sz2 j6 j7 ?_
     try (first|rfl|trivial|exact⟨rfl,rfl⟩|exact⟨rfl,rfl,rfl⟩)
  ·have q1:decide (¬Qv x.1=(v:Int))=true:=decide_eq_true e1;have sE:(!decide (Qv x.1=(v:Int)))=true:=by simp[e1]
   rw[if_pos (by simpa using e1)]at cS;refine Sz7 j6 j7 fA d1 hx q1 sE ?_;refine Qh (l.length-(i+1)) (by omega) ⟨i+1,rfl,by omega,?_⟩;rw[cS];refine Sz2 j6 j7 ?_
   try (first|rfl|trivial|exact⟨rfl,rfl⟩|exact⟨rfl,rfl,rfl⟩)
 ·obtain rfl:i=l.length:=by omega
  have d1:decide ((l.length:Int)<(l.length:Int))=false:=decide_eq_false (by omega);refine Sz4 j6 j7 fA d1 ?_;exact fb (by unfold cD;rw[aF]) rfl rfl (Qw _) (Qw _)
def aV(l:List aB)(v:Nat):Nat:=(cD l v).1.toNat
def dt(l:List aB)(v:Nat)(x:aB):aB:=(fH x (l.getD (aV l v) default)).1
def mG(l:List aB)(v i:Nat):Int:=if i=aV l v∨Qv (l.getD i default).1≠v then 0 else(fH (l.getD i default) (l.getD (aV l v) default)).2
def o4(p:Nat->Bool):Nat->Nat->Nat
 |0,i=>i
 |n+1,i=>if p i then i else o4 p n (i+1)
theorem Gk(p:Nat->Bool):∀n i,i<=o4 p n i/\o4 p n i<=i+n/\(∀j,i<=j->j<o4 p n i->p j=false)/\(o4 p n i<i+n->p (o4 p n i)=true)
 |0,i=>⟨Kac _,Kac _,fun j h1 h2=>absurd h2 (by simp[o4];omega),fun h=>absurd h (by simp[o4])⟩
 | n+1,i=>by
  rw[o4];cases h:p i
  ·obtain⟨h1,h2,h3,h4⟩:=Gk p n (i+1);simp only[KaL,if_false];refine⟨by omega,by omega,fun j hj1 vN=>?_,fun h=>h4 (by omega)⟩;by_cases e:j=i
   ·subst e;exact h
   ·exact h3 j (by omega) vN
  ·simp only[if_true];exact⟨Kac _,by omega,fun j h1 h2=>by omega,fun _=>h⟩
def eS(l:List aB)(v:Nat):Nat:=o4 (fun i=>decide (mG l v i≠0)) l.length 0
theorem sM(l:List aB)(v:Nat):eS l v<=l.length/\(∀i,i<eS l v->mG l v i=0)/\(eS l v<l.length->mG l v (eS l v)≠0):=by
 obtain⟨h1,h2,h3,h4⟩:=Gk (fun i=>decide (mG l v i≠0)) l.length 0;refine⟨by unfold eS;omega,fun i hi=>?_,fun h=>?_⟩
 ·have:=h3 i (by omega) hi;simpa using this
 ·have:=h4 (by unfold eS at h;omega);simpa[eS]using this
def gV(l:List aB)(v:Nat):List aB:=eB l (aV l v) v (dt l v) l.length
structure oT(l:List aB):Prop where
 len:l.length<=100
 el:∀x∈l,PB 115300 2500 x.1/\aC x.1/\x.1.length<=4000/\0<x.1.length
structure tw(v:Nat)(l:List aB):Prop where
 lb:oT l
 hv:v<64
 bP:aV l v<l.length
 Lf:(cD l v).1=(aV l v:Nat)
 dv:∀i (h:i<l.length),i≠aV l v->Qv l[i].1=v->∃m j Tf Tg,fm m j Tf Tg v l[i] l[aV l v]
inductive fh(v:Nat):Nat->List aB->Except Int (List aB)->Prop
 |stop {l:List aB}:oT l->(cD l v).2<=1->fh v 0 l (.ok l)
 |fail {l:List aB}:tw v l->2<=(cD l v).2->eS l v<l.length->fh v 0 l (.error (mG l v (eS l v)))
 |step {l:List aB} {n:Nat} {o:Except Int (List aB)}:tw v l->2<=(cD l v).2->eS l v=l.length->fh v n (gV l v) o->fh v (n+1) l o
inductive Mk:Nat->List aB->Except Int (List aB)->Prop
 |done {l:List aB}:oT l->Mk 0 l (.ok l)
 |bad {v n:Nat} {l:List aB} {e:Int}:v<64->fh v n l (.error e)->Mk (v+1) l (.error e)
 |next {v n:Nat} {l l':List aB} {o:Except Int (List aB)}:v<64->fh v n l (.ok l')->Mk v l' o->Mk (v+1) l o
theorem fh.wa{v n:Nat}{l:List aB}{o:Except Int (List aB)}(h:fh v n l o):oT l:=by
 cases h with
 |stop h _=>exact h
 |fail h _ _=>exact h.lb
 |step h _ _ _=>exact h.lb
theorem Mk.wa{v:Nat}{l:List aB}{o:Except Int (List aB)}(h:Mk v l o):oT l:=by
 cases h with
 |done h=>exact h
 |bad _ h=>exact h.wa
 |next _ h _=>exact h.wa
theorem Pc{l:List aB}(h:oT l){v:Nat}(hv:v<64):Qc Tryz.prog 34 [PV.cd l,.int .i64 v] (· = .au [.int .i64 (cD l v).1,.int .i64 (cD l v).2]):=
 Ye (K:=115300) (E:=2500) hv (fun x hx=>⟨(h.el x hx).1,(h.el x hx).2.1,by have:=(h.el x hx).2.2.1;omega⟩) (by omega) (by omega) h.len
theorem FL{l:List aB}(h:oT l){v:Nat}(hv:v<64):Qc Tryz.prog 28 [PV.cd l,.int .i64 v] (· = .au [.int .i64 (cD l v).1,.int .i64 (cD l v).2]):=
 Pb (K:=115300) (E:=2500) hv (fun x hx=>⟨(h.el x hx).1,by have:=(h.el x hx).2.2.1;omega⟩) (by omega) (by omega) h.len
def gw(l:List aB)(v:Nat):Option aB:=if 0<=(cD l v).1 then some (l.getD (aV l v) default)else none
def rN(l:List aB):List aB:=(List.range 64).filterMap (gw l)
def vj:Except Int (List aB)->PV
 |.ok l=>.au [PV.cd (rN l),.int .i64 0]
 |.error e=>.au [PV.cd [],.int .i64 e]
theorem fO{l:List aB}{i:Nat}(h:i<l.length):l.getD i default=l[i]:=by simp[h]
theorem tw.err{v:Nat}{l:List aB}(_h:tw v l){i:Nat}(hi:i<l.length)(h1:i≠aV l v)(h2:Qv l[i].1=v):mG l v i=(fH l[i] (l.getD (aV l v) default)).2:=by unfold mG;rw[fO hi,if_neg (by simp[h1,h2])]
theorem P7{v:Nat}{l:List aB}(h:tw v l):Qc Tryz.prog 29 [PV.cd l,.int .i64 (aV l v:Nat),.int .i64 v] (· =if eS l v=l.length then .au [PV.cd (gV l v),.int .i64 0]else .au [PV.cd [],.int .i64 (mG l v (eS l v))]):=by
 obtain⟨b1,b2,b3⟩:=sM l v;have bP:=h.bP;refine N8 (K:=115300) (E:=2500) (bad:=eS l v) (er:=mG l v (eS l v)) (R:=dt l v) h.lb.len h.bP (fun x hx=>⟨(h.lb.el x hx).1,by have:=(h.lb.el x hx).2.2.1;omega⟩) b1 (fun i hi gD h1 h2=>?_) (fun hb=>?_)
 ·obtain⟨m,j,Tf,Tg,hD⟩:=h.dv i hi h1 h2;have hs:=P6 hD;have he:=b2 i gD;rw[h.err hi h1 h2,fO h.bP]at he;rw[he]at hs;have bP:=h.bP;have hR:dt l v l[i]=(fH l[i] l[aV l v]).1:=by unfold dt;rw[fO h.bP]
  rw[hR];refine⟨hs,?_⟩;unfold fH at he⊢;cases hd:qy l[i].1 l[aV l v].1 with
  |none=>simp
  |some d=>obtain⟨q,r,n⟩:=d;have o:=hD.out hd;have:=(o.pri hD).x.2.2.1;show(di r _).1.length<=_;omega
 ·have he:=b3 hb;have aP:¬(eS l v=aV l v∨Qv (l.getD (eS l v) default).1≠v):=fun hc=>he (by unfold mG;rw[if_pos hc]);rw[fO hb]at aP;simp only[not_or,Decidable.not_not]at aP;obtain⟨m,j,Tf,Tg,hD⟩:=h.dv _ hb aP.1 aP.2;refine⟨aP.1,aP.2,he,?_⟩;have hs:=P6 hD;have e2:=h.err hb aP.1 aP.2;rw[fO h.bP]at e2;rw[<-e2]at hs;unfold yq at hs
  rwa[if_neg he]at hs
def dw(v:Nat)(x:aB):Bool:=decide (Qv x.1=(v:Int))
def dC(v:Int)(x:aB):Bool:=decide (v<Qv x.1)
theorem C9(l:List aB)(v:Nat):∀i,i<=l.length->(iv l v i).2=(l.take i).countP (dw v)/\((iv l v i).2=0->(iv l v i).1= -1)/\
  (0<(iv l v i).2->∃a:Nat,(iv l v i).1=a/\a<i/\Qv (l.getD a default).1=v/\∀k,k<i->Qv (l.getD k default).1=v->Q3 (l.getD a default).1 v<=Q3 (l.getD k default).1 v)
 |0,_=>by simp[iv]
 | i +1,h=>by
  have hi:i<l.length:=by omega
  obtain⟨h1,h2,h3⟩:=C9 l v i (by omega);have hc:(l.take (i+1)).countP (dw v)=(l.take i).countP (dw v)+if Qv (l.getD i default).1=v then 1 else 0:=by rw[Kag hi,KcG,List.countP_singleton,fO hi];simp[dw]
  rw[hc,CO];generalize iv l v i=st at *
  obtain⟨at_,n⟩:=st;simp only at h1 h2 h3;unfold xj;by_cases e:Qv (l.getD i default).1=v
  ·rw[if_neg (by simpa using e),if_pos e];have AQ:∀k,k<i+1->k<i∨k=i:=fun k hk=>by omega
   by_cases e2:at_<0
   ·simp only[e2,if_true];have lV:n=0:=by apply Decidable.byContradiction;intro hn;obtain⟨a,ha,_⟩:=h3 (by omega);omega
    refine⟨by omega,fun h=>by omega,fun _=>⟨i,rfl,by omega,e,fun k hk hm=>?_⟩⟩;rcases AQ k hk with hk|rfl
    ·exfalso;have:0<(l.take i).countP (dw v):=List.countP_pos_iff.2 ⟨l[k],List.mem_take_iff_getElem.2 ⟨k,by omega,rfl⟩,by rw[fO (by omega)]at hm;simp[dw,hm]⟩;omega
    ·exact KcH _
   ·have hn:0<n:=by apply Decidable.byContradiction;intro hn;have:=h2 (by omega);omega
    obtain⟨a,ha,a1,a2,a3⟩:=h3 hn;subst ha;simp only[e2,if_false,KbM];by_cases e3:xE v (l.getD i default).1 (l.getD a default).1=true
    ·rw[if_pos e3];refine⟨by simp only;omega,fun h=>by simp only at h;omega,fun _=>⟨i,rfl,by omega,e,fun k hk hm=>?_⟩⟩;simp only[xE,KbS,Kat,decide_eq_true_eq]at e3;rcases AQ k hk with hk|rfl
     ·have:=a3 k hk hm;omega
     ·exact KcH _
    ·rw[if_neg e3];refine⟨by simp only;omega,fun h=>by simp only at h;omega,fun _=>⟨a,rfl,by omega,a2,fun k hk hm=>?_⟩⟩;simp only[xE,KbS,Kat,decide_eq_true_eq]at e3;rcases AQ k hk with hk|rfl
     ·exact a3 k hk hm
     ·omega
  ·rw[if_pos e,if_neg e];refine⟨by omega,h2,fun hn=>?_⟩;obtain⟨a,ha,a1,a2,a3⟩:=h3 hn;refine⟨a,ha,by omega,a2,fun k hk hm=>?_⟩;by_cases ek:k=i
   ·subst ek;exact absurd hm e
   ·exact a3 k (by omega) hm
theorem zk(l:List aB)(v:Nat):(cD l v).2=l.countP (dw v):=by
 have:=(C9 l v l.length (Kac _)).1
 rwa[Kas]at this
theorem wY{l:List aB}{v:Nat}(h:1<=(cD l v).2):(cD l v).1=(aV l v:Nat)/\∃ha:aV l v<l.length,Qv l[aV l v].1=v/\∀x∈l,Qv x.1=v->Q3 l[aV l v].1 v<=Q3 x.1 v:=by
 obtain⟨a,ha,a1,a2,a3⟩:=(C9 l v l.length (Kac _)).2.2 h;have e:aV l v=a:=by unfold aV cD;rw[ha];rfl
 rw[e];refine⟨ha,a1,by rwa[fO a1]at a2,fun x hx hm=>?_⟩;obtain⟨k,hk,rfl⟩:=Kbd hx;have:=a3 k hk (by rwa[fO hk])
 rwa[fO a1,fO hk]at this
theorem Gv{l:List aB}{v:Nat}(h:(cD l v).2=0):(cD l v).1= -1:=(C9 l v l.length (Kac _)).2.1 h
theorem Ie{l:List aB}{v:Nat}{y:aB}(h:y∈gV l v)(hb:eS l v=l.length)(bP:aV l v<l.length):(y∈l/\(Qv y.1≠v∨y=l[aV l v]))∨∃i,∃hi:i<l.length,i≠aV l v/\Qv l[i].1=v/\y=(fH l[i] l[aV l v]).1/\(fH l[i] l[aV l v]).2=0/\0<y.1.length:=by
 unfold gV eB at h;obtain⟨i,hi,hy⟩:=Kaq.1 h;have hi:i<l.length:=Kco.1 hi;have he:=(sM l v).2.1 i (by omega);unfold mB at hy;unfold mG at he;unfold dt at hy;rw[fO hi]at hy he;rw[fO bP]at hy he;split at hy
 ·rename_i hc;rw[KaP]at hy;subst hy;refine .inl ⟨Kah _,?_⟩;rcases hc with rfl|hc
  ·exact .inr rfl
  ·exact .inl hc
 ·rename_i hc;rw[if_neg hc]at he;simp only[not_or,Decidable.not_not]at hc;split at hy
  ·rename_i hl;rw[KaP]at hy;subst hy;exact .inr ⟨i,hi,hc.1,hc.2,rfl,he,hl⟩
  ·cases hy
theorem agj(l:List aB)(v:Nat):(gV l v).length<=l.length:=Di _ _ _ _ _
theorem G3(l:List aB)(at_ v:Nat)(R:aB->aB)(i:Nat):eB l at_ v R (i+1)=eB l at_ v R i++mB l at_ v R i:=by unfold eB;rw[KbZ,Kb4];simp
theorem yO{l:List aB}{v i:Nat}(hi:i<l.length)(h:i=aV l v∨Qv l[i].1≠v):mB l (aV l v) v (dt l v) i=[l[i]]:=by unfold mB;rw[fO hi,if_pos h]
theorem Sj{l:List aB}{v i:Nat}(hi:i<l.length)(h1:i≠aV l v)(h2:Qv l[i].1=v):mB l (aV l v) v (dt l v) i=if 0<(dt l v l[i]).1.length then [dt l v l[i]]else []:=by unfold mB;rw[fO hi,if_neg (by simp[h1,h2])]
theorem ajG{l:List aB}{v:Nat}(bP:aV l v<l.length)(hm:Qv l[aV l v].1=v):l.countP (dC v)+1<=(gV l v).countP (dC ((v:Int)-1))/\l.countP (dC v)<=(gV l v).countP (dC v):=by
 have key:∀i,i<=l.length->(l.take i).countP (dC v)+(if aV l v<i then 1 else 0)<=(eB l (aV l v) v (dt l v) i).countP (dC ((v:Int)-1))/\(l.take i).countP (dC v)<=(eB l (aV l v) v (dt l v) i).countP (dC v):=by
  intro i;induction i with
  |zero=>intro _;simp
  | succ i ih=>
   intro hi;have dm:i<l.length:=by omega
   obtain⟨MA,Fa⟩:=ih (by omega);have hx:∀(q:aB->Bool)(x:aB),[x].countP q=if q x=true then 1 else 0:=fun q x=>List.countP_singleton
   rw[Kag dm,G3,KcG,KcG,KcG,hx];by_cases e1:i=aV l v
   ·have e2:Qv l[i].1=v:=by subst e1;exact hm
    rw[yO dm (.inl e1),hx,hx];have g1:dC v l[i]=false:=by unfold dC;exact decide_eq_false (by omega)
    have g2:dC ((v:Int)-1) l[i]=true:=by unfold dC;exact decide_eq_true (by omega)
    rw[g1,g2];rw[if_neg (by omega)]at MA;have e3:(if aV l v<i+1 then 1 else 0)=1:=if_pos (by omega);rw[e3];simp only[KaL,if_false,if_true];omega
   ·have ar:(if aV l v<i+1 then 1 else 0)=(if aV l v<i then 1 else 0):=by
     by_cases h:aV l v<i
     ·rw[if_pos h,if_pos (by omega)]
     ·rw[if_neg h,if_neg (by omega)]
    rw[ar];by_cases e2:Qv l[i].1=v
    ·have g1:dC v l[i]=false:=by unfold dC;exact decide_eq_false (by omega)
     rw[g1];simp only[KaL,if_false];omega
    ·rw[yO dm (.inr e2),hx,hx];have g:dC v l[i]=dC ((v:Int)-1) l[i]:=by simp only[dC,decide_eq_decide];omega
     rw[<-g];omega
 have:=key l.length (Kac _);rw[Kas,if_pos bP]at this;exact this
theorem agk{l:List aB}{v:Nat}(h:∀i (hi:i<l.length),i≠aV l v->Qv l[i].1=v->Qv (dt l v l[i]).1≠v):(gV l v).countP (dw v)<=1:=by
 have key:∀i,i<=l.length->(eB l (aV l v) v (dt l v) i).countP (dw v)<=if aV l v<i then 1 else 0:=by
  intro i;induction i with
  |zero=>intro _;simp[eB]
  | succ i ih=>
   intro hi;have dm:i<l.length:=by omega
   have ih:=ih (by omega);have hx:∀(q:aB->Bool)(x:aB),[x].countP q=if q x=true then 1 else 0:=fun q x=>List.countP_singleton
   rw[G3,KcG];by_cases e1:i=aV l v
   ·have e3:(if aV l v<i+1 then 1 else 0)=1:=if_pos (by omega);rw[yO dm (.inl e1),hx,e3];rw[if_neg (by omega)]at ih;split<;>omega
   ·have ar:(if aV l v<i+1 then 1 else 0)=(if aV l v<i then 1 else 0):=by
     by_cases h:aV l v<i
     ·rw[if_pos h,if_pos (by omega)]
     ·rw[if_neg h,if_neg (by omega)]
    rw[ar];by_cases e2:Qv l[i].1=v
    ·have:=h i dm e1 e2;rw[Sj dm e1 e2];have g:dw v (dt l v l[i])=false:=by unfold dw;exact decide_eq_false this
     split
     ·rw[hx,g];simpa using ih
     ·simpa using ih
    ·have g:dw v l[i]=false:=by unfold dw;exact decide_eq_false e2
     rw[yO dm (.inr e2),hx,g];simpa using ih
 have:=key l.length (Kac _);unfold gV;split at this<;>omega
theorem Ig{l:List aB}{v i:Nat}(hi:i<l.length)(h1:i≠aV l v)(h2:Qv l[i].1=v)(h3:0<(dt l v l[i]).1.length):dt l v l[i]∈gV l v:=by unfold gV eB;refine Kaq.2 ⟨i,Kco.2 hi,?_⟩;unfold mB;rw[fO hi,if_neg (by simp[h1,h2]),if_pos h3];simp
theorem ZV{l:List aB}{v u:Nat}(huv:v<u)(h:∀i (hi:i<l.length),i≠aV l v->Qv l[i].1=v->Qv (dt l v l[i]).1<=v)(hm:∀bP:aV l v<l.length,Qv l[aV l v].1=v):(gV l v).filter (dw u)=l.filter (dw u):=by
 have key:∀i,i<=l.length->(eB l (aV l v) v (dt l v) i).filter (dw u)=(l.take i).filter (dw u):=by
  intro i;induction i with
  |zero=>intro _;simp[eB]
  | succ i ih=>
   intro hi;have dm:i<l.length:=by omega
   rw[G3,List.filter_append,ih (by omega),Kag dm,List.filter_append];congr 1;by_cases hc:i=aV l v∨Qv l[i].1≠v
   ·rw[yO dm hc]
   ·simp only[not_or,Decidable.not_not]at hc;rw[Sj dm hc.1 hc.2];have g:dw u l[i]=false:=by simp[dw,hc.2];omega
    have:=h i dm hc.1 hc.2;have g2:dw u (dt l v l[i])=false:=by simp[dw];omega
    split
    ·simp[g,g2]
    ·simp[g]
 have:=key l.length (Kac _)
 rwa[Kas]at this
theorem ZW{p:List Tm}(c:FW.Can p)(a:Rat)(v:Nat){d:Int}(hd:0<=d)(h:p=[]∨Q3 p v<d):Q3 (ch p a) v<d:=by
 refine O3 (fun t ht=>?_) hd;unfold ch at ht;split at ht
 ·cases ht
 ·obtain⟨s,hs,e⟩:=yT ht;rw[e,uP (c s hs)];rcases h with rfl|h
  ·cases hs
  ·have:=(rq p v).2.1 s hs;omega
theorem G8{p:List Tm}{v:Nat}(h:ML (v+1) p):Qv p<=v:=by
 rcases(wO p).2.2 with e|⟨t,ht,e⟩
 ·omega
 ·have:=h t ht;omega
theorem fm.new{m j Tf Tg v:Nat}{f g:aB}(h:fm m j Tf Tg v f g)(he:(fH f g).2=0){T:Nat}(hT:∀n:Nat,(n:Int)<=Q3 f.1 v-Q3 g.1 v+1->n<=nL j->(Tf:Int)+n*((Tg:Int)-Q3 g.1 v)<=T):
  Lv m (j+1) T (fH f g).1/\((fH f g).1.1=[]∨0<=Qv (fH f g).1.1)/\Qv (fH f g).1.1<=v/\Q3 (fH f g).1.1 v<Q3 g.1 v:=by
 obtain⟨_,_,_,_,n5,_⟩:=h.num;unfold fH at he⊢;cases hd:qy f.1 g.1 with
 |none=>rw[hd]at he;cases he
 | some d=>
  obtain⟨q,r,n⟩:=d;have o:=h.out hd;rw[hd]at he;simp only at he⊢;obtain⟨k1,k2⟩:=h.next o (hT n o.nn.1 o.nn.2) he;refine⟨k1,?_,G8 (o.mv.wj o.nr.c _),ZW o.nr.c _ v (by omega) o.dr⟩;rcases k2 with rfl|k2
  ·left;show ch [] (fa [])=[]
   exact wP _
  ·exact .inr k2
structure qA(m:Nat)(x:aB):Prop where
 lv:Lv m 6 2500 x
 pos:0<=Qv x.1
theorem xk{m:Nat}{l:List aB}(hl:l.length<=3)(h:∀x∈l,qA m x):oT l:=by refine⟨by omega,fun x hx=>?_⟩;have hf:=h x hx;have h6:=M';exact⟨hf.lv.pb.mono (by omega) (Kac _),hf.lv.n,hf.lv.len,Kbq.2 (ru hf.pos)⟩
theorem Lv.fin{m j T:Nat}{x:aB}(h:Lv m j T x)(hj:j<=6)(hT:T<=2500)(hp:0<=Qv x.1):qA m x:=⟨(h.to hj).deg hT,hp⟩
theorem Lv.ME{m j T:Nat}{x:aB}(h:Lv m j T x):Qv x.1<=2:=by have:=G8 (p:=x.1) (v:=2) h.v;omega
structure oC(m:Nat)(v:Int)(j T:Nat)(l:List aB):Prop where
 len:l.length<=3
 fin:∀x∈l,qA m x
 act:∀x∈l,Qv x.1<=v->Lv m j T x
theorem G9{m v j T T':Nat}{l:List aB}(hm:m<=3)(h:oC m v j T l)(hj:j<=5)(hT:T<=tL j)(hTT:T<=T')(hT':T'<=2500)(oJ:v=2->j<=1)(hc:2<=(cD l v).2)(hd:∀x∈l,Qv x.1=v->Q3 x.1 v<=nL j)
  (hTn:∀(n:Nat)(df dg:Int),df<=nL j->dg<=df->1<=dg->(∀x∈l,Qv x.1=v->dg<=Q3 x.1 v)->(∃x∈l,Qv x.1=v/\Q3 x.1 v=dg)->(n:Int)<=df-dg+1->n<=nL j->(T:Int)+n*((T:Int)-dg)<=T'):
  tw v l/\(eS l v=l.length->oC m v (j+1) T' (gV l v)/\l.countP (dC v)+1<=(gV l v).countP (dC ((v:Int)-1))/\l.countP (dC v)<=(gV l v).countP (dC v)/\
   (∀i (hi:i<l.length),i≠aV l v->Qv l[i].1=v->0<(dt l v l[i]).1.length->∀x∈l,Qv x.1=v->Q3 (dt l v l[i]).1 v<Q3 x.1 v)/\
   (∀y∈gV l v,Qv y.1=v->y∈l∨∀x∈l,Qv x.1=v->Q3 y.1 v<Q3 x.1 v)):=by
 obtain⟨e1,bP,a2,a3⟩:=wY (l:=l) (v:=v) (by omega);have sn:v<=2:=by have:=(h.act _ (Kah bP) (by omega)).ME;omega
 have hD:∀i (hi:i<l.length),i≠aV l v->Qv l[i].1=v->fm m j T T v l[i] l[aV l v]:=fun i hi h1 h2=>
  ⟨hj,h.act _ (Kah hi) (by omega),h.act _ (Kah bP) (by omega),hT,hT,h2,a2,sn,oJ,hd _ (Kah hi) h2,a3 _ (Kah hi) h2,hm⟩
 have hG:tw v l:=⟨xk h.len h.fin,by omega,bP,e1,fun i hi h1 h2=>⟨m,j,T,T,hD i hi h1 h2⟩⟩
 refine⟨hG,fun hb=>?_⟩;obtain⟨c1,c2⟩:=ajG bP a2;have hRe:∀i (hi:i<l.length),dt l v l[i]=(fH l[i] l[aV l v]).1:=fun i hi=>by unfold dt;rw[fO bP]
 have rZ:∀i (hi:i<l.length),i≠aV l v->Qv l[i].1=v->(fH l[i] l[aV l v]).2=0:=fun i hi h1 h2=>by have:=hG.err hi h1 h2;rw[fO bP]at this;rw[<-this];exact(sM l v).2.1 i (by omega)
 have hN:∀i (hi:i<l.length) (h1:i≠aV l v) (h2:Qv l[i].1=v),_:=fun i hi h1 h2=>(hD i hi h1 h2).new (rZ i hi h1 h2) (T:=T') fun n n1 n2=>hTn n _ _ (hd _ (Kah hi) h2) (a3 _ (Kah hi) h2) (CX (h.act _ (Kah bP) (by omega)).pb a2) a3 ⟨_,Kah bP,a2,rfl⟩ n1 n2;refine⟨⟨Kay (agj _ _) h.len,fun y hy=>?_,fun y hy su=>?_⟩,c1,c2,fun i hi h1 h2 _ x hx eZ=>?_,fun y hy Bm=>?_⟩
 ·rcases Ie hy hb bP with⟨iz,_⟩|⟨i,hi,h1,h2,rfl,h4,h5⟩
  ·exact h.fin y iz
  ·obtain⟨k1,k2,_⟩:=hN i hi h1 h2;exact k1.fin (by omega) hT' (k2.resolve_left fun e=>by rw[e]at h5;simp at h5)
 ·rcases Ie hy hb bP with⟨iz,_⟩|⟨i,hi,h1,h2,rfl,h4,h5⟩
  ·exact(h.act y iz su).up.deg hTT
  ·exact(hN i hi h1 h2).1
 ·rw[hRe i hi];have:=(hN i hi h1 h2).2.2.2;have:=a3 x hx eZ;omega
 ·rcases Ie hy hb bP with⟨iz,_⟩|⟨i,hi,h1,h2,rfl,h4,h5⟩
  ·exact .inl iz
  ·right;intro x hx eZ;have:=(hN i hi h1 h2).2.2.2;have:=a3 x hx eZ;omega
structure Ij(m:Nat)(v:Int)(l:List aB):Prop where
 s:oC m v 2 4 l
 v1:v<=1
 c:1<=l.countP (dC v)
structure TR(m:Nat)(v:Int)(l:List aB):Prop where
 len:l.length<=3
 fin:∀x∈l,qA m x
 c:2<=l.countP (dC v)
theorem Nh(v:Nat):∀l:List aB,l.countP (dC ((v:Int)-1))=l.countP (dC v)+l.countP (dw v)
 | []=>rfl
 | x::l=>by
  have ih:=Nh v l;rw[List.countP_cons,List.countP_cons,List.countP_cons,ih];by_cases h1:(v:Int)<Qv x.1
  ·have g1:dC ((v:Int)-1) x=true:=by unfold dC;exact decide_eq_true (by omega)
   have g2:dC v x=true:=by unfold dC;exact decide_eq_true h1
   have g3:dw v x=false:=by unfold dw;exact decide_eq_false (by omega)
   rw[g1,g2,g3];simp;omega
  ·have g2:dC v x=false:=by unfold dC;exact decide_eq_false h1
   by_cases h2:Qv x.1=v
   ·have g1:dC ((v:Int)-1) x=true:=by unfold dC;exact decide_eq_true (by omega)
    have g3:dw v x=true:=by unfold dw;exact decide_eq_true h2
    rw[g1,g2,g3];simp;omega
   ·have g1:dC ((v:Int)-1) x=false:=by unfold dC;exact decide_eq_false (by omega)
    have g3:dw v x=false:=by unfold dw;exact decide_eq_false h2
    rw[g1,g2,g3];simp
theorem oC.down{m j T j' T':Nat}{v v':Int}{l:List aB}(h:oC m v j T l)(hv:v'<=v)(hj:j<=j')(hT:T<=T'):oC m v' j' T' l:=⟨h.len,h.fin,fun x hx hm=>((h.act x hx (by omega)).to hj).deg hT⟩
theorem oC.pd{m j T v:Nat}{l:List aB}(h:oC m v j T l){x:aB}(hx:x∈l)(hm:Qv x.1=v):1<=Q3 x.1 v/\Q3 x.1 v<=T:=by have hL:=h.act x hx (by omega);exact⟨CX hL.pb hm,(oq hL.pb (ru (by omega)) v).2⟩
theorem PW{l:List aB}{v:Nat}(h:1<=(cD l v).2):∃x∈l,Qv x.1=v:=by obtain⟨_,bP,h2,_⟩:=wY h;exact⟨_,Kah bP,h2⟩
theorem FA{l:List aB}{v:Nat}(h:2<=(cD (gV l v) v).2):∃i,∃hi:i<l.length,i≠aV l v/\Qv l[i].1=v/\Qv (dt l v l[i]).1=v:=by apply Decidable.byContradiction;intro hc;have:=agk (l:=l) (v:=v) fun i hi h1 h2 h3=>hc ⟨i,hi,h1,h2,h3⟩;rw[<-zk]at this;omega
theorem Oe{m v j:Nat}{l:List aB}(hm:m<=3)(hj:j<=1)(h:oC m v j 2 l)(hc:2<=(cD l v).2)(hx:∃x∈l,Qv x.1=v/\Q3 x.1 v<=1):∃n o,fh v n l o/\∀l',o= .ok l'->Ij m ((v:Int)-1) l':=by
 obtain⟨l1,l2⟩:=Na hj;obtain⟨x0,bp,jQ,jA⟩:=hx;have sn:=(h.act x0 bp (by omega)).ME;obtain⟨hG,hR⟩:=G9 (T':=4) hm h (by omega) (by omega) (by omega) (by omega) (fun _=>hj) hc (fun x hx eZ=>by have:=(h.pd hx eZ).2;omega) (fun n df dg h1 h2 h3 h4 h5 h6 h7=>by
  have Ew:=h4 x0 bp jQ;have:dg=1:=by omega
  subst this;have:(n:Int)*(((2:Nat):Int)-1)=n:=by omega
  omega)
 by_cases hb:eS l v=l.length
 ·obtain⟨r1,r2,r3,r4,r5⟩:=hR hb;have jB:(cD (gV l v) v).2<=1:=by apply Decidable.byContradiction;intro EA;obtain⟨i,hi,h1,h2,h3⟩:=FA (l:=l) (v:=v) (by omega);have gS:0<(dt l v l[i]).1.length:=Kbq.2 (ru (by omega));have eo:=Ig hi h1 h2 gS;have:=(r1.pd eo h3).1;have:=r4 i hi h1 h2 gS x0 bp jQ;omega
  refine⟨1,.ok (gV l v),fh.step hG hc hb (fh.stop (xk r1.len r1.fin) jB),fun l' he=>?_⟩;cases he;exact⟨r1.down (by omega) (by omega) (by omega),by omega,by omega⟩
 ·have:=(sM l v).1;exact⟨0,_,fh.fail hG hc (by omega),fun l' he=>by cases he⟩
theorem agl{m v:Nat}{l:List aB}(hm:m<=3)(h:oC m v 0 2 l)(hc:2<=(cD l v).2):∃n o,fh v n l o/\∀l',o= .ok l'->Ij m ((v:Int)-1) l':=by
 by_cases hx:∃x∈l,Qv x.1=v/\Q3 x.1 v<=1
 ·exact Oe hm (by omega) h hc hx
 ·have fU:∀x∈l,Qv x.1=v->2<=Q3 x.1 v:=fun x dZ eZ=>by apply Decidable.byContradiction;intro ar;exact hx ⟨x,dZ,eZ,by omega⟩
  obtain⟨x0,bp,jQ⟩:=PW (l:=l) (v:=v) (by omega);have jA:=(h.pd bp jQ).2;have sn:=(h.act x0 bp (by omega)).ME;obtain⟨hG,hR⟩:=G9 (T':=2) hm h (by omega) (by decide) (by omega) (by omega) (fun _=>by omega) hc (fun x hx eZ=>by have:=(h.pd hx eZ).2;have:nL 0=2:=rfl;omega) (fun n df dg h1 h2 h3 h4 h5 h6 h7=>by
   obtain⟨y,hy,Bm,VW⟩:=h5;have:=fU y hy Bm;have h8:nL 0=2:=rfl;have:dg=2:=by omega
   subst this;have:(n:Int)*(((2:Nat):Int)-2)=0:=by omega
   omega)
  by_cases hb:eS l v=l.length
  ·obtain⟨r1,r2,r3,r4,r5⟩:=hR hb;by_cases jB:(cD (gV l v) v).2<=1
   ·refine⟨1,.ok (gV l v),fh.step hG hc hb (fh.stop (xk r1.len r1.fin) jB),fun l' he=>?_⟩;cases he;exact⟨r1.down (by omega) (by omega) (by omega),by omega,by omega⟩
   ·obtain⟨i,hi,h1,h2,h3⟩:=FA (l:=l) (v:=v) (by omega);have gS:0<(dt l v l[i]).1.length:=Kbq.2 (ru (by omega));have:=r4 i hi h1 h2 gS x0 bp jQ;obtain⟨n,o,hS,ho⟩:=Oe (j:=1) hm (by omega) r1 (by omega) ⟨_,Ig hi h1 h2 gS,h3,by omega⟩;exact⟨n+1,o,fh.step hG hc hb hS,ho⟩
  ·have:=(sM l v).1;exact⟨0,_,fh.fail hG hc (by omega),fun l' he=>by cases he⟩
theorem agm{j:Nat}(h:2<=j):tL (j+1)=tL j+nL j*tL j/\nL j=4:=by rw[tL,if_neg (by omega)];exact⟨rfl,by unfold nL;rw[if_neg (by omega)]⟩
theorem Pd{m v:Nat}(hm:m<=3):∀(k j:Nat)(l:List aB),j+k=6->2<=j->oC m v j (tL j) l->v<=1->1<=l.countP (dC v)->2<=l.countP (dC ((v:Int)-1))->(∀x∈l,Qv x.1=v->Q3 x.1 v<=4)->
  (2<=(cD l v).2->∃x∈l,Qv x.1=v/\Q3 x.1 v<=k)->∃n o,fh v n l o/\∀l',o= .ok l'->TR m ((v:Int)-1) l'
 | k, j,l,hk,hj,h,hv,hg,fI,hd,hx=>by
  by_cases jB:(cD l v).2<=1
  ·refine⟨0,.ok l,fh.stop (xk h.len h.fin) jB,fun l' he=>?_⟩;cases he;exact⟨h.len,h.fin,fI⟩
  ·obtain⟨x0,bp,jQ,jA⟩:=hx (by omega);have aE:=(h.pd bp jQ).1;obtain⟨k,rfl⟩:∃k',k=k'+1:=⟨k-1,by omega⟩
   have UU:j<=5:=by omega
   obtain⟨t1,t2⟩:=agm hj;have hn:=jb UU;obtain⟨hG,hR⟩:=G9 (T':=tL (j+1)) hm h UU (Kac _) (by omega) (by rw[t1];omega) (fun e=>by omega) (by omega) (fun x hx eZ=>by have:=hd x hx eZ;omega) (fun n df dg h1 h2 h3 h4 h5 h6 h7=>by
    rw[t1,t2];have a1:(n:Int)*((tL j:Int)-dg)<=4*(tL j:Int):=by
     by_cases hs:0<=(tL j:Int)-dg
     ·exact Int.le_trans (Int.mul_le_mul_of_nonneg_right (by omega:(n:Int)<=4) hs) (Int.mul_le_mul_of_nonneg_left (by omega) (by omega))
     ·have b1:(n:Int)*((tL j:Int)-dg)<=n*0:=Int.mul_le_mul_of_nonneg_left (by omega) (by omega);omega
    omega)
   by_cases hb:eS l v=l.length
   ·obtain⟨r1,r2,r3,r4,r5⟩:=hR hb;obtain⟨n,o,hS,ho⟩:=Pd hm k (j+1) (gV l v) (by omega) (by omega) r1 hv (by omega) (by omega) (fun y hy Bm=>by
     rcases r5 y hy Bm with hy|hy
     ·exact hd y hy Bm
     ·have:=hy x0 bp jQ;have:=hd x0 bp jQ;omega) (fun h2=>by
     obtain⟨i,hi,h1,h2,h3⟩:=FA (l:=l) (v:=v) h2;have gS:0<(dt l v l[i]).1.length:=Kbq.2 (ru (by omega));have:=r4 i hi h1 h2 gS x0 bp jQ;exact⟨_,Ig hi h1 h2 gS,h3,by omega⟩)
    exact⟨n+1,o,fh.step hG (by omega) hb hS,ho⟩
   ·have:=(sM l v).1;exact⟨0,_,fh.fail hG (by omega) (by omega),fun l' he=>by cases he⟩
def xG(m:Nat)(v:Int)(l:List aB):Prop:=oC m v 0 2 l∨Ij m v l∨TR m v l
theorem xG.len{m:Nat}{v:Int}{l:List aB}(h:xG m v l):l.length<=3/\∀x∈l,qA m x:=by
 rcases h with h|h|h
 ·exact⟨h.len,h.fin⟩
 ·exact⟨h.s.len,h.s.fin⟩
 ·exact⟨h.len,h.fin⟩
theorem akr{m v:Nat}{l:List aB}(hm:m<=3)(h:xG m v l):∃n o,fh v n l o/\∀l',o= .ok l'->xG m ((v:Int)-1) l':=by
 have hs:=Nh v l;rw[<-zk]at hs;obtain⟨hl,hf⟩:=h.len;by_cases jB:(cD l v).2<=1
 ·refine⟨0,.ok l,fh.stop (xk hl hf) jB,fun l' he=>?_⟩;cases he;rcases h with h|h|h
  ·exact .inl (h.down (by omega) (Kac _) (Kac _))
  ·exact .inr (.inl ⟨h.s.down (by omega) (Kac _) (Kac _),by have:=h.v1;omega,by have:=h.c;omega⟩)
  ·exact .inr (.inr ⟨hl,hf,by have:=h.c;omega⟩)
 ·rcases h with h|h|h
  ·obtain⟨n,o,h1,h2⟩:=agl hm h (by omega);exact⟨n,o,h1,fun l' he=>.inr (.inl (h2 l' he))⟩
  ·have hv:=h.v1;have hc:=h.c;obtain⟨n,o,h1,h2⟩:=Pd (m:=m) (v:=v) hm 4 2 l (by omega) (by omega) h.s (by omega) hc (by omega) (fun x hx eZ=>(h.s.pd hx eZ).2) (fun h2=>by obtain⟨x,hx,eZ⟩:=PW (l:=l) (v:=v) (by omega);exact⟨x,hx,eZ,(h.s.pd hx eZ).2⟩);exact⟨n,o,h1,fun l' he=>.inr (.inr (h2 l' he))⟩
  ·have:=h.c;have:=List.countP_le_length (p:=dC ((v:Int)-1)) (l:=l);omega
theorem P8{m:Nat}(hm:m<=3):∀(v:Nat)(l:List aB),v<=64->xG m ((v:Int)-1) l->∃o,Mk v l o/\∀l',o= .ok l'->l'.length<=3/\∀x∈l',qA m x
 |0,l,_,h=>⟨.ok l,Mk.done (xk h.len.1 h.len.2),fun l' he=>by cases he;exact h.len⟩
 | v+1,l,hv,h=>by
  have e:((v+1:Nat):Int)-1=(v:Nat):=by omega
  rw[e]at h;obtain⟨n,o,h1,h2⟩:=akr hm h;cases o with
  |error er=>exact⟨.error er,Mk.bad (by omega) h1,fun l' he=>by cases he⟩
  |ok l1=>obtain⟨o,h3,h4⟩:=P8 hm v l1 (by omega) (h2 l1 rfl);exact⟨o,Mk.next (by omega) h1 h3,h4⟩
def c9:az:=⟨125,[.t 2,.t 3],Zr (Zo (.mv 2 (.c .aa))<|Zc 3 0 .nil)<|Zr (Zo (.mv 4 (.c .aa)) .nil)<| .seq (Zr (Zc 5 0 .nil)<| .block 0<| .loop<| .seq (Zr (Zm 20 5<|Zm 21 0<|Zn 22 21<|Zb 23 .lss 20 22 .nil)<| .cond (.t 23) .skip (.exit 0))<| .seq (.block 1<|Zr (Zm 26 0<|Zm 27 5<|Zi 28 1 26 27<|Zl 29 1 28<|Zm 30 0<|Zn 31 30<|Zm 32 5<| .br (Zq 33 true 32 [.c (Zz 1)]<| .br (Zq 34 true 31 [.t 31,.t 32,.t 33]<|Zo (.bT 35 [.aa,.aa] [(0,1,.t 29),(1,1,.t 34)])<| .br (Zq 36 true 30 [.t 35]<|Zo (.alloc 6 2 34 (.agg [.aa,.aa]))<|Zs 2 6 36 .nil) (Zo (.alloc 6 2 34 (.agg [.aa,.aa]))<|Zq 36 true 30 [.t 35]<|Zs 2 6 36 .nil)) (Zo (.alloc 6 2 34 (.agg [.aa,.aa]))<|Zq 34 true 31 [.t 31,.t 32,.t 33]<|Zo (.bT 35 [.aa,.aa] [(0,1,.t 29),(1,1,.t 34)])<|Zq 36 true 30 [.t 35]<|Zs 2 6 36 .nil)) (Zo (.alloc 6 2 34 (.agg [.aa,.aa]))<|Zq 33 true 32 [.c (Zz 1)]<|Zq 34 true 31 [.t 31,.t 32,.t 33]<|Zo (.bT 35 [.aa,.aa] [(0,1,.t 29),(1,1,.t 34)])<|Zq 36 true 30 [.t 35]<|Zs 2 6 36 .nil))<| .seq (Zr (Zh 37 2 6<|Zq 38 false 33 [.t 37]<|Zm 7 38 .nil)<|Zr (Zm 39 7<|Zk 40 .neq 39 0 .nil)<| .cond (.t 40) (Zr (Zm 41 7<|Zo (.mv 2 (.c .aa))<|Zm 3 41 .nil) .ret) .skip)<|Zr (Zf 42 0 6<|Zl 43 1 42<|Zn 44 43<|Zk 45 .gtr 44 0 .nil)<| .cond (.t 45) (.rg (Zm 46 4<|Zh 47 2 6<|Zo (.bs 48 2 34 [.t 47])<|Zo (.app 49 2 48 34 (.t 46) (.t 48))<|Zm 4 49 .nil)) .skip)<| .rg (Zm 24 5<|Zk 25 .add 24 1<|Zm 5 25 .nil))<| .seq (Zr (Zc 8 63 .nil)<| .block 2<| .loop<| .seq (Zr (Zm 50 8<|Zk 51 .geq 50 0 .nil)<| .cond (.t 51) .skip (.exit 2))<| .seq (.block 3<| .block 4<| .loop<| .block 5<|Zr (Zm 55 4<|Zm 56 8<|Zq 57 false 34 [.t 55,.t 56]<|Zm 54 57<|Zo (.ext 58 (.t 54) 0)<|Zo (.ext 59 (.t 54) 1)<|Zm 9 58<|Zm 10 59 .nil)<| .seq (Zr (Zm 60 10<|Zk 61 .leq 60 1 .nil)<| .cond (.t 61) (.exit 4) .skip)<|Zr (Zo (.mv 11 (.c .aa)) .nil)<| .seq (Zr (Zc 12 0 .nil)<| .block 6<| .loop<| .seq (Zr (Zm 62 12<|Zm 63 4<|Zn 64 63<|Zb 65 .lss 62 64 .nil)<| .cond (.t 65) .skip (.exit 6))<| .seq (.block 7<|Zr (Zm 68 4<|Zm 69 12<|Zi 70 2 68 69<|Zh 71 2 70<|Zo (.alloc 13 2 34 (.agg [.aa,.aa]))<|Zs 2 13 71 .nil)<| .seq (Zr (Zm 72 12<|Zm 73 9<|Zb 74 .neq 72 73<|Zm 75 74<|Zg 75 true (.cz 76 0 (.t 13))<|Zg 75 true (.ld 77 1 false (.t 76))<|Zg 75 true (.call (some 78) false (.c (.fn 35 [] [])) [.t 77])<|Zg 75 true (.mv 79 (.t 8))<|Zg 75 true (.bin 80 .eql false (.t 78) (.t 79))<|Zo (.pick 81 (.t 75) (.t 80) (.c (.bool false))) .nil)<| .cond (.t 81) (Zr (Zh 83 2 13<|Zm 84 4<|Zm 85 9<|Zi 86 2 84 85<|Zh 87 2 86<|Zm 88 8<| .br (Zq 89 true 36 [.t 83,.t 87,.t 88]<|Zm 82 89<|Zo (.ext 90 (.t 82) 0)<|Zo (.ext 91 (.t 82) 1)<|Zo (.alloc 14 2 34 (.agg [.aa,.aa]))<|Zs 2 14 90<|Zm 15 91 .nil) (Zo (.alloc 14 2 34 (.agg [.aa,.aa]))<|Zq 89 true 36 [.t 83,.t 87,.t 88]<|Zm 82 89<|Zo (.ext 90 (.t 82) 0)<|Zo (.ext 91 (.t 82) 1)<|Zs 2 14 90<|Zm 15 91 .nil))<| .seq (Zr (Zm 92 15<|Zk 93 .neq 92 0 .nil)<| .cond (.t 93) (Zr (Zm 94 15<|Zo (.mv 2 (.c .aa))<|Zm 3 94 .nil) .ret) .skip)<| .rg (Zh 95 2 14<|Zs 2 13 95 .nil)) .skip)<|Zr (Zf 96 0 13<|Zl 97 1 96<|Zn 98 97<|Zk 99 .gtr 98 0 .nil)<| .cond (.t 99) (.rg (Zm 100 11<|Zh 101 2 13<|Zo (.bs 102 2 34 [.t 101])<|Zo (.app 103 2 48 34 (.t 100) (.t 102))<|Zm 11 103 .nil)) .skip)<| .rg (Zm 66 12<|Zk 67 .add 66 1<|Zm 12 67 .nil))<| .rg (Zm 104 11<|Zm 4 104 .nil))<| .rg (Zm 52 8<|Zk 53 .sub 52 1<|Zm 8 53 .nil))<|Zr (Zo (.mv 16 (.c .aa)) .nil)<| .seq (Zr (Zc 17 0 .nil)<| .block 8<| .loop<| .seq (Zr (Zm 105 17<|Zk 106 .lss 105 64 .nil)<| .cond (.t 106) .skip (.exit 8))<| .seq (.block 9<|Zr (Zm 110 4<|Zm 111 17<|Zq 112 false 34 [.t 110,.t 111]<|Zm 109 112<|Zo (.ext 113 (.t 109) 0)<|Zo (.ext 114 (.t 109) 1)<|Zm 18 113<|Zm 19 114 .nil)<|Zr (Zm 115 18<|Zk 116 .geq 115 0 .nil)<| .cond (.t 116) (.rg (Zm 117 16<|Zm 118 4<|Zm 119 18<|Zi 120 2 118 119<|Zh 121 2 120<|Zo (.bs 122 2 34 [.t 121])<|Zo (.app 123 2 48 34 (.t 117) (.t 122))<|Zm 16 123 .nil)) .skip)<| .rg (Zm 107 17<|Zk 108 .add 107 1<|Zm 17 108 .nil))<|Zr (Zm 124 16<|Zm 2 124<|Zc 3 0 .nil) .ret⟩
theorem aks:Qe Tryz.prog Tryz.f9=some c9:=by kernel_rfl
set_option maxHeartbeats 2000000 in
theorem adQ {ps:List (List Tm)} {P:Nat->aB} {bad:Nat} {o:Except Int (List aB)} (hl:ps.length<=100)
  (hp:∀i (h:i<ps.length),Qc Tryz.prog 30 [PV.el (ps[i],fP ps.length i)] (· =PV.el (P i))/\Qc Tryz.prog 33 [PV.el (P i)] (· = .int .i64 (fu (P i))))
  (qF:bad<=ps.length) (cA:∀i,i<bad->fu (P i)=0) (jy:bad<ps.length->fu (P bad)≠0) (ho:bad=ps.length->Mk 64 (gu P ps.length) o):
  Qc Tryz.prog 9 [PV.bZ ps] (· =if bad=ps.length then vj o else .au [PV.cd [],.int .i64 (fu (P bad))]):=by
 obtain⟨tz,nT⟩:∃tz,tz=if bad=ps.length then vj o else .au [PV.cd [],.int .i64 (fu (P bad))]:=⟨_,rfl⟩
 rw[<-nT];have hu:∀i,i<ps.length->Qc Tryz.prog 31 [.int .i64 ps.length,.int .i64 i,PV.rat ((1:Int):Rat)] (· =PV.bZ (fP ps.length i)):=fun i hi=>adO hi hl;have r9:=uH (x:=1) (by omega) (by omega);refine Qf Qj Tryz.func9 rfl aks (by simp[c9]) fun C hP=>?_;simp only[c9,Zo,Zg,Zm,Zc,Zf,Zl,Zh,Zs,Zi,Zb,Zk,Zn,Zu,Zq,Zr,Zz];generalize hA:((1:Int):Rat)=a1 at *
 refine Sz0 ?_;refine kM 4 900 2 34 (by omega) Tz0 ?_;refine zB (by repeat (first|exact Qs|exact Ql|exact Qm|exact Qn|exact Qo|apply Qk|apply Qr|apply Qx|apply Q4|apply Q5|apply Qi|apply Q2)) [(2,7),(20,49)] [6,48,49,900] (fun m J hp=>∃i,m=ps.length-i/\i<=bad/\J 4= .ms 900 (gu P i).length/\J 5= .int .i64 (i:Nat)/\hp 900=some ⟨2,34,(gu P i).map PV.el,false⟩) ps.length ?_ ?_
 ·refine⟨0,rfl,by omega,?_⟩;refine Sz0 ?_
  first|rfl|exact⟨rfl,rfl⟩|exact⟨rfl,rfl,rfl⟩
 rintro _ J h ⟨i,rfl,hi,j4,j5,hh⟩;by_cases c1:i<ps.length
 ·have d1:decide ((i:Int)<(ps.length:Int))=true:=decide_eq_true (by omega);obtain⟨iT,eX⟩:=hp i c1;have hu:=hu i c1;have r7:=Dj P i;have aF:gu P (i+1)=gu P i++tc P i:=by unfold gu;rw[KbZ,Kb4];simp
  unfold tc at aF;have anR:=cA i;have xV:¬i<bad->i=bad/\fu (P i)≠0/\¬bad=ps.length:=fun h=>by
   obtain rfl:i=bad:=by omega
   exact⟨rfl,jy c1,by omega⟩
  generalize gu P i=A at *
  generalize hx:ps[i]=x at *
  generalize hz:P i=z at *
  generalize hce:fu z=ce at *
  refine Sz4 j4 j5 d1 hx ?_;refine Oa (by repeat (first|exact Qs|exact Ql|exact Qm|exact Qn|exact Qo|apply Qk|apply Qr|apply Qx|apply Q4|apply Q5|apply Qi|apply Q2)) [(6,6),(33,36)] [6] (fun J' an=>J' 6= .mp 6 0 0/\an 6=some ⟨2,34,[PV.el z],false⟩/\an 900=some ⟨2,34,A.map PV.el,false⟩) ?_ ?_
  ·repeat' first
    |refine ns ?_ ?_
    |refine Qa hP r9 rfl rfl rfl ?_
    |refine Qa hP hu rfl rfl rfl ?_
    |refine Qa hP iT rfl rfl rfl ?_
    |simp+decide (disch:=try exact D3 j4 j5 hx) only[go_sem,j4,j5,hx]
   all_goals
    refine zL ?_;refine Sz1 hh ?_
    try trivial
  rintro J2 h2 ⟨i6,ib,hh⟩;refine Sz4 j4 j5 i6 ib ?_;refine Qa hP eX rfl rfl rfl ?_;by_cases gD:i<bad
  rotate_left
  ·obtain⟨e1,e2,e3⟩:=xV gD;have sF:decide (¬ce=0)=true:=decide_eq_true e2;refine Sz5 j4 j5 i6 ib sF ?_;subst e1;exact fb (p':=.sl 2 []) (by rw[nT,if_neg e3,hz,hce];rfl) rfl rfl trivial (Qw _)
  obtain rfl:ce=0:=anR gD;by_cases e3:0<z.1.length
  ·have q3:decide (0<(z.1.length:Int))=true:=decide_eq_true (by omega);rw[if_pos e3]at aF;refine Sz6 j4 j5 i6 ib hh q3 ?_;rw[Q9 (f:=PV.el) (y:=z) (xs:=A) (ty':=34) (fz:=false) (Tz1 hh) cE (by omega) rfl (by omega) (by omega)];refine Sz3 j4 j5 i6 ?_;simp (disch:=decide) only[yX,Cl,nw,CF];refine wJ (ps.length-(i+1)) (by omega) ⟨i+1,rfl,by omega,?_⟩;rw[aF];simp+decide (disch:=first|omega|rfl|(simp+decide only[go_sem,Kap]<;>rfl)|fail) only[go_sem,Kap]
   try trivial
  ·have q3:decide (0<(z.1.length:Int))=false:=decide_eq_false (by omega);rw[if_neg e3,Kak]at aF;refine Sz6 j4 j5 i6 ib hh q3 ?_;simp (disch:=decide) only[yX,Cl,nw,CF];refine wJ (ps.length-(i+1)) (by omega) ⟨i+1,rfl,by omega,?_⟩;rw[aF];refine Sz2 j4 hh ?_
   try (first|trivial|exact⟨rfl,rfl⟩)
 obtain rfl:i=ps.length:=by omega
 have eU:bad=ps.length:=by omega
 have Lt:=ho eU;rw[if_pos eU]at nT;have d1:decide ((ps.length:Int)<(ps.length:Int))=false:=decide_eq_false (by omega);clear hp hu cA jy ho;generalize gu P ps.length=L0 at *
 refine Sz3 j4 j5 d1 ?_;refine NO 4 (ak0 j4 hh) ?_;refine kQ j4 hh ?_;rw[show List.take L0.length (L0.map PV.el)=L0.map PV.el from Kae (by simp)];refine Qz (by repeat (first|exact Qs|exact Ql|exact Qm|exact Qn|exact Qo|apply Qk|apply Qr|apply Qx|apply Q4|apply Q5|apply Qi|apply Q2)) [(2,4),(8,15),(50,104)] [13,14,102,103,901] (fun m J hp=>∃L,m<=64/\Mk m L o/\J 4=PV.cd L/\J 8= .int .i64 ((m:Int)-1)) 64 ?_ ?_
 ·refine⟨L0,Kac _,Lt,?_⟩;refine Sz0 ?_
  try (first|rfl|exact⟨rfl,rfl⟩)
 rintro m J1 h1 ⟨L,hm,Ek,k4,k8⟩;have Ve:=Ek.wa;cases m with
 | zero=>
  obtain⟨anQ⟩:Nonempty (o= .ok L):=by cases Ek;exact⟨rfl⟩
  subst anQ;have d2:decide ((0:Int)<=((0:Nat):Int)-1)=false:=decide_eq_false (by omega);refine Sz3 k4 k8 d2 ?_;refine kM 16 902 2 34 (by omega) Tz0 ?_;have pA:∀j,((List.range j).filterMap (gw L)).length<=j:=fun j=>Kay (Kcb _ _) (by simp);refine Qz (by repeat (first|exact Qs|exact Ql|exact Qm|exact Qn|exact Qo|apply Qk|apply Qr|apply Qx|apply Q4|apply Q5|apply Qi|apply Q2)) [(16,19),(105,123)] [122,123,902] (fun m J hp=>∃j,m=64-j/\j<=64/\J 16= .ms 902 ((List.range j).filterMap (gw L)).length/\J 17= .int .i64 (j:Nat)/\hp 902=some ⟨2,34,((List.range j).filterMap (gw L)).map PV.el,false⟩) 64 ?_ ?_
  ·refine⟨0,rfl,by omega,?_⟩;refine Sz0 ?_
   first|rfl|exact⟨rfl,rfl⟩|exact⟨rfl,rfl,rfl⟩
  rintro _ J3 h3 ⟨j,rfl,hj,wm,yu,hq⟩;by_cases c1:j<64
  ·have d4:decide ((j:Int)<64)=true:=decide_eq_true (by omega);have oG:=Pc Ve c1;have ar:=Dq L j L.length;have r7:=pA j;have aF:(List.range (j+1)).filterMap (gw L)=(List.range j).filterMap (gw L)++(gw L j).toList:=by rw[KbZ,KcM];cases h:gw L j<;>simp[h]
   have qJ:gw L j=if 0<=(cD L j).1 then some (L.getD (aV L j) default)else none:=rfl
   generalize gw L j=fe at *
   generalize(List.range j).filterMap (gw L)=A at *
   rw[show iv L j L.length=cD L j from rfl]at ar;generalize bP:aV L j=a0 at *
   unfold aV at bP;generalize cD L j=Ag at *
   obtain⟨a2,c2⟩:=Ag;simp only at ar bP qJ;by_cases e1:0<=a2
   ·obtain⟨a,rfl⟩:∃a:Nat,a2=a:=⟨a2.toNat,by omega⟩
    have ha:a<L.length:=by omega
    have haa:a0=a:=by omega
    subst haa;have d5:decide ((0:Int)<=(a0:Int))=true:=decide_eq_true e1;rw[if_pos e1,fO ha]at qJ;rw[qJ]at aF;generalize hx:L[a0]=x at *
    refine Sz4 k4 wm yu d4 ?_;refine Qa hP oG rfl rfl rfl ?_;refine Sz5 k4 wm yu d5 hx ?_;rw[Q9 (f:=PV.el) (y:=x) (xs:=A) (ty':=34) (fz:=false) (Tz1 hq) cE (by omega) rfl (by omega) (by omega)];refine Sz3 k4 wm yu ?_;refine Qh (64-(j+1)) (by omega) ⟨j+1,rfl,by omega,?_⟩;rw[aF];simp+decide (disch:=first|omega|rfl|(simp+decide only[go_sem,Kap,Option.toList_some]<;>rfl)|fail) only[go_sem,Kap,Option.toList_some]
    try trivial
   ·have d5:decide ((0:Int)<=a2)=false:=decide_eq_false e1;rw[if_neg e1]at qJ;rw[qJ,Option.toList_none,Kak]at aF;refine Sz4 k4 wm yu d4 ?_;refine Qa hP oG rfl rfl rfl ?_;refine Sz4 k4 wm yu d5 ?_;refine Qh (64-(j+1)) (by omega) ⟨j+1,rfl,by omega,?_⟩;rw[aF];refine Sz2 wm hq ?_
    try (first|trivial|exact⟨rfl,rfl⟩)
  ·obtain rfl:j=64:=by omega
   refine Ac wm yu hq ?_;exact fb (by rw[nT,Kae (by simp)];rfl) rfl rfl (Qw _) (Qw _)
 | succ v=>
  have hv:v<64:=by omega
  have e8:((v+1:Nat):Int)-1=(v:Int):=by omega
  rw[e8]at k8;have d2:decide ((0:Int)<=(v:Int))=true:=decide_eq_true (by omega);refine Sz3 k4 k8 d2 ?_;obtain⟨n,o2,Uu,Uh⟩:∃n o2,fh v n L o2/\(∀e,o2= .error e->o= .error e)/\∀L',o2= .ok L'->Mk v L' o:=by
   cases Ek with
   |bad _ h=>exact⟨_,_,h,(fun e he=>he),(fun L' he=>by cases he)⟩
   |next _ h h2=>exact⟨_,_,h,(fun e he=>by cases he),(fun L' he=>by cases he;exact h2)⟩
  clear Ek Ve;refine Hh (by repeat (first|exact Qs|exact Ql|exact Qm|exact Qn|exact Qo|apply Qk|apply Qr|apply Qx|apply Q4|apply Q5|apply Qi|apply Q2)) [(2,4),(9,15),(54,104)] [13,14,102,103,901] (fun m J hp=>∃L,fh v m L o2/\J 4=PV.cd L) n ?_ ?_
  ·refine⟨L,Uu,?_⟩;refine Sz1 k4 ?_
   try trivial
  clear Uu k4 d2;rintro n2 J2 h2 ⟨L2,xS,k4⟩;have cQ:=xS.wa;have oG:=Pc cQ hv;by_cases hc:(cD L2 v).2<=1
  ·obtain⟨Mi⟩:Nonempty (o2= .ok L2):=by
    cases xS with
    |stop _ _=>exact⟨rfl⟩
    |fail _ h _=>omega
    |step _ h _ _=>omega
   have hMv:=Uh.2 L2 Mi;generalize cD L2 v=Ag at *
   obtain⟨a2,c2⟩:=Ag;have d3:decide ((c2:Int)<=1)=true:=decide_eq_true (by simp only at hc;omega);refine Sz2 k4 k8 ?_;refine Qa hP oG rfl rfl rfl ?_;refine Sz3 k4 k8 d3 ?_;simp (disch:=decide) only[yX,Cl,nw,CF,Gd,kb];refine Qh v (by omega) ⟨L2,by omega,hMv,?_⟩;refine Sz2 k4 k8 ?_
   try trivial
  ·obtain⟨hG,iM⟩:tw v L2/\2<=(cD L2 v).2:=by
    cases xS with
    |stop _ h=>exact absurd h hc
    |fail h h2 _=>exact⟨h,h2⟩
    |step h h2 _ _=>exact⟨h,h2⟩
   have hlen:=cQ.len;have bP:=hG.bP;have amX:=hG.Lf;obtain⟨bl1,bl2,Im⟩:=sM L2 v;have d3:decide (((cD L2 v).2:Int)<=1)=false:=decide_eq_false (by omega);have hS6:eS L2 v=L2.length->∃n3,n2=n3+1/\fh v n3 (gV L2 v) o2:=fun hb=>by
    cases xS with
    |stop _ h=>exact absurd h hc
    |fail _ _ h=>omega
    |step _ _ _ h=>exact⟨_,rfl,h⟩
   have hS4:eS L2 v<L2.length->o2= .error (mG L2 v (eS L2 v)):=fun hb=>by
    cases xS with
    |stop _ h=>exact absurd h hc
    |fail _ _ h=>rfl
    |step _ _ h _=>omega
   clear xS;rw[amX]at oG;generalize(cD L2 v).2=c2 at *
   refine Sz2 k4 k8 ?_;refine Qa hP oG rfl rfl rfl ?_;refine Sz3 k4 k8 d3 ?_;refine kM 11 901 2 34 (by omega) Tz0 ?_;refine Qz (by repeat (first|exact Qs|exact Ql|exact Qm|exact Qn|exact Qo|apply Qk|apply Qr|apply Qx|apply Q4|apply Q5|apply Qi|apply Q2)) [(2,3),(11,15),(62,103)] [13,14,102,103,901] (fun m J hp=>∃i,m=L2.length-i/\i<=eS L2 v/\J 11= .ms 901 (eB L2 (aV L2 v) v (dt L2 v) i).length/\J 12= .int .i64 (i:Nat)/\hp 901=some ⟨2,34,(eB L2 (aV L2 v) v (dt L2 v) i).map PV.el,false⟩) L2.length ?_ ?_
   ·refine⟨0,rfl,by omega,?_⟩;refine Sz0 ?_
    first|rfl|exact⟨rfl,rfl⟩|exact⟨rfl,rfl,rfl⟩
   rintro _ J3 h3 ⟨i,rfl,hi,ig,m9,hq⟩;by_cases c1:i<L2.length
   ·have d4:decide ((i:Int)<(L2.length:Int))=true:=decide_eq_true (by omega);have gB:=cQ.el _ (Kah c1);obtain⟨b1,b2,b3,b4⟩:=gB;have hm:=B8 b1 b2 (by omega:_<=2^36);have r7:=Di L2 (aV L2 v) v (dt L2 v) i;have aF:eB L2 (aV L2 v) v (dt L2 v) (i+1)=eB L2 (aV L2 v) v (dt L2 v) i++mB L2 (aV L2 v) v (dt L2 v) i:=by unfold eB;rw[KbZ,Kb4];simp
    unfold mB at aF;rw[fO c1]at aF;have amV:=hG.dv i c1;have rZ:=fun a b=>hG.err c1 a b;rw[fO bP]at rZ;have Ly:dt L2 v L2[i]=(fH L2[i] L2[aV L2 v]).1:=by unfold dt;rw[fO bP]
    have eU:=bl2 i;have AB:¬i<eS L2 v->i=eS L2 v:=fun h=>by omega
    have nV:(dt L2 v L2[i]).1.length=(dt L2 v L2[i]).1.length:=rfl;generalize eB L2 (aV L2 v) v (dt L2 v) i=A at *
    have d5:decide (0<(L2[i].1.length:Int))=true:=decide_eq_true (by omega);generalize hx:L2[i]=x at *
    generalize hy:L2[aV L2 v]=y at *
    by_cases e1:i=aV L2 v
    ·have q1:decide (¬(i:Int)=(aV L2 v:Int))=false:=decide_eq_false fun h=>h (by omega);rw[if_pos (.inl e1)]at aF;refine Sz8 k4 k8 ig m9 d4 d5 hx q1 ?_;rw[Q9 (f:=PV.el) (y:=x) (xs:=A) (ty':=34) (fz:=false) (Tz1 hq) cE (by omega) rfl (by omega) (by omega)];refine Sz4 k4 k8 ig m9 ?_;refine Qh (L2.length-(i+1)) (by omega) ⟨i+1,rfl,?_,?_⟩
     ·by_cases gD:i<eS L2 v
      ·omega
      ·exfalso;have:=AB gD;apply Im (by omega);unfold mG;rw[if_pos (.inl (by omega))]
     rw[aF];simp+decide (disch:=first|omega|rfl|(simp+decide only[go_sem,Kap]<;>rfl)|fail) only[go_sem,Kap]
     try trivial
    ·have q1:decide (¬(i:Int)=(aV L2 v:Int))=true:=decide_eq_true fun h=>e1 (by omega);by_cases e2:Qv x.1=v
     ·have q2:decide (Qv x.1=(v:Int))=true:=decide_eq_true e2;obtain⟨m0,j0,Tf,Tg,hD⟩:=amV e1 e2;have fj:=agi hD;have rZ:=rZ e1 e2;rw[if_neg (by simp[e1,e2]),Ly]at aF;have EZ:(fH x y).1.1.length<=4000∨True:=.inr trivial;generalize hz:fH x y=z at *
      obtain⟨z,ez⟩:=z;simp only at aF fj rZ;refine Sz7 k4 k8 ig m9 d4 hx q1 ?_;refine Qa hP hm rfl rfl rfl ?_;refine Sz7 k4 k8 ig m9 q2 hx hy ?_;refine ns ?_ ?_
      all_goals
       repeat' first
        |refine Qa hP fj rfl rfl rfl ?_
        |simp+decide (disch:=try exact D6 k4 k8 ig m9 hx hy) only[go_sem,k4,k8,ig,m9,hx,hy]
       by_cases gD:i<eS L2 v
       rotate_left
       ·have xV:=AB gD;have hez:ez≠0:=by rw[<-rZ,xV];exact Im (by omega)
        have hoe:=Uh.1 _ (hS4 (by omega));have q3:decide (¬ez=0)=true:=decide_eq_true hez;refine Sz5 k4 k8 ig m9 q3 ?_;exact fb (p':=.sl 2 []) (by rw[nT,hoe,<-xV,rZ];rfl) rfl rfl trivial (Qw _)
       obtain rfl:ez=0:=by rw[<-rZ];exact eU gD
       by_cases e3:0<z.1.length
       ·have q3:decide (0<(z.1.length:Int))=true:=decide_eq_true (by omega);rw[if_pos e3]at aF;refine Sz5 k4 k8 ig m9 q3 ?_;rw[Q9 (f:=PV.el) (y:=z) (xs:=A) (ty':=34) (fz:=false) (Tz1 hq) cE (by omega) rfl (by omega) (by omega)];refine Sz4 k4 k8 ig m9 ?_;refine Qh (L2.length-(i+1)) (by omega) ⟨i+1,rfl,by omega,?_⟩;rw[aF];simp+decide (disch:=first|omega|rfl|(simp+decide only[go_sem,Kap]<;>rfl)|fail) only[go_sem,Kap]
        try trivial
       ·have q3:decide (0<(z.1.length:Int))=false:=decide_eq_false (by omega);rw[if_neg e3,Kak]at aF;refine Sz5 k4 k8 ig m9 q3 ?_;refine Qh (L2.length-(i+1)) (by omega) ⟨i+1,rfl,by omega,?_⟩;rw[aF];refine Sz2 ig hq ?_
        try (first|trivial|exact⟨rfl,rfl⟩)
     ·have q2:decide (Qv x.1=(v:Int))=false:=decide_eq_false e2;rw[if_pos (.inr e2)]at aF;refine Sz7 k4 k8 ig m9 d4 hx q1 ?_;refine Qa hP hm rfl rfl rfl ?_;refine Sz6 k4 k8 ig m9 d5 q2 ?_;rw[Q9 (f:=PV.el) (y:=x) (xs:=A) (ty':=34) (fz:=false) (Tz1 hq) cE (by omega) rfl (by omega) (by omega)];refine Sz4 k4 k8 ig m9 ?_;refine Qh (L2.length-(i+1)) (by omega) ⟨i+1,rfl,?_,?_⟩
      ·by_cases gD:i<eS L2 v
       ·omega
       ·exfalso;have:=AB gD;apply Im (by omega);unfold mG;rw[<-this,fO c1,hx,if_pos (.inr e2)]
      rw[aF];simp+decide (disch:=first|omega|rfl|(simp+decide only[go_sem,Kap]<;>rfl)|fail) only[go_sem,Kap]
      try trivial
   ·obtain rfl:i=L2.length:=by omega
    have hbL:eS L2 v=L2.length:=by omega
    have d4:decide ((L2.length:Int)<(L2.length:Int))=false:=decide_eq_false (by omega);obtain⟨n3,rfl,Us⟩:=hS6 hbL;unfold gV at Us;generalize eB L2 (aV L2 v) v (dt L2 v) L2.length=L3 at *
    refine Sz5 k4 k8 ig m9 d4 ?_;rw[Gd (V:=[(4,4),(104,104),(2,3),(11,15),(62,103)]) (W:=[(2,4),(9,15),(54,104)]) (h:=by decide) (hB:= ?_)]
    rotate_left
    ·decide
    refine Gn 4 n3 (by decide) ?_ (by omega) ⟨_,Us,?_⟩
    ·simp+decide (disch:=try exact E1 hq) only[go_sem,hq,dV,Kav,KaC,Kau,KaA,Kak]<;>rfl
    ·refine tA hq ?_;show PV.sl 2 _=PV.sl 2 _;rw[Kae (by simp)]
def jN(t:bc):Bool:=decide (t.a.length<=1)&&decide (t.d.length<=1)
def vk(ls:List (List bc))(most:Nat)(deg:Int):Bool:=decide (ls.length<=most)&&ls.all fun l=>kN 4 3 3 l&&(decide (jx (l.map bc.tm)<=deg)&&l.all jN)
theorem akt{ls:List (List bc)}{most:Nat}{deg:Int}(hl:ls.length<=1048576)(hp:∀l∈ls,l.length<=1048576/\∀t∈l,RB 1048576 t)(hm:most<=100):
  Qc Tryz.prog 6 [.sl 1 (ls.map PV.kG),.int .i64 most,.int .i64 deg] (· = .bool (vk ls most deg)):=by
 refine Qf Qj Tryz.func6 rfl akp (by simp[c6]) fun C hP=>?_;simp only[c6,Zo,Zg,Zm,Zc,Zf,Zl,Zh,Zs,Zi,Zb,Zk,Zn,Zu,Zq,Zr,Zz];refine Sz0 ?_;refine Qb (fun h6=>?_) (fun h6=>?_)
 ·refine Sz0 ?_;exact Qd (by rw[vk,decide_eq_false (by omega),Kc5]) rfl
 have hF:vk ls most deg=ls.all fun l=>kN 4 3 3 l&&(decide (jx (l.map bc.tm)<=deg)&&l.all jN):=by rw[vk,decide_eq_true (by omega),KbY]
 rw[hF];clear hF;refine Sz0 ?_;refine Qz (by repeat (first|exact Qs|exact Ql|exact Qm|exact Qn|exact Qo|apply Qk|apply Qr|apply Qx|apply Q4|apply Q5|apply Qi|apply Q2)) [(6,8),(13,67)] [] (fun m J hp=>∃i,m=ls.length-i/\i<=ls.length/\(∀j (h:j<ls.length),j<i->(kN 4 3 3 ls[j]&&(decide (jx (ls[j].map bc.tm)<=deg)&&ls[j].all jN))=true)/\J 7= .int .i64 (i:Nat)) ls.length ?_ ?_
 ·refine⟨0,rfl,by omega,by omega,?_⟩;refine Sz0 ?_
  try (first|rfl|exact⟨rfl,rfl⟩)
 rintro _ J h ⟨i,rfl,hi,cu,j7⟩;by_cases c1:i<ls.length
 ·have d1:decide ((i:Int)<(ls.length:Int))=true:=decide_eq_true (by omega);obtain⟨b1,b2⟩:=hp _ (Kah c1);have eo:=Kah c1;have sm:=W8 (n:=4) (v:=3) (e:=3) b2 (by omega) (by omega) (by omega:_<2^40);have gR:(kN 4 3 3 ls[i]&&(decide (jx (ls[i].map bc.tm)<=deg)&&ls[i].all jN))=true->∀j (h:j<ls.length),j<i+1->(kN 4 3 3 ls[j]&&(decide (jx (ls[j].map bc.tm)<=deg)&&ls[j].all jN))=true:=fun h j hj dW=>by
   by_cases e:j=i
   ·subst e;exact h
   ·exact cu j hj (by omega)
  have jy:(kN 4 3 3 ls[i]&&(decide (jx (ls[i].map bc.tm)<=deg)&&ls[i].all jN))=false->(ls.all fun l=>kN 4 3 3 l&&(decide (jx (l.map bc.tm)<=deg)&&l.all jN))=false:=fun h=>by rw[Kc3];exact⟨_,eo,by simp[h]⟩
  generalize hx:ls[i]=x at *
  cases hs:kN 4 3 3 x
  ·rw[hs]at sm jy;refine Sz3 j7 d1 hx ?_;refine Qa hP sm rfl rfl rfl ?_;refine Sz3 j7 d1 hx ?_;exact Qd (by rw[jy (by simp)]) rfl
  ·have sp:=SB (e:=3) b2 hs;have Ew:=Qyh sp.b (by omega) (by have:=sp.ln;omega);rw[<-sp.eq]at Ew;rw[hs]at sm;generalize tP:jx (x.map bc.tm)=dx at *
   rw[hs,KbY]at gR jy;by_cases c2:dx<=deg
   ·have d2:decide (deg<dx)=false:=decide_eq_false (by omega);rw[decide_eq_true c2,KbY]at gR jy;refine Sz3 j7 d1 hx ?_;refine Qa hP sm rfl rfl rfl ?_;refine Sz3 j7 d1 hx ?_;refine Qa hP Ew rfl rfl rfl ?_;refine Sz4 j7 d1 d2 hx ?_;refine Qz (by repeat (first|exact Qs|exact Ql|exact Qm|exact Qn|exact Qo|apply Qk|apply Qr|apply Qx|apply Q4|apply Q5|apply Qi|apply Q2)) [(6,6),(8,8),(34,67)] [] (fun m J hp=>∃k,m=x.length-k/\k<=x.length/\(∀j (h:j<x.length),j<k->jN x[j]=true)/\J 8= .int .i64 (k:Nat)) x.length ?_ ?_
    ·refine⟨0,rfl,by omega,by omega,?_⟩;refine Sz0 ?_
     try (first|rfl|exact⟨rfl,rfl⟩)
    rintro _ J2 h2 ⟨k,rfl,hk,jB,j8⟩;by_cases c3:k<x.length
    ·have d3:decide ((k:Int)<(x.length:Int))=true:=decide_eq_true (by omega);have Md:=Kah c3;have UF:jN x[k]=false->x.all jN=false:=fun h=>by rw[Kc3];exact⟨_,Md,by simp[h]⟩
     have vE:jN x[k]=true->∀j (h:j<x.length),j<k+1->jN x[j]=true:=fun h j hj dW=>by
      by_cases e:j=k
      ·subst e;exact h
      ·exact jB j hj (by omega)
     generalize hy:x[k]=y at *
     by_cases c4:y.a.length<=1
     ·have q4:decide (1<(y.a.length:Int))=false:=decide_eq_false (by omega);by_cases c5:y.d.length<=1
      ·have q5:decide (1<(y.d.length:Int))=false:=decide_eq_false (by omega);refine Sz7 j7 j8 d3 hx hy q4 q5 ?_;refine Qh (x.length-(k+1)) (by omega) ⟨k+1,rfl,by omega,vE (by rw[jN,decide_eq_true c4,decide_eq_true c5];rfl),?_⟩;refine Sz0 ?_
       try trivial
      ·have q5:decide (1<(y.d.length:Int))=true:=decide_eq_true (by omega);refine Sz7 j7 j8 d3 hx hy q4 q5 ?_;exact Qd (by rw[jy (UF (by rw[jN,decide_eq_false c5,Bool.and_false]))]) rfl
     ·have q4:decide (1<(y.a.length:Int))=true:=decide_eq_true (by omega);refine Sz6 j7 j8 d3 hx hy q4 ?_;exact Qd (by rw[jy (UF (by rw[jN,decide_eq_false c4,Kc5]))]) rfl
    ·obtain rfl:k=x.length:=by omega
     have d3:decide ((x.length:Int)<(x.length:Int))=false:=decide_eq_false (by omega);have ET:x.all jN=true:=by rw[Kax];intro t ht;obtain⟨j,hj,rfl⟩:=Kbd ht;exact jB j hj hj
     refine Sz4 j7 j8 d3 hx ?_;simp (disch:=decide) only[kb,nw];refine Qh (ls.length-(i+1)) (by omega) ⟨i+1,rfl,by omega,gR ET,?_⟩;refine Sz0 ?_
     try trivial
   ·have d2:decide (deg<dx)=true:=decide_eq_true (by omega);rw[decide_eq_false c2,Kc5]at jy;refine Sz3 j7 d1 hx ?_;refine Qa hP sm rfl rfl rfl ?_;refine Sz3 j7 d1 hx ?_;refine Qa hP Ew rfl rfl rfl ?_;refine Sz4 j7 d1 d2 hx ?_;exact Qd (by rw[jy rfl]) rfl
 ·obtain rfl:i=ls.length:=by omega
  have d1:decide ((ls.length:Int)<(ls.length:Int))=false:=decide_eq_false (by omega);refine Sz2 j7 d1 ?_;refine Qd ?_ rfl;congr 1;symm;rw[Kax];intro t ht;obtain⟨j,hj,rfl⟩:=Kbd ht;exact cu j hj hj
abbrev M3(ls:List (List bc)):List (List Tm):=ls.map (List.map bc.tm)
structure me(deg:Int)(p:List Tm):Prop where
 b:PB 2 3 p
 v:rf p
 l:p.length<=4
 m:ML 3 p
 d:jx p<=deg
theorem Pe{l:List bc}{deg:Int}{k:Nat}(hb:∀t∈l,RB k t)(h:(kN 4 3 3 l&&(decide (jx (l.map bc.tm)<=deg)&&l.all jN))=true):PV.kG l=PV.aj (l.map bc.tm)/\me deg (l.map bc.tm):=by simp only[Kat,decide_eq_true_eq,Kax]at h;obtain⟨h1,h2,h3⟩:=h;have sp:=SB (e:=3) hb h1;refine⟨sp.eq,fun t ht=>?_,sp.va,sp.ln,sp.ml,h2⟩;have iL:=sp.b t ht;obtain⟨x,hx,rfl⟩:=KaI.1 ht;have ho:=h3 x hx;simp only[jN,Kat,decide_eq_true_eq]at ho;have hr:=(show Raw 1 x.n x.a x.d from⟨(hb x hx).r.1,(hb x hx).r.2.1,ho.1,ho.2,by omega⟩).rs;refine⟨?_,iL.m,iL.l⟩;show rs (rv x.n x.a x.d)+1<=2;omega
theorem agW{ls:List (List bc)}{most:Nat}{deg:Int}{k:Nat}(hb:∀l∈ls,∀t∈l,RB k t)(h:vk ls most deg=true):ls.length<=most/\PV.sl 1 (ls.map PV.kG)=PV.bZ (M3 ls)/\∀p∈M3 ls,me deg p:=by
 simp only[vk,Kat,decide_eq_true_eq]at h;obtain⟨h1,h2⟩:=h;rw[Kax]at h2;refine⟨h1,?_,fun p hp=>?_⟩
 ·show PV.sl 1 _=PV.sl 1 _;congr 1;rw[Kc7];exact Kba fun l hl=>(Pe (hb l hl) (by have:=h2 l hl;simpa using this)).1
 ·obtain⟨l,hl,rfl⟩:=KaI.1 hp;exact(Pe (hb l hl) (by have:=h2 l hl;simpa using this)).2
theorem fm.aoG{m j Tf Tg v:Nat}{f g:aB}(h:fm m j Tf Tg v f g):Qv (fH f g).1.1<=v:=by
 unfold fH;cases hd:qy f.1 g.1 with
 |none=>show Qv []<=_;have:Qv []= -1:=rfl;omega
 |some d=>obtain⟨q,r,n⟩:=d;have o:=h.out hd;exact G8 (o.mv.wj o.nr.c _)
theorem fh.filter{v n:Nat}{l:List aB}{o:Except Int (List aB)}(h:fh v n l o):∀l',o= .ok l'->∀u,v<u->l'.filter (dw u)=l.filter (dw u):=by
 induction h with
 |stop=>intro l' e u _;cases e;rfl
 |fail=>intro l' e;cases e
 | @step l n o hG _ _ _ ih=>
  intro l' e u hu;rw[ih l' e u hu];have bP:=hG.bP;refine ZV hu (fun i hi h1 h2=>?_) (fun bP=>?_)
  ·obtain⟨m,j,Tf,Tg,hD⟩:=hG.dv i hi h1 h2;unfold dt;rw[fO bP];exact hD.aoG
  ·by_cases hi:∃i,∃hi:i<l.length,i≠aV l v/\Qv l[i].1=v
   ·obtain⟨i,hi,h1,h2⟩:=hi;obtain⟨m,j,Tf,Tg,hD⟩:=hG.dv i hi h1 h2;exact hD.mg
   ·exact(wY (l:=l) (v:=v) (by omega)).2.2.1
theorem Rk{l:List aB}{u:Nat}(h:(cD l u).2<=1):gw l u=(l.filter (dw u)).head? :=by
 have hc:=zk l u;rw[List.countP_eq_length_filter]at hc;unfold gw;by_cases h0:(cD l u).2=0
 ·rw[Gv h0,if_neg (by omega)];have:l.filter (dw u)=[]:=Kar.1 (by omega);rw[this];rfl
 ·obtain⟨e,bP,hm,_⟩:=wY (l:=l) (v:=u) (by omega);rw[e,if_pos (by omega),fO bP];have eo:l[aV l u]∈l.filter (dw u):=List.mem_filter.2 ⟨Kah _,by unfold dw;exact decide_eq_true hm⟩;generalize l.filter (dw u)=F at *
  match F,hc,eo with
  | [x],_,eo=>rw[KaP.1 eo];rfl
  | [],hc,_=>simp at hc;omega
  |_::_::_,hc,_=>simp at hc;omega
theorem Of{l:List aB}{u:Nat}{e:aB}(h:gw l u=some e):e∈l/\Qv e.1=u:=by
 unfold gw at h;split at h
 ·rename_i h0;have hn:1<=(cD l u).2:=by apply Decidable.byContradiction;intro hc;have:=Gv (l:=l) (v:=u) (by omega);omega
  obtain⟨_,bP,hm,_⟩:=wY hn;rw[fO bP]at h;cases h;exact⟨Kah _,hm⟩
 ·cases h
theorem fh.WC{v n:Nat}{l:List aB}{o:Except Int (List aB)}(h:fh v n l o)(hv:v<64):(∀l',o= .ok l'->jd v l l' (gw l' v) n/\(cD l' v).2<=1/\oT l')/\∀e,o= .error e->nD v e l n:=by
 induction h with
 | @stop l cQ hc=>
  refine⟨fun l' e=>?_,fun e h=>by cases h⟩;cases e;refine⟨?_,hc,cQ⟩;have hs:=FL cQ hv;by_cases h0:(cD l v).2=0
  ·have e:=Gv h0;have hf:gw l v=none:=by unfold gw;rw[e,if_neg (by omega)]
   rw[hf];rw[h0]at hs;exact jd.none l _ hs
  ·have h1:(cD l v).2=1:=by omega
   obtain⟨e,bP,hm,_⟩:=wY (l:=l) (v:=v) (by omega);have hf:gw l v=some l[aV l v]:=by unfold gw;rw[e,if_pos (by omega),fO bP]
   rw[hf];rw[h1,e]at hs;exact jd.one l _ bP hs
 | @fail l hG h2 hb=>refine⟨fun l' e=>(by cases e),fun e h=>?_⟩;cases h;have hs:=FL hG.lb hv;rw[hG.Lf]at hs;have hr:=P7 hG;rw[if_neg (by omega)]at hr;exact nD.fail l _ _ hs (by omega) ((sM l v).2.2 hb) hr
 | @step l n o hG h2 hb _ ih=>
  have hs:=FL hG.lb hv;rw[hG.Lf]at hs;have hr:=P7 hG;rw[if_pos hb]at hr;refine⟨fun l' e=>?_,fun e h=>?_⟩
  ·obtain⟨i1,i2,i3⟩:=ih.1 l' e;exact⟨jd.more l _ l' _ _ _ _ hs (by omega) hr i1,i2,i3⟩
  ·exact nD.more l _ _ _ _ hs (by omega) hr (ih.2 e h)
structure Path(v:Nat)(l:List aB)(o:Except Int (List aB))(Ls:Nat->List aB)(F:Option (Nat×Int)):Prop where
 top:Ls v=l
 lb:∀u,oT (Ls u)
 tn:∀u,u<v->(∀p,F=some p->p.1<u)->∃m,jd u (Ls (u+1)) (Ls u) (gw (Ls u) u) m
 tx:∀p,F=some p->p.1<v/\∃m,nD p.1 p.2 (Ls (p.1+1)) m
 ok:F=none->o= .ok (Ls 0)/\(∀u,u<v->(cD (Ls u) u).2<=1)/\∀u w,w<=u->w<=v->(Ls w).filter (dw u)=(Ls (min u v)).filter (dw u)
 er:∀p,F=some p->o= .error p.2
theorem Mk.path{v:Nat}{l:List aB}{o:Except Int (List aB)}(h:Mk v l o):∃Ls F,Path v l o Ls F:=by
 induction h with
 | @done l cQ=>exact⟨fun _=>l,none,rfl,fun _=>cQ,fun u hu=>absurd hu (by omega),fun p hp=>(by cases hp),fun _=>⟨rfl,fun u hu=>absurd hu (by omega),fun _ _ _ _=>rfl⟩,fun p hp=>(by cases hp)⟩
 | @bad v n l e hv hS=>
  refine⟨fun _=>l,some (v,e),rfl,fun _=>hS.wa,fun u hu hp=>?_,fun p hp=>?_,fun h=>(by cases h),fun p hp=>?_⟩
  ·have:=hp _ rfl;simp only at this;omega
  ·cases hp;exact⟨by show v<v+1;omega,n,(hS.WC hv).2 e rfl⟩
  ·cases hp;rfl
 | @next v n l l' o hv hS _ ih=>
  obtain⟨Ls,F,hP⟩:=ih;obtain⟨t1,t2,t3⟩:=(hS.WC hv).1 l' rfl;have am6:=hS.filter l' rfl;have cQ:∀u,oT (if u<=v then Ls u else l):=fun u=>by
   split
   ·exact hP.lb u
   ·exact hS.wa
  refine⟨fun u=>if u<=v then Ls u else l,F,?_,cQ,fun u hu hp=>?_,fun p hp=>?_,fun hF=>?_,hP.er⟩
  ·exact if_neg (by omega)
  ·by_cases e:u=v
   ·subst e;rw[if_neg (by omega),if_pos (Kac _),hP.top];exact⟨n,t1⟩
   ·rw[if_pos (by omega),if_pos (by omega)];exact hP.tn u (by omega) hp
  ·obtain⟨k1,m,k2⟩:=hP.tx p hp;refine⟨by omega,m,?_⟩;rw[if_pos (by omega)];exact k2
  ·obtain⟨k1,k2,k3⟩:=hP.ok hF;refine⟨by rw[if_pos (Kbw _)];exact k1,fun u hu=>?_,fun u w hw hu=>?_⟩
   ·rw[if_pos (by omega)];by_cases e:u=v
    ·subst e;rw[hP.top];exact t2
    ·exact k2 u (by omega)
   ·by_cases v7:w<=v
    ·rw[if_pos v7,k3 u w hw v7];by_cases e:u<=v
     ·have e1:min u v=u:=by omega
      have e2:min u (v+1)=u:=by omega
      rw[e1,e2,if_pos e]
     ·have e1:min u v=v:=by omega
      have e2:min u (v+1)=v+1:=by omega
      rw[e1,e2,if_neg (by omega),hP.top];exact am6 u (by omega)
    ·have e1:w=v+1:=by omega
     have e2:min u (v+1)=v+1:=by omega
     rw[e1,e2]
def ma(ps:List (List Tm))(i:Nat):aB:=di (ps.getD i []) (fP ps.length i)
theorem me.td{deg:Int}{p:List Tm}(h:me deg p):TD deg p:=fun t ht=>by have h1:=(ac8 p).1 t ht;rw[ae9 (by have:=(h.b t ht).m.len;omega)];have:=h.d;omega
theorem Ni{n i:Nat}{c:List Tm}(h:c∈fP n i):c=[]∨c=dQ 1:=by
 unfold fP at h;rcases KcS h with h|h
 ·exact .inl (KcX.1 h).2
 ·exact .inr h
theorem me.sz{p:List Tm}(h:me 2 p):SZ 9 8 2 p:=(SZ.of h.b h.l).Wq (Ob (T:=2) h.td ⟨3,2,h.b⟩)
theorem me.Ao{p:List Tm}(h:me 2 p):rs (fa p)<=29:=by
 unfold fa;split
 ·have:=nK;have e:((1:Int):Rat)=1:=rfl;rw[e];omega
 ·have:=(h.sz.Fg h.v.og ‹_›).2;omega
theorem me.pri{p:List Tm}(h:me 2 p){n i:Nat}(hn:n<=3):uv p (fP n i):=by
 refine⟨h.b.mono (by omega) (by omega),h.v.og,by have:=h.l;omega,by have:=h.Ao;omega,by unfold fP;simp;omega,fun c hc=>?_⟩;rcases Ni hc with rfl|rfl
 ·exact⟨PB.nil _ _,aC.nil,by simp⟩
 ·exact⟨SZ.MP.PB.mono (by omega) (by omega),CC 1,by decide+kernel⟩
theorem me.lv{p:List Tm}(h:me 2 p){n i:Nat}(hc:fu (di p (fP n i))=0):Lv n 0 2 (di p (fP n i))/\(p=[]∨0<=Qv (di p (fP n i)).1):=by
 have nX:uf (di p (fP n i))=false:=by
  unfold fu at hc;split at hc
  ·cases hc
  ·rename_i h1;simpa using h1
 have Ma:=nX;simp only[uf,Kcf]at nX;obtain⟨g1,g2⟩:=nX;rw[KbB]at g2;have hn:=h.v.og;have hf:=h.Ao;refine⟨⟨?_,TD.wj h.td hn.c _,sJ hn.s _,g1,ML.wj h.m hn.c _,fun y hy=>?_,?_⟩,?_⟩
 ·show SZ 1 17 2 (ch p (fa p));unfold fa;split
  ·rename_i h0;subst h0;rw[wP];exact SZ.nil _ _ _ (by omega) (by omega)
  ·exact(h.sz.Fg hn ‹_›).1.mono (Kac _) (by omega) (Kac _)
 ·obtain⟨c,iN,rfl⟩:=KaI.1 hy;have hs:SZ 1 1 0 c/\aC c:=by
   rcases Ni iN with rfl|rfl
   ·exact⟨SZ.nil _ _ _ (by omega) (by omega),aC.nil⟩
   ·exact⟨SZ.MP,CC 1⟩
  refine⟨(hs.1.scale hf).mono (by decide) (by decide) (by decide),sJ hs.2.s _,?_⟩;have:=g2 _ hy;simpa using this
 ·simp[di,fP]
 ·by_cases h0:p=[]
  ·exact .inl h0
  ·right;unfold fu at hc;rw[Ma]at hc;simp only[KaL,if_false]at hc;split at hc
   ·cases hc
   ·rename_i qP;have aP:0<(di p (fP n i)).1.length:=by show 0<(ch p (fa p)).length;rw[Si hn.z (Oc hn)];exact Kbq.2 h0
    omega
def kO(ps:List (List Tm)):Nat:=o4 (fun i=>decide (fu (ma ps i)≠0)) ps.length 0
theorem Sk(ps:List (List Tm)):kO ps<=ps.length/\(∀i,i<kO ps->fu (ma ps i)=0)/\(kO ps<ps.length->fu (ma ps (kO ps))≠0):=by
 obtain⟨h1,h2,h3,h4⟩:=Gk (fun i=>decide (fu (ma ps i)≠0)) ps.length 0;refine⟨by unfold kO;omega,fun i hi=>?_,fun h=>?_⟩
 ·have:=h3 i (by omega) hi;simpa using this
 ·have:=h4 (by unfold kO at h;omega);simpa[kO]using this
inductive wu(ps:List (List Tm)):Except Int (List aB)->Prop
 |bad:kO ps<ps.length->wu ps (.error (fu (ma ps (kO ps))))
 |go {o:Except Int (List aB)}:kO ps=ps.length->Mk 64 (gu (ma ps) ps.length) o->(∀l',o= .ok l'->l'.length<=3/\∀x∈l',qA ps.length x)->wu ps o
theorem z7{ps:List (List Tm)}{i:Nat}(hi:i<ps.length):ma ps i=di ps[i] (fP ps.length i):=by
 unfold ma;have:ps.getD i []=ps[i]:=by simp[hi]
 rw[this]
theorem ajH{ps:List (List Tm)}(hl:ps.length<=3)(hF:∀p∈ps,me 2 p):∃o,wu ps o:=by
 obtain⟨b1,b2,b3⟩:=Sk ps;by_cases hb:kO ps=ps.length
 ·have hA:xG ps.length ((64:Nat)-1:Int) (gu (ma ps) ps.length):=by
   have cu:∀x∈gu (ma ps) ps.length,Lv ps.length 0 2 x/\0<=Qv x.1:=fun x hx=>by
    unfold gu at hx;obtain⟨i,hi,hx⟩:=Kaq.1 hx;have hi:i<ps.length:=Kco.1 hi;unfold tc at hx;split at hx
    ·rename_i gS;rw[KaP]at hx;subst hx;have h0:=b2 i (by omega);rw[z7 hi]at h0 gS⊢;obtain⟨k1,k2⟩:=(hF _ (Kah hi)).lv h0;refine⟨k1,k2.resolve_left fun e=>?_⟩;rw[e]at gS;have:(di [] (fP ps.length i)).1=[]:=by
      show ch [] (fa [])=[]
      exact wP _
     rw[this]at gS;simp at gS
    ·cases hx
   refine .inl ⟨Kay (Dj _ _) hl,fun x hx=>?_,fun x hx _=>(cu x hx).1⟩;exact(cu x hx).1.fin (by omega) (by omega) (cu x hx).2
  obtain⟨o,h1,h2⟩:=P8 hl 64 _ (Kac _) hA;exact⟨o,.go hb h1 h2⟩
 ·exact⟨_,.bad (by omega)⟩
theorem Sl{α β:Type}{f g:α->Option β}:∀ {l:List α},(∀x∈l,f x=g x)->l.filterMap f=l.filterMap g
 | [],_=>rfl
 |x::l,h=>by rw[Kbk,Kbk,h x (by simp),Sl fun y hy=>h y (by simp[hy])]
theorem abQ{ps:List (List Tm)}(hl:ps.length<=3)(hF:∀p∈ps,me 2 p){o:Except Int (List aB)}(h:wu ps o):Qc Tryz.prog 8 [PV.bZ ps] (· =vj o)/\Qc Tryz.prog 9 [PV.bZ ps] (· =vj o):=by
 obtain⟨b1,b2,b3⟩:=Sk ps;have hP:∀i (h:i<ps.length),uv ps[i] (fP ps.length i):=fun i hi=>(hF _ (Kah hi)).pri hl;have aF:=N9 (ps:=ps) (R:=ma ps) (bad:=kO ps) (er:=fu (ma ps (kO ps))) (by omega) b1 (fun i hi hb=>by
  have h0:=b2 i hb;have hs:=Ic (hP i hi);rw[<-z7 hi,h0]at hs;refine⟨hs,?_⟩;rw[z7 hi];have:=(hP i hi).x.2.2.1;omega) (fun hb=>by
  have h0:=b3 hb;have hs:=Ic (hP _ hb);rw[<-z7 hb]at hs;unfold yq at hs;rw[if_neg h0]at hs;exact⟨h0,hs⟩)
 have hr:∀o',(kO ps=ps.length->Mk 64 (gu (ma ps) ps.length) o')->Qc Tryz.prog 9 [PV.bZ ps] (· =if kO ps=ps.length then vj o' else .au [PV.cd [],.int .i64 (fu (ma ps (kO ps)))]):=fun o' vV=>
  adQ (P:=ma ps) (by omega) (fun i hi=>by
   have:=G2 (hP i hi)
   rwa[<-z7 hi]at this) b1 b2 b3 vV
 cases h with
 |bad hb=>have hr:=hr (.ok []) (fun e=>by omega);rw[if_neg (by omega)]at hr aF;exact⟨YW (b3 hb) aF,hr⟩
 | go hb hM _=>
  have hr:=hr o (fun _=>hM);rw[if_pos hb]at hr aF;refine⟨?_,hr⟩;obtain⟨Ls,F,xR⟩:=hM.path;have hG:=OT (F:=F) (Ls:=Ls) (K:=fun u=>gw (Ls u) u) (list:=ps) (by rw[xR.top];exact aF) (fun v hv hp=>xR.tn v hv hp) (fun p hp=>xR.tx p hp) (fun v e he=>((xR.lb v).el e (Of he).1).2.2.2);have dq:MU F (fun u=>gw (Ls u) u)=vj o:=by
   cases xQ:F with
   | none=>
    obtain⟨k1,k2,k3⟩:=xR.ok xQ;rw[k1];show PV.au [PV.cd ((List.range 64).filterMap fun u=>gw (Ls u) u),.int .i64 0]=PV.au [PV.cd (rN (Ls 0)),.int .i64 0];have:(List.range 64).filterMap (fun u=>gw (Ls u) u)=rN (Ls 0):=by
     unfold rN;refine Sl fun u hu=>?_;have hu:u<64:=Kco.1 hu;have hf:(Ls 0).filter (dw u)=(Ls u).filter (dw u):=by have h1:=k3 u 0 (by omega) (by omega);have h2:=k3 u u (Kac _) (by omega);rw[h1,h2]
     have c1:=k2 u hu;have c2:(cD (Ls 0) u).2<=1:=by rw[zk,List.countP_eq_length_filter,hf,<-List.countP_eq_length_filter,<-zk];exact c1
     rw[Rk c1,Rk c2,hf]
    rw[this]
   |some p=>rw[xR.er p xQ];rfl
  rwa[dq]at hG
def iG(p:List Tm)(cs:List (List Tm)):List Tm×List (List Tm):=(ch p (dI p),cs.map (fun c=>ch c (dI p)))
def PX(p:List Tm)(cs:List (List Tm)):Bool:=Bx 100 10 p&&(BV p&&(decide (0<p.length)&&(decide (p.length<=10)&&(decide (cs.length<=10)&&(cs.all (fun c=>Bx 100 10 c&&decide (c.length<=10))&&(decide (rs (dI p)+1<=100)&&(Bx 100 10 (iG p cs).1&&(decide (bf (iG p cs).1=false)&&(decide (0<(iG p cs).1.length)&&(decide ((iG p cs).1.length<=10)&&(decide (0<=Qv (iG p cs).1)&&((iG p cs).2.all (fun c=>Bx 100 10 c&&(decide (c.length<=10)&&decide (bf c=false)))))))))))))))
theorem Ih{p:List Tm}{cs:List (List Tm)}(h:PX p cs=true):Qc Tryz.prog 66 [PV.aj p,PV.bZ cs] (· = .au [PV.el (iG p cs),.int .i64 0]):=by
 simp only[PX,Kat,decide_eq_true_eq,Kax]at h;obtain⟨h1,h2,h3,h4,h5,h6,h7,h8,h9,bF,cn,bK,bU⟩:=h;have hlen:(iG p cs).2.length=cs.length:=by simp[iG]
 refine XD (p:=p) (q:=(iG p cs).1) (cs:=cs) (ds:=(iG p cs).2) (a:=dI p) hlen (by omega) ?_ (fun i hi=>?_) ?_ bF ?_ ?_
 ·exact P' (K:=100) (E:=10) (dh h1) (s9 h2) (Kbq.1 h3) (by omega) (by omega) (by omega)
 ·have hc:=h6 _ (Kah hi);have e:(iG p cs).2.getD i []=ch cs[i] (dI p):=by simp[iG,hi]
  rw[e];exact Cb (K:=100) (E:=10) (dh hc.1) h7 (by omega) (by omega) (by omega)
 ·have:=Dp (p:=(iG p cs).1) (E:=10) (fun t ht=>((dh h8) t ht).m) (by omega)
  rwa[h9]at this
 ·have:=QA (p:=(iG p cs).2) (f:=61) (g:=bf) (fun t ht=>by have hc:=bU t ht;exact Dp (E:=10) (fun s hs=>((dh hc.1) s hs).m) (by omega)) (by omega)
  rwa[show(iG p cs).2.any bf=false from by rw[KbB];intro t ht;have hc:=bU t ht;simp[hc.2.2]]at this
 ·have:=Sf (p:=(iG p cs).1) (K:=100) (E:=10) (dh h8) (by omega)
  rwa[show decide (Qv (iG p cs).1<0)=false from decide_eq_false (by omega)]at this
abbrev eH:List Tm:=[(1,[])]
abbrev jE:List Tm:=[(1,[1])]
abbrev l7:List Tm:=[(1,[0,1]),(-1,[1])]
abbrev oO:List Tm:=[(1,[0,1]),(1,[1])]
abbrev gP:List Tm:=[(1,[1,1]),(-1,[])]
abbrev nc:List Tm:=[(1,[0,2])]
abbrev E0:List Tm×List (List Tm):=(l7,[eH,[]])
abbrev E1:List Tm×List (List Tm):=(oO,[[],eH])
abbrev E2:List Tm×List (List Tm):=(jE,[[(mkRat (-1) 2,[])],[(mkRat 1 2,[])]])
theorem aku:iG l7 (fP 2 0)=E0:=by decide+kernel
theorem akv:iG oO (fP 2 1)=E1:=by decide+kernel
theorem akw:iG [(2,[1])] (cY eH eH E1.2 E0.2)=E2:=by decide+kernel
theorem adR:Qc Tryz.prog 27 [PV.bZ [l7,oO]] (· = .au [PV.cd [E0,E1],.int .i64 0]):=by
 have h:=agH (ps:=[l7,oO]) (R:=fun i=>if i=0 then E0 else E1) (by simp) (fun i hi=>by
  have:i=0∨i=1:=by simp at hi;omega
  rcases this with rfl|rfl
  ·have:=Ih (p:=l7) (cs:=fP 2 0) (by decide+kernel)
   rwa[aku]at this
  ·have:=Ih (p:=oO) (cs:=fP 2 1) (by decide+kernel)
   rwa[akv]at this) (fun i hi=>by split<;>simp)
 exact h
theorem agX:mP l7 1 1 2 [] oO 0=some (eH,[(2,[1])],1):=by decide+kernel
theorem ajI:Qc Tryz.prog 57 [PV.aj oO,PV.aj l7,.int .i64 (1:Nat)] (· = .au [PV.aj eH,PV.aj [(2,[1])],.int .i64 (1:Nat),.int .i64 0]):=by
 have h:=FR (f:=oO) (g:=l7) (v:=1) (d:=1) (N:=2) (K:=100) (E:=10) (M:=10) (s9 (by decide+kernel)) (s9 (by decide+kernel)) (dh (by decide+kernel)) (by omega) (by simp) (by decide+kernel) (by decide+kernel) (by decide+kernel) (fun k hk=>by
  have:k=0∨k=1:=by omega
  rcases this with rfl|rfl<;>exact⟨dh (by decide+kernel),dh (by decide+kernel)⟩) (by simp) (by omega) (by omega) (by omega) (by omega) (by omega) (by omega) (by omega)
 rwa[zT,agX]at h
theorem agY:cy l7=eH:=by decide+kernel
theorem ajJ:cF eH 1=eH:=by decide+kernel
theorem ZX:Qc Tryz.prog 69 [PV.el E1,PV.el E0,.int .i64 (1:Nat)] (· = .au [PV.el E2,.int .i64 0]):=by
 refine Te (f:=E1) (g:=E0) (v:=1) (q:=eH) (r:=[(2,[1])]) (c:=eH) (n:=1) (x:=E2) (e:=0) (by simp) rfl ajI ?_ ?_ ?_ ?_ ?_ ?_
 ·exact FN (K:=100) (E:=10) (dh (by decide+kernel)) (by simp)
 ·have h:=H6 (p:=eH) (n:=1) (K:=100) (E:=10) (L:=10) (by omega) (dh (by decide+kernel)) (fun i hi=>by
   have:i=0∨i=1:=by omega
   rcases this with rfl|rfl<;>exact⟨dh (by decide+kernel),by decide+kernel⟩) (by simp) (by omega) (by omega) (by omega) (by omega)
  rw[ajJ]at h;show Qc Tryz.prog _ [PV.aj (cy l7),_] _;rw[agY];exact h
 ·intro y hy;have:y=[]∨y=eH:=by simpa using hy
  rcases this with rfl|rfl<;>exact rh (K:=100) (E:=10) (dh (by decide+kernel)) (dh (by decide+kernel)) (by omega) (by simp) (by simp) (by simp) (by simp) (by omega)
 ·intro y hy;have:y=eH∨y=[]:=by simpa using hy
  rcases this with rfl|rfl<;>exact rh (K:=100) (E:=10) (dh (by decide+kernel)) (dh (by decide+kernel)) (by omega) (by simp) (by simp) (by simp) (by simp) (by omega)
 ·intro y hy z hz;have h1:y=[]∨y=eH:=by simpa using hy
  have h2:z=eH∨z=[]:=by simpa using hz
  rcases h1 with rfl|rfl<;>rcases h2 with rfl|rfl<;>exact GA (K:=100) (E:=10) (dh (by decide+kernel)) (dh (by decide+kernel)) (by omega) (by omega) (by omega) (Kay (by decide+kernel:_<=10) (by omega)) (Kay (by decide+kernel:_<=10) (by omega))
 ·have h:=Ih (p:=[(2,[1])]) (cs:=cY eH eH E1.2 E0.2) (by decide+kernel)
  rwa[akw]at h
theorem PY:∀x∈[E0,E1,E2],PB 100 10 x.1/\x.1.length<=2^30:=by
 intro x hx;have:x=E0∨x=E1∨x=E2:=by simpa using hx
 rcases this with rfl|rfl|rfl<;>exact⟨dh (by decide+kernel),by simp⟩
theorem adS:Qc Tryz.prog 29 [PV.cd [E0,E1],.int .i64 (0:Nat),.int .i64 (1:Nat)] (· = .au [PV.cd [E0,E2],.int .i64 0]):=by
 have h:=agG (l:=[E0,E1]) (at_:=0) (v:=1) (K:=100) (E:=10) (R:=fun _=>E2) (by simp) (by simp) (fun x hx=>PY x (by simp at hx ⊢;rcases hx with h|h<;>simp[h])) (fun i hi h0 hm=>by
  have:i=1:=by simp at hi;omega
  subst this;exact ZX) (fun _ _ _=>by simp)
 have e:eB [E0,E1] 0 1 (fun _=>E2) 2=[E0,E2]:=by decide+kernel
 have h2:([E0,E1]:List (List Tm×List (List Tm))).length=2:=rfl;rw[h2,e]at h;exact h
theorem Da{l:List (List Tm×List (List Tm))}{v:Nat}{a:Int}{n:Nat}(hl:∀x∈l,x∈[E0,E1,E2])(gh:l.length<=100)(hv:v<64)(h:cD l v=(a,n)):Qc Tryz.prog 28 [PV.cd l,.int .i64 v] (· = .au [.int .i64 a,.int .i64 n]):=by
 have:=Pb (l:=l) (v:=v) (K:=100) (E:=10) hv (fun x hx=>PY x (hl x hx)) (by omega) (by omega) gh
 rwa[h]at this
theorem ajK:∀v,v<64->2<=v->cD [E0,E1] v=(-1,0):=by decide+kernel
def Ae(v:Nat):Option (List Tm×List (List Tm)):=if v=0 then some E2 else if v=1 then some E0 else none
theorem agZ:Qc Tryz.prog 8 [PV.bZ [l7,oO]] (· = .au [PV.cd [E2,E0],.int .i64 0]):=by
 have h:=ahA (list:=[l7,oO]) (Ls:=fun v=>if 2<=v then [E0,E1]else [E0,E2]) (K:=Ae) adR (fun v hv=>?_) (fun v e h=>?_)
 ·have e:(List.range 64).filterMap Ae=[E2,E0]:=by decide+kernel
  rw[e]at h;exact h
 ·by_cases h2:2<=v
  ·refine⟨0,?_⟩;have e1:Ae v=none:=by unfold Ae;rw[if_neg (by omega),if_neg (by omega)]
   rw[e1];simp only[h2,if_true,show 2<=v+1 by omega];exact jd.none _ (-1) (Da (by simp) (by simp) hv (ajK v hv h2))
  ·have:v=0∨v=1:=by omega
   rcases this with rfl|rfl
   ·refine⟨0,?_⟩;exact jd.one [E0,E2] 1 (by simp) (Da (by simp) (by simp) hv (by decide+kernel))
   ·refine⟨1,?_⟩;exact jd.more [E0,E1] [E0,E2] [E0,E2] (0:Nat) (2:Nat) (some E0) 0 (Da (by simp) (by simp) hv (by decide+kernel)) (by simp) adS (jd.one [E0,E2] 0 (by simp) (Da (by simp) (by simp) hv (by decide+kernel)))
 ·unfold Ae at h;split at h
  ·cases h;simp
  ·split at h
   ·cases h;simp
   ·cases h
abbrev na:List Tm:=[(1,[0,1])]
abbrev Ad(f _:List Tm):Option (List Tm×List Tm×Nat):=mP gP 1 1 3 [] f 0
theorem adT:mP gP 1 1 3 [] nc 0=some ([(1,[1,1]),(1,[])],eH,2):=by decide+kernel
instance apr : DecidableEq qB := instDecidableEqProd
theorem adu:tl [gP] Ad 1 ([0],[[]],nc)=some ([2],[[(1,[1,1]),(1,[])]],eH):=by decide+kernel
theorem FM:yB 100 10 gP:=⟨dh (by decide+kernel),(s9 (by decide+kernel)).Wp (dh (K:=100) (E:=10) (by decide+kernel)) (by omega),by simp⟩
theorem aj3:yB 100 10 nc:=⟨dh (by decide+kernel),(s9 (by decide+kernel)).Wp (dh (K:=100) (E:=10) (by decide+kernel)) (by omega),by simp⟩
theorem ag0:PT 60 61 58 59 57 41 gP 0 (Ad nc gP) ([0],[[]],nc):=by
 have hm:Qv gP=1:=by decide+kernel
 have hi:cy gP=jE:=by decide+kernel
 have hd:Ad nc gP=some ([(1,[1,1]),(1,[])],eH,2):=adT;refine⟨?_,?_,?_,fun q r n h=>?_,fun q r n h k hk mV=>?_,fun q r n h k hk mV=>?_⟩
 ·exact wD (K:=100) (E:=10) FM.b (by simp)
 ·rw[hm];have h:=FR (f:=nc) (g:=gP) (v:=1) (d:=1) (N:=3) (K:=100) (E:=10) (M:=10) (s9 (by decide+kernel)) (s9 (by decide+kernel)) (dh (by decide+kernel)) (by omega) (by simp) (by decide+kernel) (by decide+kernel) (by decide+kernel) (fun k hk=>by
   have:k=0∨k=1∨k=2:=by omega
   rcases this with rfl|rfl|rfl<;>exact⟨dh (by decide+kernel),dh (by decide+kernel)⟩) (by simp) (by omega) (by omega) (by omega) (by omega) (by omega) (by omega) (by omega)
  rwa[zT]at h
 ·exact FN (K:=100) (E:=10) FM.b (by simp)
 ·rw[hd]at h;obtain⟨rfl,rfl,rfl⟩:[(1,[1,1]),(1,[])]=q/\eH=r/\2=n:=by simpa using h
  rw[hi];exact H6 (p:=jE) (n:=2) (K:=100) (E:=10) (L:=10) (by omega) (dh (by decide+kernel)) (fun i hi=>by
   have:i=0∨i=1∨i=2:=by omega
   rcases this with rfl|rfl|rfl<;>exact⟨dh (by decide+kernel),by decide+kernel⟩) (by simp) (by omega) (by omega) (by omega) (by omega)
 ·simp at hk;omega
 ·simp at hk;omega
theorem abR:Qc Tryz.prog 23 [PV.aj nc,PV.bZ [gP]] (· = .au [PV.BB ([2],[[(1,[1,1]),(1,[])]],eH),.int .i64 0]):=by
 have hc:An (-1) [gP]=true:=by decide+kernel
 have hR:=adJ (gs:=[gP]) (by simp) (fun p hp=>by rw[KaP.1 hp];exact FM) (by omega) (by omega);rw[hc]at hR;have h:=adH (p:=nc) (gs:=[gP]) (D:=Ad) (G:=fun i s=>i=0∨s=([0],[[]],nc)) (by simp) (adK aj3 (by omega)) hR (.inr rfl) (fun i hi s hs=>by
  have:i=0:=by simp at hi;omega
  subst this;have:s=([0],[[]],nc):=hs.resolve_left (by omega);subst this;exact⟨ag0,fun s' _=>.inl rfl⟩)
 have e:tl [gP] Ad [gP].length (List.replicate [gP].length 0,List.replicate [gP].length [],nc)=some ([2],[[(1,[1,1]),(1,[])]],eH):=adu;rw[e]at h;exact h
theorem ak4:vr 0=jE:=by decide+kernel
theorem ak5:vr 1=na:=by decide+kernel
theorem ajL:fY na jE=l7:=by decide+kernel
theorem ajM:Q7 na jE=oO:=by decide+kernel
theorem aj4:mF na na=nc:=by decide+kernel
theorem aj5:mF jE na=[(1,[1,1])]:=by decide+kernel
theorem ajN:dQ ((1:Int):Rat)=eH:=by decide+kernel
theorem ak3:fY [(1,[1,1])] eH=gP:=by decide+kernel
theorem xl{p:List Tm}(h:BV p=true):NZ p:=(s9 h).z
theorem ag1:Qc Tryz.prog 7 [] (· = .bool true):=by
 have hx:Qc Tryz.prog 20 [.int .i64 (0:Nat)] (· =PV.aj jE):=by have:=Rg (v:=0) (by omega);rwa[show vr ((0:Nat):Int)=jE from ak4]at this
 have hy:Qc Tryz.prog 20 [.int .i64 (1:Nat)] (· =PV.aj na):=by have:=Rg (v:=1) (by omega);rwa[show vr ((1:Nat):Int)=na from ak5]at this
 have h1:=Ck (p:=na) (q:=jE) (K:=100) (E:=10) (dh (by decide+kernel)) (dh (by decide+kernel)) (xl (by decide+kernel)) (by omega) (by omega) (by omega) (by simp) (by simp);rw[ajL]at h1;have h2:=Cj (p:=na) (q:=jE) (K:=100) (E:=10) (dh (by decide+kernel)) (dh (by decide+kernel)) (by omega) (by omega) (by simp) (by simp);rw[ajM]at h2;have h3:=rj (p:=na) (q:=na) (K:=100) (E:=10) (dh (by decide+kernel)) (dh (by decide+kernel)) (xl (by decide+kernel)) (xl (by decide+kernel)) (by omega) (by simp) (by simp) (by simp) (by simp);rw[aj4]at h3;have h4:=rj (p:=jE) (q:=na) (K:=100) (E:=10) (dh (by decide+kernel)) (dh (by decide+kernel)) (xl (by decide+kernel)) (xl (by decide+kernel)) (by omega) (by simp) (by simp) (by simp) (by simp);rw[aj5]at h4;have h5:=GH (a:=((1:Int):Rat)) (k:=1) (by have:((1:Int):Rat)=1:=rfl;rw[this];exact nK) (by omega);rw[ajN]at h5;have r9:=uL (x:=1) (by omega) (by omega);have h6:=Ck (p:=[(1,[1,1])]) (q:=eH) (K:=100) (E:=10) (dh (by decide+kernel)) (dh (by decide+kernel)) (xl (by decide+kernel)) (by omega) (by omega) (by omega) (by simp) (by simp);rw[ak3]at h6;have h7:=B7 (p:=jE) (q:=jE) (K:=100) (E:=10) (dh (by decide+kernel)) (dh (by decide+kernel)) (by omega) (by omega) (by simp) (by simp);rw[decide_eq_true (p:=jE=jE) rfl]at h7;have h8:=B7 (p:=eH) (q:=eH) (K:=100) (E:=10) (dh (by decide+kernel)) (dh (by decide+kernel)) (by omega) (by omega) (by simp) (by simp);rw[decide_eq_true (p:=eH=eH) rfl]at h8;have hM:=agZ;obtain⟨c2,iM⟩:∃c2,E2=(jE,c2):=⟨_,rfl⟩
 obtain⟨c0,vH⟩:∃c0,E0=(l7,c0):=⟨_,rfl⟩
 rw[iM,vH]at hM;have hR:=abR;generalize([[(1,[1,1]),(1,[])]]:List (List Tm))=qq at hR;generalize tW:([(1,[1,1])]:List Tm)=mm at *
 clear iM vH tW;have n1:jE.length=1:=rfl;generalize jE=vx at *
 generalize na=vy at *
 generalize l7=p0 at *
 generalize oO=p1 at *
 generalize nc=yy at *
 generalize gP=gg at *
 generalize eH=on at *
 generalize((1:Int):Rat)=r1 at *
 refine Qf Qj Tryz.func7 rfl akq (by simp[c7]) fun C hP=>?_;simp only[c7,Zo,Zg,Zm,Zc,Zf,Zl,Zh,Zs,Zi,Zb,Zk,Zn,Zu,Zq,Zr,Zz];refine Sz0 ?_;refine Qa hP hx rfl rfl rfl ?_;refine Sz0 ?_;refine Qa hP hy rfl rfl rfl ?_;refine Sz0 ?_;refine Qa hP h1 rfl rfl rfl ?_;refine Sz0 ?_;refine Qa hP h2 rfl rfl rfl ?_;refine Sz0 ?_;refine iE hP hM BT rfl ?_;refine eC ?_;refine Qa hP h3 rfl rfl rfl ?_;refine eC ?_;refine Qa hP h4 rfl rfl rfl ?_;refine eC ?_;refine Qa hP r9 rfl rfl rfl ?_;refine eC ?_;refine Qa hP h5 rfl rfl rfl ?_;refine eC ?_;refine Qa hP h6 rfl rfl rfl ?_;refine eC ?_;refine iE hP hR BT rfl ?_;refine eC ?_;refine Qa hP h7 rfl rfl rfl ?_;refine eC ?_;refine Qa hP r9 rfl rfl rfl ?_;refine eC ?_;refine Qa hP h5 rfl rfl rfl ?_;refine eC ?_;refine Qa hP h8 rfl rfl rfl ?_;refine eC ?_;exact Qd rfl rfl
def c3:az:=⟨32,[.t 2],Zr (Zo (.mv 2 (.c (.bool false))) .nil)<| .seq (Zr (Zm 7 0<|Zq 8 false 6 [.t 7,.c (Zz 3),.c (Zz 2)]<|Zu 9 8 .nil)<| .cond (.t 9) (Zr (Zq 10 false 7 []<|Zm 2 10 .nil) .ret) .skip)<|Zr (Zm 12 0<|Zq 13 false 8 [.t 12]<|Zm 11 13<|Zo (.ext 14 (.t 11) 0)<|Zo (.ext 15 (.t 11) 1)<|Zm 3 14<|Zm 4 15 .nil)<|Zr (Zm 17 0<|Zq 18 false 9 [.t 17]<|Zm 16 18<|Zo (.ext 19 (.t 16) 0)<|Zo (.ext 20 (.t 16) 1)<|Zm 5 19<|Zm 6 20 .nil)<|Zr (Zm 21 3<|Zm 22 5<|Zq 23 false 10 [.t 21,.t 22]<|Zm 24 23<|Zg 24 true (.mv 25 (.t 4))<|Zg 24 true (.mv 26 (.t 6))<|Zg 24 true (.bin 27 .eql false (.t 25) (.t 26))<|Zo (.pick 28 (.t 24) (.t 27) (.c (.bool false)))<|Zm 29 28<|Zg 29 true (.call (some 30) false (.c (.fn 7 [] [])) [])<|Zo (.pick 31 (.t 29) (.t 30) (.c (.bool false)))<|Zm 2 31 .nil) .ret⟩
theorem aj6:Qe Tryz.prog Tryz.f3=some c3:=by kernel_rfl
theorem Qu5{l:List aB}{K E:Nat}(h:∀x∈l,PB K E x.1/\x.1.length<=2^36/\x.2.length<=100/\∀y∈x.2,PB K E y/\y.length<=2^36)(hl:l.length<=100)(hK:K<=2^33)(hE:E<=2^38):
  Qc Tryz.prog 10 [PV.cd l,PV.cd l] (· = .bool true):=by
 refine Qf Qj Tryz.func10 rfl ajD (by simp[Io]) fun C hP=>?_;simp only[Io,Zo,Zg,Zm,Zc,Zf,Zl,Zh,Zs,Zi,Zb,Zk,Zn,Zu,Zq,Zr,Zz];refine Sz0 ?_;refine Qz (by repeat (first|exact Qs|exact Ql|exact Qm|exact Qn|exact Qo|apply Qk|apply Qr|apply Qx|apply Q4|apply Q5|apply Qi|apply Q2)) [(4,5),(11,42)] [] (fun m J hp=>∃i,m=l.length-i/\i<=l.length/\J 5= .int .i64 (i:Nat)) l.length ?_ ?_
 ·refine⟨0,rfl,by omega,?_⟩;refine Sz0 ?_
  try (first|rfl|exact⟨rfl,rfl⟩)
 rintro _ J hh ⟨i,rfl,hi,j5⟩;by_cases c1:i<l.length
 ·have d1:decide ((i:Int)<(l.length:Int))=true:=decide_eq_true (by omega);obtain⟨h1,h2,h3,h4⟩:=h _ (Kah c1);generalize hx:l[i]=x at *
  have hq:=B7 h1 h1 hK hE h2 h2;rw[decide_eq_true rfl]at hq;have hs:=Qw0 (l:=x.2) h4 hK hE (by omega);refine Sz3 j5 d1 hx ?_;refine Qa hP hq rfl rfl rfl ?_;refine Sz3 j5 d1 hx ?_;refine Qa hP hs rfl rfl rfl ?_;refine Sz3 j5 d1 hx ?_;refine Qh (l.length-(i+1)) (by omega) ⟨i+1,rfl,by omega,?_⟩;refine Sz0 ?_
  try trivial
 ·obtain rfl:i=l.length:=by omega
  have d1:decide ((l.length:Int)<(l.length:Int))=false:=decide_eq_false (by omega);refine Sz2 j5 d1 ?_;exact Qd rfl rfl
theorem adv{l:List aB}{x:aB}(h:x∈rN l):x∈l:=by unfold rN at h;obtain⟨u,_,hu⟩:=KbR.1 h;exact(Of hu).1
theorem qA.b{m:Nat}{x:aB}(h:qA m x)(hm:m<=3):PB 900000 5000 x.1/\x.1.length<=4000/\x.2.length<=3/\∀y∈x.2,PB 900000 5000 y/\aC y/\y.length<=4000:=by have h6:=M';refine⟨h.lv.pb.mono (by omega) (by omega),h.lv.len,by rw[h.lv.k];exact hm,fun y hy=>?_⟩;obtain⟨c1,c2,c3⟩:=h.lv.c y hy;exact⟨c1.PB.mono (by omega) (by omega),c2,qd c3⟩
theorem adw(l:List aB):(rN l).length<=64:=by unfold rN;exact Kay (Kcb _ _) (by simp)
theorem wu.same{ps:List (List Tm)}(hl:ps.length<=3){o:Except Int (List aB)}(h:wu ps o):∃L e,vj o= .au [PV.cd L,.int .i64 e]/\L.length<=64/\(∀x∈L,qA ps.length x)/\(e=0∨L=[]):=by
 cases h with
 |bad _=>exact⟨[],_,rfl,by simp,(fun x hx=>by cases hx),.inr rfl⟩
 | @go o _ _ h=>
  cases o with
  |error e=>exact⟨[],e,rfl,by simp,(fun x hx=>by cases hx),.inr rfl⟩
  |ok l=>exact⟨rN l,0,rfl,adw l,fun x hx=>(h l rfl).2 x (adv hx),.inl rfl⟩
theorem Qrf{ls:List (List bc)}(hl:ls.length<=1048576)(hp:∀l∈ls,l.length<=1048576/\∀t∈l,RB 1048576 t):Qc Tryz.prog 3 [.sl 1 (ls.map PV.kG)] (· = .bool true):=by
 have UC:=ag1;have Ex:=akt (ls:=ls) (most:=3) (deg:=2) hl hp (by omega);refine Qf Qj Tryz.func3 rfl aj6 (by simp[c3]) fun C hP=>?_;simp only[c3,Zo,Zg,Zm,Zc,Zf,Zl,Zh,Zs,Zi,Zb,Zk,Zn,Zu,Zq,Zr,Zz];refine Sz0 ?_;cases h2:vk ls 3 2
 ·rw[h2]at Ex;refine Qa hP Ex rfl rfl rfl ?_;refine Sz0 ?_;refine Qa hP UC rfl rfl rfl ?_;refine Sz0 ?_;exact Qd rfl rfl
 rw[h2]at Ex;obtain⟨k1,k2,k3⟩:=agW (fun l h=>(hp l h).2) h2;have nV:(M3 ls).length<=3:=by simpa using k1
 obtain⟨o,hM⟩:=ajH nV k3;obtain⟨m1,m2⟩:=abQ nV k3 hM;obtain⟨L,e,he,hL1,hL2,_⟩:=hM.same nV;rw[he,<-k2]at m1 m2;have hSm:=Qu5 (l:=L) (K:=900000) (E:=5000) (fun x hx=>by obtain⟨b1,b2,b3,b4⟩:=(hL2 x hx).b nV;exact⟨b1,by omega,by omega,fun y hy=>⟨(b4 y hy).1,by have:=(b4 y hy).2.2;omega⟩⟩) (by omega) (by omega) (by omega);refine Qa hP Ex rfl rfl rfl ?_;refine Sz0 ?_;refine Qa hP m1 rfl rfl rfl ?_;refine Sz0 ?_;refine Qa hP m2 rfl rfl rfl ?_;refine Sz0 ?_;refine Qa hP hSm rfl rfl rfl ?_;have kT:(e==e)=true:=by simp
 refine Sz1 kT ?_;refine Qa hP UC rfl rfl rfl ?_;refine Sz0 ?_;exact Qd rfl rfl
open Go Go.FW Go.ChangeShapes Go.WideShapes Go.ChangeAt Go.RowKit
theorem Qnm(H:Type)(enc:TypeId×Value->H)(W:World)(base:Nat)(args:Array Value)(ds gs:List (DataW H))(before:List MemPlace)
  (gN:∀(j:Nat) t v,Tryz.f3.params[j]? =some t->args[j]? =some v->Value.okWide Tryz.prog W .any base t v)
  (hW:DataW.Whole enc Tryz.prog Tryz.f3.params.toList Rows.triangularMakesSpec.vars false W args.toList ds gs before) (hk:Rows.uptoSmall H (ds++gs)=true):
  Calls Tryz.prog 3 args W fun e W'=>∃v,e= .returned v/\Rows.triangularMakesSpec.post enc Tryz.prog Tryz.f3 false true false false W args v W':=by
 have Ax:=hW;obtain⟨p,q,hA0,hV,rfl,lP,Mh⟩:=hW;have hA:DataW.TrodAll enc Tryz.prog W 0 (fun _=>true) true Tryz.f3.params.toList args.toList ds p:=hA0;rw[Tryz.params3]at hA gN;obtain⟨v0,vs0,e0,ds0,p0,q0,dM,rfl,rfl,h0,r0⟩:=trodAll_cons hA;obtain⟨rfl,rfl,rfl⟩:=trodAll_nil r0;obtain rfl:args= #[v0]:=by cases args;simp_all
 obtain⟨rfl,rfl⟩:=trodVars_none hV;have hb:=ada hk;simp only[Kak,Rows.uptoBulkAll]at hb;obtain⟨a0,g0,b0⟩:=abD (gN 0 _ v0 rfl rfl) h0 (by omega);exact abE Ax rfl (by kernel_rfl) (by kernel_rfl) rfl (Qrf b0.1 fun l hl=>⟨(b0.2 l hl).1,fun t ht=>((b0.2 l hl).2 t ht).1⟩) rfl
  (ade (vs:=[v0]) (by
   intro i x hx v hv
   match i,hx,hv with
   |0,hx,hv=>simp at hx hv;subst hx hv;exact g0
   |i+1,hx,hv=>simp at hx) rfl)
theorem Qov(os:Os)(started:os.Started)(H:Type)(enc:TypeId×Value->H)(F:Stop.Interp):
  ReturnsInHanded {} Tryz.checked os 3 .any ((Rows.OpenSpec.upto Rows.triangularMakesSpec).pre6 enc Tryz.prog Tryz.f3 Rows.triangularMakesUptoRow.domain false) (((Rows.OpenSpec.upto Rows.triangularMakesSpec).at F).post enc Tryz.prog Tryz.f3 false true false false):=by
 refine returnsInHanded_of_cond (C:=Tryz.checked) (s:=Rows.OpenSpec.upto Rows.triangularMakesSpec) (k:=Rows.uptoSmall) rfl own started (by kernel_rfl) Tryz.func3
  (OpenSpec.witness (enc:=enc) (C:=Tryz.checked) (s:=Rows.OpenSpec.upto Rows.triangularMakesSpec) (k:=Rows.uptoSmall) rfl false ⟨#[],#[.slice none 0 0],[]⟩ 8 (by kernel_rfl) (by kernel_rfl) (by kernel_rfl)
   (x:=([.nil],[],[])) (by kernel_rfl) rfl (by kernel_rfl)) ?_
 intro W base args ds gs before gN hW _ hk _;exact Qnm H enc W base args ds gs before gN hW hk
theorem triangularMakes_proved:Rows.TriangularMakesUptoSaid:=
 OpenClaim.holds_of_cond 3 Tryz.f3 rfl rfl rfl rfl rfl rfl rfl ⟨rfl,rfl,rfl,rfl,rfl⟩ rfl rfl rfl rfl rfl (by kernel_rfl) Tryz.func3 (by kernel_rfl)
  (of_decide_eq_true (by kernel_rfl)) (by unfold Func.isWrapper;first|(rw[if_pos (by decide+kernel)];kernel_rfl)|(rw[if_neg (by decide+kernel)];exact⟨rfl,rfl⟩))
  (fun os started H enc _ F=>Qov os started H enc F)
end Go.Proofs.YtdjoomkeehihmaaGreat
