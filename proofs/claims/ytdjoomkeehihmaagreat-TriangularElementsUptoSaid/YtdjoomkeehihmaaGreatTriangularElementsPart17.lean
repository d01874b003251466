/- Part 17 of the proof of TriangularElements: TRE, FwRL, FwRN. Own lemmas; no conditions. -/
import Derived.Test.YtdjoomkeehihmaaGreatTriangularElementsPart16
set_option maxHeartbeats 1000000
set_option linter.unusedSimpArgs false
set_option linter.unusedVariables false
set_option linter.unnecessarySimpa false
set_option maxRecDepth 100000
namespace Go.Proofs.YtdjoomkeehihmaaGreat
open Go Go.FW
theorem acv{p:List Tm}{n K E L:Nat}(hn:n<=4000)(hp:PB K E p)(np:au p)(hb:∀i,i<=n->PB K E (cx p i)/\(cx p i).length<=L)(bW:p.length<=L)(hL:L<=2^17)(hE:E<=2^37)(hK:L*(K+K)+(K+K)<=2^32):
  Qc Tryz.prog 79 [PV.aj p,.int .i64 n] (· =PV.aj (cx p n)):=by
 have h1:=ob;refine Qf Qj Tryz.func79 rfl aj1 (by simp[Lk]) fun C hP=>?_;simp only[Lk,Zo,Zg,Zm,Zc,Zf,Zl,Zh,Zs,Zi,Zb,Zk,Zn,Zu,Zq,Zr,Zz];refine Sz0 ?_;refine Qa hP (u5 (x:=1) (by omega) (by omega)) rfl rfl rfl ?_;refine Sz0 ?_;refine Qa hP (GS (a:=((1:Int):Rat)) (k:=1) (by have:((1:Int):Rat)=1:=rfl;rw[this];exact h1) (by omega)) rfl rfl rfl ?_;rw[show dk ((1:Int):Rat)=cx p 0 from rfl];refine Sz0 ?_;refine Qz (by repeat (first|exact Qs|exact Ql|exact Qm|exact Qn|exact Qo|apply Qk|apply Qr|apply Qw|apply Q5|apply Q6|apply Qi|apply Q2)) [(5,6),(9,16)] [] (fun m J hp=>∃i,m=n-i/\i<=n/\J 5=PV.aj (cx p i)/\J 6= .int .i64 (i:Nat)) n ?_ ?_
 ·refine⟨0,rfl,by omega,?_⟩;refine Sz0 ?_
  try (first|rfl|trivial|exact⟨rfl,rfl⟩)
 rintro _ J h ⟨i,rfl,hi,h5,h9⟩;refine Sz2 h5 h9 ?_;refine Qb (fun hg=>?_) (fun hg=>?_)
 ·have aC:i<n:=by omega
  obtain⟨b1,b2⟩:=hb i (by omega);have nn:=tz np i;have rk:p.length*(cx p i).length<=2^17*2^17:=KaJ (by omega) (by omega);have nh:p.length*(K+K)<=L*(K+K):=Kaf _ bW;have V':=qy (p:=cx p i) (q:=p) b1 hp nn.z np.z hE (by omega) (by omega) (by omega) (by omega);rw[tw nn np,show Q4 (cx p i) p=cx p (i+1)from rfl]at V';refine Sz2 h5 h9 ?_;refine Qa hP V' rfl rfl rfl ?_;refine Sz2 h5 h9 ?_;refine Qh (n-(i+1)) (by omega) ⟨i+1,rfl,by omega,?_⟩;refine Sz0 ?_
  try trivial
 ·obtain rfl:i=n:=by omega
  refine Sz1 h5 ?_;exact Qd rfl rfl
def eJ:Nat->Nat
 |0=>3
 |j+1=>eJ j+3*(eJ j+1)
def aJ:Nat->Nat
 |0=>9
 |j+1=>aJ j+9*(eJ j+1)+10
def bJ:Nat->Nat
 |0=>8
 |j+1=>bJ j+10*(eJ j+1)+10
theorem Xt{j:Nat}(h:j<=3):eJ j<=255/\aJ j<=800/\bJ j<=900:=by
 have:j=0∨j=1∨j=2∨j=3:=by omega
 rcases this with rfl|rfl|rfl|rfl<;>decide
structure PI(j:Nat)(p:List Tm):Prop where
 s:SZ (aJ j) (bJ j) (eJ j) p
 n:au p
 l:p.length<=4000
theorem PI.pb{j:Nat}{p:List Tm}(h:PI j p)(hj:j<=3):PB 2600 255 p:=by obtain⟨h1,h2,h3⟩:=Xt hj;exact h.s.PB.mono (by omega) (by omega)
structure GI(g:List Tm):Prop where
 s:SZ 9 8 3 g
 b:PB 2 3 g
 n:au g
 l:g.length<=4
 m:ML 3 g
 p:0<=Qv g
def lU(f g:List Tm):Option (List Tm×List Tm×Nat):=mW g (Qv g).toNat (Q3 g (Qv g).toNat).toNat ((Q3 f (Qv g).toNat).toNat+1) [] f 0
theorem Dw{g f:List Tm}{v d:Nat}:∀(fuel k:Nat) {q r:List Tm} {n:Nat},mW g v d fuel (aD g v d f k).1 (aD g v d f k).2 k=some (q,r,n)->(0<k->bh (aD g v d f k).1=false/\bh (aD g v d f k).2=false)->
  q=(aD g v d f n).1/\r=(aD g v d f n).2/\n<=k+fuel/\(0<n->bh q=false/\bh r=false)
 |0,k,q,r,n,h,hk=>by simp only[mW,KaB,KcO]at h;obtain⟨rfl,rfl,rfl⟩:=h;exact⟨rfl,rfl,by omega,hk⟩
 | fuel+1,k,q,r,n,h,hk=>by
  rw[mW]at h;split at h
  ·simp only[KaB,KcO]at h;obtain⟨rfl,rfl,rfl⟩:=h;exact⟨rfl,rfl,by omega,hk⟩
  ·split at h
   ·cases h
   ·rename_i hl;simp only[not_or,Bool.not_eq_true]at hl;obtain⟨e1,e2,e3,e4⟩:=Dw fuel (k+1) h (fun _=>hl);exact⟨e1,e2,by omega,e4⟩
theorem aew{p:List Tm}{w:Nat}(h:ML w p):Qv p<=(w:Int)-1∨Qv p= -1:=by
 rcases(NN p (-1)).2.2 with h1|⟨t,ht,h1⟩
 ·exact .inr h1
 ·left;have:=h t ht;show Qv p<=_;rw[show Qv p=(t.2.length:Int)-1 from h1];omega
theorem GI.ne{g:List Tm}(h:GI g):g≠[]:=fun e=>by have:=h.p;rw[e]at this;exact absurd this (by decide)
theorem GI.v{g:List Tm}(h:GI g):(((Qv g).toNat:Nat):Int)=Qv g/\(Qv g).toNat<=2:=by have h1:=h.p;rcases aew h.m with h2|h2<;>omega
theorem GI.d{g:List Tm}(h:GI g)(v:Nat):(((Q3 g v).toNat:Nat):Int)=Q3 g v:=by have:=(oG h.b h.ne v).1;omega
theorem GI.N{g f:List Tm}{j:Nat}(hf:PI j f)(v:Nat):(Q3 f v).toNat+1<=eJ j+1/\Q3 f v<(((Q3 f v).toNat+1:Nat):Int):=by
 obtain⟨K,hx⟩:=hf.s.x;by_cases h0:f=[]
 ·subst h0;simp[Q3]
 ·have:=oG hx h0 v;omega
theorem DV.pb{a b E:Nat}{q r:List Tm}(h:DV a b E q r)(ha:a<=800)(hb:b<=900)(hE:E<=255):PB 2600 255 q/\PB 2600 255 r:=⟨h.q.PB.mono (by omega) hE,h.r.PB.mono (by omega) hE⟩
theorem qE{p:List Tm}(h:bh p=false):p.length<=4000:=by unfold bh at h;simp only[Kcf,decide_eq_false_iff_not]at h;omega
end Go.Proofs.YtdjoomkeehihmaaGreat
namespace Go.FW
open Go
theorem Dx{a b c:List Int}{v n:Nat}{x:Int}(h:∀i,eN c i=eN a i+eN b i+if i=v then x else 0)(hn:v<n):eA c n=eA a n+eA b n+x:=by
 have key:∀n,eA c n=eA a n+eA b n+if v<n then x else 0:=fun n=>by
  induction n with
  |zero=>simp[eA]
  | succ n ih=>
   rw[eA,eA,eA,ih,h];by_cases e:n=v
   ·subst e;simp;omega
   ·by_cases e2:v<n
    ·rw[if_pos e2,if_neg e,if_pos (by omega)];omega
    ·rw[if_neg e2,if_neg e,if_neg (by omega)];omega
 rw[key n,if_pos hn]
theorem NT(n:Nat):eA [] n=0:=by
 induction n with
 |zero=>rfl
 |succ n ih=>rw[eA,ih];rfl
theorem acw(a b:List Int)(n:Nat):eA (bC a b) n=eA a n+eA b n:=by
 have:=Dx (a:=a) (b:=b) (c:=bC a b) (v:=0) (n:=n+1) (x:=0) (fun i=>by rw[jz];split<;>omega) (by omega);induction n with
 |zero=>simp[eA]
 |succ n ih=>rw[eA,eA,eA,ih (Dx (v:=0) (x:=0) (fun i=>by rw[jz];split<;>omega) (by omega)),jz];omega
theorem Q9a{a:List Int}{v n:Nat}(hn:v<n):eA (eG a v) n=eA a n-eN a v:=by
 have:=Dx (a:=a) (b:=[]) (c:=eG a v) (v:=v) (n:=n) (x:= -eN a v) (fun i=>by
  rw[vk];have:eN ([]:List Int) i=0:=by simp[eN]
  split
  ·rename_i e;subst e;omega
  ·omega) hn
 rw[NT]at this;omega
def TD(T:Int)(p:List Tm):Prop:=∀t∈p,eA t.2 64<=T
theorem TD.nil(T:Int):TD T []:=fun t h=>by cases h
theorem TD.mono{T T':Int}{p:List Tm}(h:TD T p)(hT:T<=T'):TD T' p:=fun t ht=>Int.le_trans (h t ht) hT
theorem TD.sU{T:Int}{p q:List Tm}(hp:TD T p)(hq:TD T q):TD T (FW.Q8 p q):=fun t ht=>by
 rcases tv ht with⟨s,hs,e⟩|⟨s,hs,e⟩
 ·rw[<-e];exact hp s hs
 ·rw[<-e];exact hq s hs
theorem TD.wM{T:Int}{p q:List Tm}(hp:TD T p)(hq:TD T q)(nq:Can q):TD T (FW.fM p q):=fun t ht=>by
 rcases Hy nq ht with⟨s,hs,e⟩|⟨s,hs,e⟩
 ·rw[<-e];exact hp s hs
 ·rw[<-e];exact hq s hs
theorem TD.mj{T T':Int}{p q:List Tm}(hp:TD T p)(hq:TD T' q):TD (T+T') (FW.Q4 p q):=fun t ht=>by obtain⟨a,ha,b,hb,e⟩:=vm ht;have h1:=hp a ha;have h2:=hq b hb;rw[e,acw];omega
theorem TD.wL{T:Int}{p:List Tm}(hp:TD T p)(c:Can p)(a:Rat):TD T (FW.b8 p a):=fun t ht=>by
 unfold FW.b8 at ht;split at ht
 ·cases ht
 ·obtain⟨s,hs,e⟩:=zo ht;rw[e,tu (c s hs)];exact hp s hs
theorem TD.mV{T:Int}{p:List Tm}(hp:TD T p){v:Nat}(hv:v<64)(n:Int):TD (T-n) (FW.aW p v n):=fun t ht=>by obtain⟨s,hs,e,rfl⟩:=tp ht;have:=hp s hs;rw[Q9a hv,e];omega
theorem TD.aps{T:Int}{p:List Tm}(hp:TD T p){v:Nat}(hv:v<64)(n:Nat):TD (T+n) (FW.gy p v n):=fun t ht=>by
 obtain⟨s,hs,e⟩:=CX ht;have:=hp s hs;have h2:=Dx (a:=s.2) (b:=[]) (c:=t.2) (v:=v) (n:=64) (x:=n) (fun i=>by
  have h0:eN ([]:List Int) i=0:=by simp[eN]
  rw[e i,h0];omega) hv
 rw[NT]at h2;omega
theorem TD.dX{T Tg:Int}{r g:List Tm}{v n d:Nat}(hr:TD T r)(hg:TD Tg g)(ng:au g)(nr:au r)(hv:v<64)(hd:d<=n):TD (T+(Tg-d)) (FW.dX r g v n d):=by
 have hb:=rL (jO nr v n) v (n-d);refine TD.wM ?_ ?_ (dC (show e9 (cZ r v n d)from hb.s) ng.s).c
 ·exact((hg.mV hv (d:Int)).mj hr).mono (by omega)
 ·exact((((hr.mV hv (n:Int)).aps hv (n-d)).mj hg)).mono (by omega)
theorem TD.aD{T Tg:Int}{f g:List Tm}{v d:Nat}(hf:TD T f)(nf:au f)(hg:TD Tg g)(ng:au g)(hv:v<64)(hb:∀k,∃K E,PB K E (FW.aD g v d f k).2):∀k,(∀j,j<k->(FW.aD g v d f j).2≠[]/\(d:Int)<=Q3 (FW.aD g v d f j).2 v)->TD (T+k*(Tg-d)) (FW.aD g v d f k).2
 |0,_=>by rw[show(T+((0:Nat):Int)*(Tg-d))=T by simp];exact hf
 |k+1,h=>by have ih:=TD.aD hf nf hg ng hv hb k fun j hj=>h j (by omega);obtain⟨n1,n2⟩:=rU (v:=v) (d:=d) nf ng k;obtain⟨h1,h2⟩:=h k (by omega);have:=ih.dX (n:=(Q3 (FW.aD g v d f k).2 v).toNat) (d:=d) hg ng n2 hv (by omega);rw[show(T+((k+1:Nat):Int)*(Tg-d))=T+k*(Tg-d)+(Tg-d)by rw[Int.natCast_add,Int.add_mul];omega];exact this
theorem PX{f g:List Tm}{v d:Nat}(nf:au f)(ng:au g)(eB:∀t∈g,eN t.2 v<=d)(hb:∀k,∃K E,PB K E (aD g v d f k).2):∀k,(∀j,j<k->(aD g v d f j).2≠[]/\(d:Int)<=Q3 (aD g v d f j).2 v)->(aD g v d f k).2=[]∨Q3 (aD g v d f k).2 v<=Q3 f v-k
 |0,_=>.inr (by simp[aD])
 | k+1,h=>by
  obtain⟨h1,h2⟩:=h k (by omega);obtain⟨n1,n2⟩:=rU (v:=v) (d:=d) nf ng k;have ih:=(PX nf ng eB hb k fun j hj=>h j (by omega)).resolve_left h1;obtain⟨K,E,hk⟩:=hb k;obtain⟨K',E',dY⟩:=hb (k+1);by_cases h0:(aD g v d f (k+1)).2=[]
  ·exact .inl h0
  ·right;have hle:=(rJ (aD g v d f k).2 v).2.1;have ar:=Rt (n:=(Q3 (aD g v d f k).2 v).toNat) n2 ng (by omega:d<=(Q3 (aD g v d f k).2 v).toNat) (fun t ht=>by have:=hle t ht;omega) eB;have h3:=(oG dY h0 v).1;rcases(rJ (aD g v d f (k+1)).2 v).2.2 with e|⟨t,ht,e⟩
   ·omega
   ·have:eN t.2 v<_:=ar t ht;have e2:(aD g v d f (k+1)).2=dX (aD g v d f k).2 g v (Q3 (aD g v d f k).2 v).toNat d:=rfl;omega
theorem OZ{T:Nat}{p:List Tm}(h:TD T p)(hx:∃E,XB E p):XB T p:=by
 obtain⟨E,K,hb⟩:=hx;refine⟨K,fun t ht=>⟨(hb t ht).c,⟨(hb t ht).m.len,(hb t ht).m.lo,fun x hx=>?_⟩,(hb t ht).l⟩⟩;obtain⟨i,hi,rfl⟩:=Kbe hx;have h0:∀n,i<n->eN t.2 i<=eA t.2 n:=fun n hn=>by
  induction n with
  |zero=>omega
  | succ n ih=>
   have l8:∀m,0<=eA t.2 m:=fun m=>by
    induction m with
    |zero=>simp[eA]
    |succ m ih=>rw[eA];have:=((hb t ht).m.eN m).1;omega
   rw[eA];by_cases e:i=n
   ·subst e;have:=l8 i;omega
   ·have:=ih (by omega);have:=((hb t ht).m.eN n).1;omega
 have h1:=(hb t ht).m.len;have h2:=h0 64 (by omega);have h3:=h t ht;rw[fk hi]at h2;omega
theorem ahp{c:Rat}{D:Nat}(h:je (c*(D:Rat))):c.den∣D:=by
 obtain⟨z,hz⟩:=h;have d1:c=(c.num:Rat)/((c.den:Int):Rat):=by
  conv=>lhs;rw[<-Rat.mkRat_self c]
  rw[Kb2,KaX]
 have k1:((c.den:Int):Rat)≠0:=by rw[Ne,Ka6];have:=c.den_nz;omega
 have e:(c.num:Rat)*(D:Rat)=(z:Rat)*((c.den:Int):Rat):=by
  rw[<-hz];generalize hA:(c.num:Rat)=A at *
  generalize((c.den:Int):Rat)=B at *
  rw[d1];grind
 have e2:c.num*(D:Int)=z*(c.den:Int):=by apply Rat.intCast_inj.1;rw[Kbu,Kbu,KaX,e]
 have e3:c.num.natAbs*D=z.natAbs*c.den:=by
  have:=congrArg Int.natAbs e2
  rwa[Kcq,Kcq,KaD,KaD]at this
 exact(Nat.Coprime.symm (IG c)).dvd_of_dvd_mul_left (e3▸Kdh _ _)
theorem SG{D:Nat}{p:List Tm}(h:Dn D p):∀i,i<=p.length->ba (p.take i)∣D
 |0,_=>by simp[ba]
 |i+1,hi=>by
  rw[tq (by omega)];have h1:=SG h i (by omega);have h2:=ahp (h _ (Kag (show i<p.length by omega)));have h3:=Nat.lcm_dvd h1 h2
  rwa[Nat.lcm,Nat.mul_div_assoc _ (KbW _ _)]at h3
theorem aex(p:List Tm):∀t∈p,dN p∣t.1.num.natAbs:=by
 have hd:∀(l:List Tm)(g:Nat),l.foldl (fun g t=>Nat.gcd g t.1.num.natAbs) g∣g/\∀t∈l,l.foldl (fun g t=>Nat.gcd g t.1.num.natAbs) g∣t.1.num.natAbs:=by
  intro l;induction l with
  |nil=>intro g;simp
  |cons t l ih=>
   intro g;obtain⟨h1,h2⟩:=ih (Nat.gcd g t.1.num.natAbs);refine⟨Kco h1 (KbI _ _),fun s hs=>?_⟩;rcases KaQ.1 hs with rfl|hs
   ·exact Kco h1 (KbW _ _)
   ·exact h2 s hs
 exact(hd p 0).2
theorem Yq{p:List Tm}{t x:Tm}(h:x∈bd p t):∃s∈p,x.1=s.1*t.1:=by
 simp only[bd,KbR]at h;obtain⟨y,hy,h⟩:=h;split at h
 ·cases h
 ·cases h;exact⟨y,hy,rfl⟩
theorem aey{p:List Tm}(nz:NZ p)(h0:p≠[]){t:Tm}(ht:t∈p):je (t.1*dO p):=by
 obtain⟨i,hi,rfl⟩:=Kbe ht;obtain⟨l,hl⟩:=HG p hi;obtain⟨n,hn⟩:=aex p _ ht;have hg:=vt nz h0;generalize hc:p[i].1=c at *
 have d1:c=(c.num:Rat)/((c.den:Int):Rat):=by
  conv=>lhs;rw[<-Rat.mkRat_self c]
  rw[Kb2,KaX]
 have k1:((c.den:Int):Rat)≠0:=by rw[Ne,Ka6];have:=c.den_nz;omega
 have k2:((dN p:Int):Rat)≠0:=by rw[Ne,Ka6];omega
 have e1:((ba p:Int):Rat)=((c.den:Int):Rat)*((l:Int):Rat):=by rw[hl,Int.natCast_mul,Kbu]
 obtain⟨m,hm⟩:∃m:Int,c.num=(dN p:Int)*m:=by
  rcases Int.natAbs_eq c.num with e|e
  ·exact⟨n,by rw[e,hn,Int.natCast_mul]⟩
  ·exact⟨-n,by rw[e,hn,Int.natCast_mul,Int.mul_neg]⟩
 have e2:(c.num:Rat)=((dN p:Int):Rat)*(m:Rat):=by rw[hm,Kbu]
 unfold dO;split
 ·refine⟨-(m*l),?_⟩;rw[Kc3,Kc3,Kbu,e1];generalize((c.den:Int):Rat)=B at *
  rw[d1,e2];generalize((dN p:Int):Rat)=G at *
  generalize((l:Int):Rat)=L at *
  generalize(m:Rat)=M at *
  grind
 ·refine⟨m*l,?_⟩;rw[Kbu,e1];generalize((c.den:Int):Rat)=B at *
  rw[d1,e2];generalize((dN p:Int):Rat)=G at *
  generalize((l:Int):Rat)=L at *
  generalize(m:Rat)=M at *
  grind
theorem acx{p:List Tm}(nz:NZ p)(h0:p≠[]):dP (dO p)<=(ba p:Rat):=by
 have hg:=vt nz h0;have g1:(1:Rat)<=((dN p:Int):Rat):=by have:=rH (show 1<=dN p by omega);rw[KaX];simpa using this
 have l0:(0:Rat)<=((ba p:Int):Rat):=by have:=rH (show 0<=ba p by omega);rw[KaX];simpa using this
 have main:((ba p:Int):Rat)/((dN p:Int):Rat)<=((ba p:Int):Rat)/\0<=((ba p:Int):Rat)/((dN p:Int):Rat):=by
  generalize((ba p:Int):Rat)=L at *
  generalize((dN p:Int):Rat)=G at *
  have i1:0<G:=by grind
  have e:L/G*G=L:=by grind
  have q0:0<=L/G:=by rw[KcA];exact Kci l0 (Rat.le_of_lt (Rat.inv_pos.2 i1))
  have:=Kbs g1 q0;constructor<;>grind
 have e:dO p=((ba p:Int):Rat)/((dN p:Int):Rat)∨dO p= -(((ba p:Int):Rat)/((dN p:Int):Rat)):=by
  unfold dO;split
  ·right;rw[Kc3,KcA,KcA,Rat.neg_mul]
  ·left;rfl
 have ec:(ba p:Rat)=((ba p:Int):Rat):=(KaX _).symm;rw[ec];unfold dP;rcases e with e|e<;>rw[e]<;>split<;>grind
theorem SZ.wK{a b E:Nat}{p:List Tm}(h:SZ a b E p)(np:au p)(h0:p≠[]):SZ 1 (a+b) E (FW.b8 p (dO p))/\rs (dO p)<=a+b+a+3:=by
 obtain⟨hPB⟩:Nonempty (FW.PB (a+b+a+3) E p):=⟨h.PB⟩
 obtain⟨⟨D,N,h1,h2,h3,h4,h5,h6⟩,K,hx⟩:=h;have hL:=SG h5 p.length (Kac _);rw[Kar]at hL;have Va:=Nat.le_of_dvd h1 hL;have aO:=PR np h0;refine⟨⟨⟨1,N*D,by omega,Kce h2 h1,by rw[jP];omega,by have:=gL N D;omega,?_,?_⟩,?_⟩,?_⟩
 ·intro t ht;rw[b8,if_neg aO]at ht;obtain⟨s,hs,e⟩:=Yq ht;rw[e];have:=aey np.z h0 hs;simpa using this
 ·rw[b8,if_neg aO];refine KbY (xk _ _) ?_;have r1:=acx np.z h0;have r2:(ba p:Rat)<=(D:Rat):=rH Va;have n0:=lJ p;have D0:(0:Rat)<=(D:Rat):=rH (Kbx D);have s1:=Kbl (KbY r1 r2) n0;have s2:=Kbs h6 D0;rw[Kb9];show dP (dO p)*n1 p<=_;grind
 ·obtain⟨K2,hk⟩:=(show ∃K2,FW.PB K2 E (FW.b8 p (dO p))from⟨_,xf hx (Kac _)⟩)
  exact⟨K2,hk⟩
 ·have g1:=xD hPB p.length (Kac _);rw[Kar]at g1;have l1:=fJ Va;have hg:=vt np.z h0;unfold dO;refine Kaw (Ei _ _ (by omega)) ?_;rw[KaD];split
  ·rw[KcC,KaD];omega
  ·rw[KaD];omega
theorem SZ.scale{a b E k:Nat}{p:List Tm}{r:Rat}(h:SZ a b E p)(hr:rs r<=k):SZ (a+k) (b+k+1) E (FW.b8 p r):=by
 obtain⟨⟨D,N,h1,h2,h3,h4,h5,h6⟩,K,hx⟩:=h;have jI:=KaY r.den_nz;have hk:nl r.num.natAbs<=k/\nl r.den<=k:=by unfold rs at hr;omega
 refine⟨⟨D*r.den,N*(r.num.natAbs+1),Kce h1 jI,Kce h2 (by omega),by have:=gL D r.den;omega,?_,?_,?_⟩,?_⟩
 ·have e1:=gL N (r.num.natAbs+1);have e2:=vz r.num.natAbs 1;have e3:nl 1<=1:=by rw[jP];omega
  have e4:1<=k∨nl r.num.natAbs=0:=by omega
  have e5:1<=k:=by
   have:1<=nl r.den:=by apply Decidable.byContradiction;intro hc;have:=w7.1 (show nl r.den=0 by omega);omega
   omega
  omega
 ·unfold FW.b8;split
  ·intro t ht;cases ht
  ·exact zO (t:=(r,[])) (II (Nat.dvd_refl _)) h5
 ·have n0:(0:Rat)<=(N:Rat):=rH (Kbx N);have m0:(0:Rat)<=((r.num.natAbs+1:Nat):Rat):=rH (Kbx _);rw[Kb9];unfold FW.b8;split
  ·exact Kci n0 m0
  ·refine KbY (xk _ _) ?_;have r1:dP r<=((r.num.natAbs+1:Nat):Rat):=KbY (SF r) (rH (by omega));have s1:=Kbl r1 (lJ p);have s2:=Kbs h6 m0;show dP r*n1 p<=_;grind
 ·exact⟨_,xf hx (Kac _)⟩
theorem SZ.wM{a b E a' b':Nat}{p q:List Tm}(hp:SZ a b E p)(hq:SZ a' b' E q):SZ (a+a') (max b b'+1) E (FW.fM p q):=by
 refine hp.sU ?_;obtain⟨⟨D,N,h1,h2,h3,h4,h5,h6⟩,K,hx⟩:=hq;refine⟨⟨D,N,h1,h2,h3,h4,?_,?_⟩,_,xA hx⟩
 ·rw[CZ];have:=zO (D':=1) (t:=(-1,[])) ⟨-1,by decide+kernel⟩ h5
  rwa[KbF]at this
 ·rw[CZ];refine KbY (xk (-1,[]) q) ?_;have e:dP (-1)=1:=by decide+kernel
  rw[e,Kdk];exact h6
theorem SZ.W9{a b E E':Nat}{p:List Tm}(h:SZ a b E p)(hx:XB E' p):SZ a b E' p:=⟨h.d,hx⟩
theorem SZ.nil(a b E:Nat)(ha:1<=a)(hb:1<=b):SZ a b E []:=⟨⟨1,1,by omega,by omega,by rw[jP];exact ha,by rw[jP];exact hb,(fun t ht=>by cases ht),by decide+kernel⟩,0,PB.nil _ _⟩
theorem xc(r:Rat):b8 [] r=[]:=by unfold b8;split<;>rfl
theorem TL{p:List Tm}{a:Rat}(nz:NZ p)(ha:a≠0):(b8 p a).length=p.length:=by
 rw[b8,if_neg ha,bd];induction p with
 |nil=>rfl
 | cons t p ih=>
  have ht:=nz t (by simp);rw[Kbg];have:¬t.1*a=0:=by
   intro h;rcases Rat.mul_eq_zero.1 h with h|h
   ·exact ht h
   ·exact ha h
  simp only[this,if_false,KaW];rw[ih fun s hs=>nz s (by simp[hs])]
theorem ML.wL{w:Nat}{p:List Tm}(h:ML w p)(c:FW.Can p)(a:Rat):ML w (FW.b8 p a):=fun t ht=>by
 unfold FW.b8 at ht;split at ht
 ·cases ht
 ·obtain⟨s,hs,e⟩:=zo ht;rw[e,tu (c s hs)];exact h s hs
end Go.FW
