/- Part 17 of the proof of TriangularZeros: TRE, FwRL, FwRN. Own lemmas; no conditions. -/
import Derived.Test.YtdjoomkeehihmaaGreatTriangularZerosPart16
set_option maxHeartbeats 1000000
set_option linter.unusedSimpArgs false
set_option linter.unusedVariables false
set_option linter.unnecessarySimpa false
set_option maxRecDepth 100000
namespace Go.Proofs.YtdjoomkeehihmaaGreat
open Go Go.FW
theorem ac7{p:List Tm}{n K E L:Nat}(hn:n<=4000)(hp:PB K E p)(np:az p)(hb:∀i,i<=n->PB K E (cy p i)/\(cy p i).length<=L)(bV:p.length<=L)(hL:L<=2^17)(hE:E<=2^37)(hK:L*(K+K)+(K+K)<=2^32):
  Qc Tryz.prog 79 [PV.aj p,.int .i64 n] (· =PV.aj (cy p n)):=by
 have h1:=l4;refine Qf Qo Tryz.func79 rfl akM (by simp[LJ]) fun C hP=>?_;simp only[LJ,Zo,Zg,Zm,Zc,Zf,Zl,Zh,Zs,Zi,Zb,Zk,Zn,Zu,Zq,Zr,Zz];refine Sz0 ?_;refine Qa hP (vb (x:=1) (by omega) (by omega)) rfl rfl rfl ?_;refine Sz0 ?_;refine Qa hP (Hi (a:=((1:Int):Rat)) (k:=1) (by have:((1:Int):Rat)=1:=rfl;rw[this];exact h1) (by omega)) rfl rfl rfl ?_;rw[show dm ((1:Int):Rat)=cy p 0 from rfl];refine Sz0 ?_;refine Qw (by repeat (first|exact Qr|exact Qk|exact Ql|exact Qm|exact Qn|apply Qj|apply Qq|apply Qx|apply Q5|apply Q6|apply Qi|apply Q2)) [(5,6),(9,16)] [] (fun m J hp=>∃i,m=n-i/\i<=n/\J 5=PV.aj (cy p i)/\J 6= .int .i64 (i:Nat)) n ?_ ?_
 ·refine⟨0,rfl,by omega,?_⟩;refine Sz0 ?_
  try (first|rfl|trivial|exact⟨rfl,rfl⟩)
 rintro _ J h ⟨i,rfl,hi,h5,h9⟩;refine Sz2 h5 h9 ?_;refine Qb (fun hg=>?_) (fun hg=>?_)
 ·have aB:i<n:=by omega
  obtain⟨b1,b2⟩:=hb i (by omega);have nn:=tE np i;have ox:p.length*(cy p i).length<=2^17*2^17:=KaK (by omega) (by omega);have ko:p.length*(K+K)<=L*(K+K):=Kaf _ bV;have WT:=rK (p:=cy p i) (q:=p) b1 hp nn.z np.z hE (by omega) (by omega) (by omega) (by omega);rw[vr nn np,show Q4 (cy p i) p=cy p (i+1)from rfl]at WT;refine Sz2 h5 h9 ?_;refine Qa hP WT rfl rfl rfl ?_;refine Sz2 h5 h9 ?_;refine Qg (n-(i+1)) (by omega) ⟨i+1,rfl,by omega,?_⟩;refine Sz0 ?_
  try trivial
 ·obtain rfl:i=n:=by omega
  refine Sz1 h5 ?_;exact Qd rfl rfl
def eJ:Nat->Nat
 |0=>3
 |j+1=>eJ j+3*(eJ j+1)
def aJ:Nat->Nat
 |0=>9
 |j+1=>aJ j+9*(eJ j+1)+10
def bJ:Nat->Nat
 |0=>8
 |j+1=>bJ j+10*(eJ j+1)+10
theorem X9{j:Nat}(h:j<=3):eJ j<=255/\aJ j<=800/\bJ j<=900:=by
 have:j=0∨j=1∨j=2∨j=3:=by omega
 rcases this with rfl|rfl|rfl|rfl<;>decide
structure PI(j:Nat)(p:List Tm):Prop where
 s:SZ (aJ j) (bJ j) (eJ j) p
 n:az p
 l:p.length<=4000
theorem PI.pb{j:Nat}{p:List Tm}(h:PI j p)(hj:j<=3):PB 2600 255 p:=by obtain⟨h1,h2,h3⟩:=X9 hj;exact h.s.PB.mono (by omega) (by omega)
structure GI(g:List Tm):Prop where
 s:SZ 9 8 3 g
 b:PB 2 3 g
 n:az g
 l:g.length<=4
 m:ML 3 g
 p:0<=Qv g
def l5(f g:List Tm):Option (List Tm×List Tm×Nat):=na g (Qv g).toNat (Q3 g (Qv g).toNat).toNat ((Q3 f (Qv g).toNat).toNat+1) [] f 0
theorem DZ{g f:List Tm}{v d:Nat}:∀(fuel k:Nat) {q r:List Tm} {n:Nat},na g v d fuel (aD g v d f k).1 (aD g v d f k).2 k=some (q,r,n)->(0<k->bh (aD g v d f k).1=false/\bh (aD g v d f k).2=false)->
  q=(aD g v d f n).1/\r=(aD g v d f n).2/\n<=k+fuel/\(0<n->bh q=false/\bh r=false)
 |0,k,q,r,n,h,hk=>by simp only[na,KaB,KcP]at h;obtain⟨rfl,rfl,rfl⟩:=h;exact⟨rfl,rfl,by omega,hk⟩
 | fuel+1,k,q,r,n,h,hk=>by
  rw[na]at h;split at h
  ·simp only[KaB,KcP]at h;obtain⟨rfl,rfl,rfl⟩:=h;exact⟨rfl,rfl,by omega,hk⟩
  ·split at h
   ·cases h
   ·rename_i hl;simp only[not_or,Bool.not_eq_true]at hl;obtain⟨e1,e2,e3,e4⟩:=DZ fuel (k+1) h (fun _=>hl);exact⟨e1,e2,by omega,e4⟩
theorem ae8{p:List Tm}{w:Nat}(h:ML w p):Qv p<=(w:Int)-1∨Qv p= -1:=by
 rcases(OC p (-1)).2.2 with h1|⟨t,ht,h1⟩
 ·exact .inr h1
 ·left;have:=h t ht;show Qv p<=_;rw[show Qv p=(t.2.length:Int)-1 from h1];omega
theorem GI.ne{g:List Tm}(h:GI g):g≠[]:=fun e=>by have:=h.p;rw[e]at this;exact absurd this (by decide)
theorem GI.v{g:List Tm}(h:GI g):(((Qv g).toNat:Nat):Int)=Qv g/\(Qv g).toNat<=2:=by have h1:=h.p;rcases ae8 h.m with h2|h2<;>omega
theorem GI.d{g:List Tm}(h:GI g)(v:Nat):(((Q3 g v).toNat:Nat):Int)=Q3 g v:=by have:=(oI h.b h.ne v).1;omega
theorem GI.N{g f:List Tm}{j:Nat}(hf:PI j f)(v:Nat):(Q3 f v).toNat+1<=eJ j+1/\Q3 f v<(((Q3 f v).toNat+1:Nat):Int):=by
 obtain⟨K,hx⟩:=hf.s.x;by_cases h0:f=[]
 ·subst h0;simp[Q3]
 ·have:=oI hx h0 v;omega
theorem DV.pb{a b E:Nat}{q r:List Tm}(h:DV a b E q r)(ha:a<=800)(hb:b<=900)(hE:E<=255):PB 2600 255 q/\PB 2600 255 r:=⟨h.q.PB.mono (by omega) hE,h.r.PB.mono (by omega) hE⟩
theorem qE{p:List Tm}(h:bh p=false):p.length<=4000:=by unfold bh at h;simp only[Kcf,decide_eq_false_iff_not]at h;omega
end Go.Proofs.YtdjoomkeehihmaaGreat
namespace Go.FW
open Go
theorem Ea{a b c:List Int}{v n:Nat}{x:Int}(h:∀i,eN c i=eN a i+eN b i+if i=v then x else 0)(hn:v<n):eG c n=eG a n+eG b n+x:=by
 have key:∀n,eG c n=eG a n+eG b n+if v<n then x else 0:=fun n=>by
  induction n with
  |zero=>simp[eG]
  | succ n ih=>
   rw[eG,eG,eG,ih,h];by_cases e:n=v
   ·subst e;simp;omega
   ·by_cases e2:v<n
    ·rw[if_pos e2,if_neg e,if_pos (by omega)];omega
    ·rw[if_neg e2,if_neg e,if_neg (by omega)];omega
 rw[key n,if_pos hn]
theorem Oc(n:Nat):eG [] n=0:=by
 induction n with
 |zero=>rfl
 |succ n ih=>rw[eG,ih];rfl
theorem ac8(a b:List Int)(n:Nat):eG (bm a b) n=eG a n+eG b n:=by
 have:=Ea (a:=a) (b:=b) (c:=bm a b) (v:=0) (n:=n+1) (x:=0) (fun i=>by rw[jl];split<;>omega) (by omega);induction n with
 |zero=>simp[eG]
 |succ n ih=>rw[eG,eG,eG,ih (Ea (v:=0) (x:=0) (fun i=>by rw[jl];split<;>omega) (by omega)),jl];omega
theorem Q9q{a:List Int}{v n:Nat}(hn:v<n):eG (eO a v) n=eG a n-eN a v:=by
 have:=Ea (a:=a) (b:=[]) (c:=eO a v) (v:=v) (n:=n) (x:= -eN a v) (fun i=>by
  rw[vt];have:eN ([]:List Int) i=0:=by simp[eN]
  split
  ·rename_i e;subst e;omega
  ·omega) hn
 rw[Oc]at this;omega
def TD(T:Int)(p:List Tm):Prop:=∀t∈p,eG t.2 64<=T
theorem TD.nil(T:Int):TD T []:=fun t h=>by cases h
theorem TD.mono{T T':Int}{p:List Tm}(h:TD T p)(hT:T<=T'):TD T' p:=fun t ht=>Int.le_trans (h t ht) hT
theorem TD.s6{T:Int}{p q:List Tm}(hp:TD T p)(hq:TD T q):TD T (FW.Q8 p q):=fun t ht=>by
 rcases tD ht with⟨s,hs,e⟩|⟨s,hs,e⟩
 ·rw[<-e];exact hp s hs
 ·rw[<-e];exact hq s hs
theorem TD.wW{T:Int}{p q:List Tm}(hp:TD T p)(hq:TD T q)(nq:Can q):TD T (FW.fV p q):=fun t ht=>by
 rcases Ik nq ht with⟨s,hs,e⟩|⟨s,hs,e⟩
 ·rw[<-e];exact hp s hs
 ·rw[<-e];exact hq s hs
theorem TD.mA{T T':Int}{p q:List Tm}(hp:TD T p)(hq:TD T' q):TD (T+T') (FW.Q4 p q):=fun t ht=>by obtain⟨a,ha,b,hb,e⟩:=vu ht;have h1:=hp a ha;have h2:=hq b hb;rw[e,ac8];omega
theorem TD.wV{T:Int}{p:List Tm}(hp:TD T p)(c:Can p)(a:Rat):TD T (FW.b8 p a):=fun t ht=>by
 unfold FW.b8 at ht;split at ht
 ·cases ht
 ·obtain⟨s,hs,e⟩:=zD ht;rw[e,tC (c s hs)];exact hp s hs
theorem TD.m9{T:Int}{p:List Tm}(hp:TD T p){v:Nat}(hv:v<64)(n:Int):TD (T-n) (FW.aZ p v n):=fun t ht=>by obtain⟨s,hs,e,rfl⟩:=tw ht;have:=hp s hs;rw[Q9q hv,e];omega
theorem TD.aqi{T:Int}{p:List Tm}(hp:TD T p){v:Nat}(hv:v<64)(n:Nat):TD (T+n) (FW.gH p v n):=fun t ht=>by
 obtain⟨s,hs,e⟩:=Df ht;have:=hp s hs;have h2:=Ea (a:=s.2) (b:=[]) (c:=t.2) (v:=v) (n:=64) (x:=n) (fun i=>by
  have h0:eN ([]:List Int) i=0:=by simp[eN]
  rw[e i,h0];omega) hv
 rw[Oc]at h2;omega
theorem TD.ej{T Tg:Int}{r g:List Tm}{v n d:Nat}(hr:TD T r)(hg:TD Tg g)(ng:az g)(nr:az r)(hv:v<64)(hd:d<=n):TD (T+(Tg-d)) (FW.ej r g v n d):=by
 have hb:=rQ (jU nr v n) v (n-d);refine TD.wW ?_ ?_ (dN (show fi (c8 r v n d)from hb.s) ng.s).c
 ·exact((hg.m9 hv (d:Int)).mA hr).mono (by omega)
 ·exact((((hr.m9 hv (n:Int)).aqi hv (n-d)).mA hg)).mono (by omega)
theorem TD.aD{T Tg:Int}{f g:List Tm}{v d:Nat}(hf:TD T f)(nf:az f)(hg:TD Tg g)(ng:az g)(hv:v<64)(hb:∀k,∃K E,PB K E (FW.aD g v d f k).2):∀k,(∀j,j<k->(FW.aD g v d f j).2≠[]/\(d:Int)<=Q3 (FW.aD g v d f j).2 v)->TD (T+k*(Tg-d)) (FW.aD g v d f k).2
 |0,_=>by rw[show(T+((0:Nat):Int)*(Tg-d))=T by simp];exact hf
 |k+1,h=>by have ih:=TD.aD hf nf hg ng hv hb k fun j hj=>h j (by omega);obtain⟨n1,n2⟩:=r7 (v:=v) (d:=d) nf ng k;obtain⟨h1,h2⟩:=h k (by omega);have:=ih.ej (n:=(Q3 (FW.aD g v d f k).2 v).toNat) (d:=d) hg ng n2 hv (by omega);rw[show(T+((k+1:Nat):Int)*(Tg-d))=T+k*(Tg-d)+(Tg-d)by rw[Int.natCast_add,Int.add_mul];omega];exact this
theorem QD{f g:List Tm}{v d:Nat}(nf:az f)(ng:az g)(eH:∀t∈g,eN t.2 v<=d)(hb:∀k,∃K E,PB K E (aD g v d f k).2):∀k,(∀j,j<k->(aD g v d f j).2≠[]/\(d:Int)<=Q3 (aD g v d f j).2 v)->(aD g v d f k).2=[]∨Q3 (aD g v d f k).2 v<=Q3 f v-k
 |0,_=>.inr (by simp[aD])
 | k+1,h=>by
  obtain⟨h1,h2⟩:=h k (by omega);obtain⟨n1,n2⟩:=r7 (v:=v) (d:=d) nf ng k;have ih:=(QD nf ng eH hb k fun j hj=>h j (by omega)).resolve_left h1;obtain⟨K,E,hk⟩:=hb k;obtain⟨K',E',en⟩:=hb (k+1);by_cases h0:(aD g v d f (k+1)).2=[]
  ·exact .inl h0
  ·right;have hle:=(rO (aD g v d f k).2 v).2.1;have ar:=Sf (n:=(Q3 (aD g v d f k).2 v).toNat) n2 ng (by omega:d<=(Q3 (aD g v d f k).2 v).toNat) (fun t ht=>by have:=hle t ht;omega) eH;have h3:=(oI en h0 v).1;rcases(rO (aD g v d f (k+1)).2 v).2.2 with e|⟨t,ht,e⟩
   ·omega
   ·have:eN t.2 v<_:=ar t ht;have e2:(aD g v d f (k+1)).2=ej (aD g v d f k).2 g v (Q3 (aD g v d f k).2 v).toNat d:=rfl;omega
theorem PE{T:Nat}{p:List Tm}(h:TD T p)(hx:∃E,XB E p):XB T p:=by
 obtain⟨E,K,hb⟩:=hx;refine⟨K,fun t ht=>⟨(hb t ht).c,⟨(hb t ht).m.len,(hb t ht).m.lo,fun x hx=>?_⟩,(hb t ht).l⟩⟩;obtain⟨i,hi,rfl⟩:=Ka8 hx;have h0:∀n,i<n->eN t.2 i<=eG t.2 n:=fun n hn=>by
  induction n with
  |zero=>omega
  | succ n ih=>
   have mi:∀m,0<=eG t.2 m:=fun m=>by
    induction m with
    |zero=>simp[eG]
    |succ m ih=>rw[eG];have:=((hb t ht).m.eN m).1;omega
   rw[eG];by_cases e:i=n
   ·subst e;have:=mi i;omega
   ·have:=ih (by omega);have:=((hb t ht).m.eN n).1;omega
 have h1:=(hb t ht).m.len;have h2:=h0 64 (by omega);have h3:=h t ht;rw[fj hi]at h2;omega
theorem ahD{c:Rat}{D:Nat}(h:jk (c*(D:Rat))):c.den∣D:=by
 obtain⟨z,hz⟩:=h;have d1:c=(c.num:Rat)/((c.den:Int):Rat):=by
  conv=>lhs;rw[<-Rat.mkRat_self c]
  rw[Kb2,KaX]
 have k1:((c.den:Int):Rat)≠0:=by rw[Ne,Ka6];have:=c.den_nz;omega
 have e:(c.num:Rat)*(D:Rat)=(z:Rat)*((c.den:Int):Rat):=by
  rw[<-hz];generalize hA:(c.num:Rat)=A at *
  generalize((c.den:Int):Rat)=B at *
  rw[d1];grind
 have e2:c.num*(D:Int)=z*(c.den:Int):=by apply Rat.intCast_inj.1;rw[Kbv,Kbv,KaX,e]
 have e3:c.num.natAbs*D=z.natAbs*c.den:=by
  have:=congrArg Int.natAbs e2
  rwa[Kcq,Kcq,KaD,KaD]at this
 exact(Nat.Coprime.symm (IB c)).dvd_of_dvd_mul_left (e3▸Kdi _ _)
theorem TH{D:Nat}{p:List Tm}(h:Dn D p):∀i,i<=p.length->bb (p.take i)∣D
 |0,_=>by simp[bb]
 |i+1,hi=>by
  rw[tz (by omega)];have h1:=TH h i (by omega);have h2:=ahD (h _ (Kag (show i<p.length by omega)));have h3:=Nat.lcm_dvd h1 h2
  rwa[Nat.lcm,Nat.mul_div_assoc _ (KbV _ _)]at h3
theorem ae9(p:List Tm):∀t∈p,dS p∣t.1.num.natAbs:=by
 have hd:∀(l:List Tm)(g:Nat),l.foldl (fun g t=>Nat.gcd g t.1.num.natAbs) g∣g/\∀t∈l,l.foldl (fun g t=>Nat.gcd g t.1.num.natAbs) g∣t.1.num.natAbs:=by
  intro l;induction l with
  |nil=>intro g;simp
  |cons t l ih=>
   intro g;obtain⟨h1,h2⟩:=ih (Nat.gcd g t.1.num.natAbs);refine⟨Kco h1 (KbJ _ _),fun s hs=>?_⟩;rcases KaP.1 hs with rfl|hs
   ·exact Kco h1 (KbV _ _)
   ·exact h2 s hs
 exact(hd p 0).2
theorem ZX{p:List Tm}{t x:Tm}(h:x∈bd p t):∃s∈p,x.1=s.1*t.1:=by
 simp only[bd,KbR]at h;obtain⟨y,hy,h⟩:=h;split at h
 ·cases h
 ·cases h;exact⟨y,hy,rfl⟩
theorem afa{p:List Tm}(nz:NZ p)(h0:p≠[]){t:Tm}(ht:t∈p):jk (t.1*dP p):=by
 obtain⟨i,hi,rfl⟩:=Ka8 ht;obtain⟨l,hl⟩:=Ip p hi;obtain⟨n,hn⟩:=ae9 p _ ht;have hg:=vz nz h0;generalize hc:p[i].1=c at *
 have d1:c=(c.num:Rat)/((c.den:Int):Rat):=by
  conv=>lhs;rw[<-Rat.mkRat_self c]
  rw[Kb2,KaX]
 have k1:((c.den:Int):Rat)≠0:=by rw[Ne,Ka6];have:=c.den_nz;omega
 have k2:((dS p:Int):Rat)≠0:=by rw[Ne,Ka6];omega
 have e1:((bb p:Int):Rat)=((c.den:Int):Rat)*((l:Int):Rat):=by rw[hl,Int.natCast_mul,Kbv]
 obtain⟨m,hm⟩:∃m:Int,c.num=(dS p:Int)*m:=by
  rcases Int.natAbs_eq c.num with e|e
  ·exact⟨n,by rw[e,hn,Int.natCast_mul]⟩
  ·exact⟨-n,by rw[e,hn,Int.natCast_mul,Int.mul_neg]⟩
 have e2:(c.num:Rat)=((dS p:Int):Rat)*(m:Rat):=by rw[hm,Kbv]
 unfold dP;split
 ·refine⟨-(m*l),?_⟩;rw[Kc5,Kc5,Kbv,e1];generalize((c.den:Int):Rat)=B at *
  rw[d1,e2];generalize((dS p:Int):Rat)=G at *
  generalize((l:Int):Rat)=L at *
  generalize(m:Rat)=M at *
  grind
 ·refine⟨m*l,?_⟩;rw[Kbv,e1];generalize((c.den:Int):Rat)=B at *
  rw[d1,e2];generalize((dS p:Int):Rat)=G at *
  generalize((l:Int):Rat)=L at *
  generalize(m:Rat)=M at *
  grind
theorem ac9{p:List Tm}(nz:NZ p)(h0:p≠[]):dQ (dP p)<=(bb p:Rat):=by
 have hg:=vz nz h0;have g1:(1:Rat)<=((dS p:Int):Rat):=by have:=rL (show 1<=dS p by omega);rw[KaX];simpa using this
 have l0:(0:Rat)<=((bb p:Int):Rat):=by have:=rL (show 0<=bb p by omega);rw[KaX];simpa using this
 have main:((bb p:Int):Rat)/((dS p:Int):Rat)<=((bb p:Int):Rat)/\0<=((bb p:Int):Rat)/((dS p:Int):Rat):=by
  generalize((bb p:Int):Rat)=L at *
  generalize((dS p:Int):Rat)=G at *
  have i1:0<G:=by grind
  have e:L/G*G=L:=by grind
  have q0:0<=L/G:=by rw[KcB];exact Kci l0 (Rat.le_of_lt (Rat.inv_pos.2 i1))
  have:=Kbt g1 q0;constructor<;>grind
 have e:dP p=((bb p:Int):Rat)/((dS p:Int):Rat)∨dP p= -(((bb p:Int):Rat)/((dS p:Int):Rat)):=by
  unfold dP;split
  ·right;rw[Kc5,KcB,KcB,Rat.neg_mul]
  ·left;rfl
 have ec:(bb p:Rat)=((bb p:Int):Rat):=(KaX _).symm;rw[ec];unfold dQ;rcases e with e|e<;>rw[e]<;>split<;>grind
theorem SZ.wU{a b E:Nat}{p:List Tm}(h:SZ a b E p)(np:az p)(h0:p≠[]):SZ 1 (a+b) E (FW.b8 p (dP p))/\rs (dP p)<=a+b+a+3:=by
 obtain⟨hPB⟩:Nonempty (FW.PB (a+b+a+3) E p):=⟨h.PB⟩
 obtain⟨⟨D,N,h1,h2,h3,h4,h5,h6⟩,K,hx⟩:=h;have hL:=TH h5 p.length (Kac _);rw[Kar]at hL;have VL:=Nat.le_of_dvd h1 hL;have aO:=Rj np h0;refine⟨⟨⟨1,N*D,by omega,Kce h2 h1,by rw[jV];omega,by have:=gV N D;omega,?_,?_⟩,?_⟩,?_⟩
 ·intro t ht;rw[b8,if_neg aO]at ht;obtain⟨s,hs,e⟩:=ZX ht;rw[e];have:=afa np.z h0 hs;simpa using this
 ·rw[b8,if_neg aO];refine KbX (xB _ _) ?_;have r1:=ac9 np.z h0;have r2:(bb p:Rat)<=(D:Rat):=rL VL;have n0:=lP p;have D0:(0:Rat)<=(D:Rat):=rL (Kby D);have s1:=Kbk (KbX r1 r2) n0;have s2:=Kbt h6 D0;rw[Kb9];show dQ (dP p)*n1 p<=_;grind
 ·obtain⟨K2,hk⟩:=(show ∃K2,FW.PB K2 E (FW.b8 p (dP p))from⟨_,xw hx (Kac _)⟩)
  exact⟨K2,hk⟩
 ·have g1:=xN hPB p.length (Kac _);rw[Kar]at g1;have l1:=fS VL;have hg:=vz np.z h0;unfold dP;refine Kaw (EF _ _ (by omega)) ?_;rw[KaD];split
  ·rw[KcD,KaD];omega
  ·rw[KaD];omega
theorem SZ.scale{a b E k:Nat}{p:List Tm}{r:Rat}(h:SZ a b E p)(hr:rs r<=k):SZ (a+k) (b+k+1) E (FW.b8 p r):=by
 obtain⟨⟨D,N,h1,h2,h3,h4,h5,h6⟩,K,hx⟩:=h;have jL:=KaY r.den_nz;have hk:nl r.num.natAbs<=k/\nl r.den<=k:=by unfold rs at hr;omega
 refine⟨⟨D*r.den,N*(r.num.natAbs+1),Kce h1 jL,Kce h2 (by omega),by have:=gV D r.den;omega,?_,?_,?_⟩,?_⟩
 ·have e1:=gV N (r.num.natAbs+1);have e2:=vD r.num.natAbs 1;have e3:nl 1<=1:=by rw[jV];omega
  have e4:1<=k∨nl r.num.natAbs=0:=by omega
  have e5:1<=k:=by
   have:1<=nl r.den:=by apply Decidable.byContradiction;intro hc;have:=xl.1 (show nl r.den=0 by omega);omega
   omega
  omega
 ·unfold FW.b8;split
  ·intro t ht;cases ht
  ·exact z9 (t:=(r,[])) (ID (Nat.dvd_refl _)) h5
 ·have n0:(0:Rat)<=(N:Rat):=rL (Kby N);have m0:(0:Rat)<=((r.num.natAbs+1:Nat):Rat):=rL (Kby _);rw[Kb9];unfold FW.b8;split
  ·exact Kci n0 m0
  ·refine KbX (xB _ _) ?_;have r1:dQ r<=((r.num.natAbs+1:Nat):Rat):=KbX (TG r) (rL (by omega));have s1:=Kbk r1 (lP p);have s2:=Kbt h6 m0;show dQ r*n1 p<=_;grind
 ·exact⟨_,xw hx (Kac _)⟩
theorem SZ.wW{a b E a' b':Nat}{p q:List Tm}(hp:SZ a b E p)(hq:SZ a' b' E q):SZ (a+a') (max b b'+1) E (FW.fV p q):=by
 refine hp.s6 ?_;obtain⟨⟨D,N,h1,h2,h3,h4,h5,h6⟩,K,hx⟩:=hq;refine⟨⟨D,N,h1,h2,h3,h4,?_,?_⟩,_,xK hx⟩
 ·rw[Dh];have:=z9 (D':=1) (t:=(-1,[])) ⟨-1,by decide+kernel⟩ h5
  rwa[KbF]at this
 ·rw[Dh];refine KbX (xB (-1,[]) q) ?_;have e:dQ (-1)=1:=by decide+kernel
  rw[e,Kdl];exact h6
theorem SZ.XO{a b E E':Nat}{p:List Tm}(h:SZ a b E p)(hx:XB E' p):SZ a b E' p:=⟨h.d,hx⟩
theorem SZ.nil(a b E:Nat)(ha:1<=a)(hb:1<=b):SZ a b E []:=⟨⟨1,1,by omega,by omega,by rw[jV];exact ha,by rw[jV];exact hb,(fun t ht=>by cases ht),by decide+kernel⟩,0,PB.nil _ _⟩
theorem xt(r:Rat):b8 [] r=[]:=by unfold b8;split<;>rfl
theorem UI{p:List Tm}{a:Rat}(nz:NZ p)(ha:a≠0):(b8 p a).length=p.length:=by
 rw[b8,if_neg ha,bd];induction p with
 |nil=>rfl
 | cons t p ih=>
  have ht:=nz t (by simp);rw[Kbl];have:¬t.1*a=0:=by
   intro h;rcases Rat.mul_eq_zero.1 h with h|h
   ·exact ht h
   ·exact ha h
  simp only[this,if_false,KaW];rw[ih fun s hs=>nz s (by simp[hs])]
theorem ML.wV{w:Nat}{p:List Tm}(h:ML w p)(c:FW.Can p)(a:Rat):ML w (FW.b8 p a):=fun t ht=>by
 unfold FW.b8 at ht;split at ht
 ·cases ht
 ·obtain⟨s,hs,e⟩:=zD ht;rw[e,tC (c s hs)];exact h s hs
end Go.FW
