/- Part 17 of the proof of TriangularMakes: TRE, FwRL, FwRN. Own lemmas; no conditions. -/
import Derived.Test.YtdjoomkeehihmaaGreatTriangularMakesPart16
set_option maxHeartbeats 1000000
set_option linter.unusedSimpArgs false
set_option linter.unusedVariables false
set_option linter.unnecessarySimpa false
set_option maxRecDepth 100000
namespace Go.Proofs.YtdjoomkeehihmaaGreat
open Go Go.FW
theorem abL{p:List Tm}{n K E L:Nat}(hn:n<=4000)(hp:PB K E p)(np:aC p)(hb:∀i,i<=n->PB K E (cF p i)/\(cF p i).length<=L)(bV:p.length<=L)(hL:L<=2^17)(hE:E<=2^37)(hK:L*(K+K)+(K+K)<=2^32):
  Qc Tryz.prog 79 [PV.aj p,.int .i64 n] (· =PV.aj (cF p n)):=by
 have h1:=nK;refine Qf Qj Tryz.func79 rfl ajn (by simp[KK]) fun C hP=>?_;simp only[KK,Zo,Zg,Zm,Zc,Zf,Zl,Zh,Zs,Zi,Zb,Zk,Zn,Zu,Zq,Zr,Zz];refine Sz0 ?_;refine Qa hP (uH (x:=1) (by omega) (by omega)) rfl rfl rfl ?_;refine Sz0 ?_;refine Qa hP (GH (a:=((1:Int):Rat)) (k:=1) (by have:((1:Int):Rat)=1:=rfl;rw[this];exact h1) (by omega)) rfl rfl rfl ?_;rw[show dQ ((1:Int):Rat)=cF p 0 from rfl];refine Sz0 ?_;refine Qz (by repeat (first|exact Qs|exact Ql|exact Qm|exact Qn|exact Qo|apply Qk|apply Qr|apply Qx|apply Q4|apply Q5|apply Qi|apply Q2)) [(5,6),(9,16)] [] (fun m J hp=>∃i,m=n-i/\i<=n/\J 5=PV.aj (cF p i)/\J 6= .int .i64 (i:Nat)) n ?_ ?_
 ·refine⟨0,rfl,by omega,?_⟩;refine Sz0 ?_
  try (first|rfl|trivial|exact⟨rfl,rfl⟩)
 rintro _ J h ⟨i,rfl,hi,h5,h9⟩;refine Sz2 h5 h9 ?_;refine Qb (fun hg=>?_) (fun hg=>?_)
 ·have aA:i<n:=by omega
  obtain⟨b1,b2⟩:=hb i (by omega);have nn:=wU np i;have qO:p.length*(cF p i).length<=2^17*2^17:=KaM (by omega) (by omega);have mX:p.length*(K+K)<=L*(K+K):=Kaf _ bV;have Vm:=rj (p:=cF p i) (q:=p) b1 hp nn.z np.z hE (by omega) (by omega) (by omega) (by omega);rw[uQ nn np,show Q8 (cF p i) p=cF p (i+1)from rfl]at Vm;refine Sz2 h5 h9 ?_;refine Qa hP Vm rfl rfl rfl ?_;refine Sz2 h5 h9 ?_;refine Qh (n-(i+1)) (by omega) ⟨i+1,rfl,by omega,?_⟩;refine Sz0 ?_
  try trivial
 ·obtain rfl:i=n:=by omega
  refine Sz1 h5 ?_;exact Qd rfl rfl
def eJ:Nat->Nat
 |0=>3
 |j+1=>eJ j+3*(eJ j+1)
def aJ:Nat->Nat
 |0=>9
 |j+1=>aJ j+9*(eJ j+1)+10
def bJ:Nat->Nat
 |0=>8
 |j+1=>bJ j+10*(eJ j+1)+10
theorem WL{j:Nat}(h:j<=3):eJ j<=255/\aJ j<=800/\bJ j<=900:=by
 have:j=0∨j=1∨j=2∨j=3:=by omega
 rcases this with rfl|rfl|rfl|rfl<;>decide
structure PI(j:Nat)(p:List Tm):Prop where
 s:SZ (aJ j) (bJ j) (eJ j) p
 n:aC p
 l:p.length<=4000
theorem PI.pb{j:Nat}{p:List Tm}(h:PI j p)(hj:j<=3):PB 2600 255 p:=by obtain⟨h1,h2,h3⟩:=WL hj;exact h.s.PB.mono (by omega) (by omega)
structure GI(g:List Tm):Prop where
 s:SZ 9 8 3 g
 b:PB 2 3 g
 n:aC g
 l:g.length<=4
 m:ML 3 g
 p:0<=Qv g
def qy(f g:List Tm):Option (List Tm×List Tm×Nat):=mP g (Qv g).toNat (Q3 g (Qv g).toNat).toNat ((Q3 f (Qv g).toNat).toNat+1) [] f 0
theorem G7{g f:List Tm}{v d:Nat}:∀(fuel k:Nat) {q r:List Tm} {n:Nat},mP g v d fuel (aG g v d f k).1 (aG g v d f k).2 k=some (q,r,n)->(0<k->bf (aG g v d f k).1=false/\bf (aG g v d f k).2=false)->
  q=(aG g v d f n).1/\r=(aG g v d f n).2/\n<=k+fuel/\(0<n->bf q=false/\bf r=false)
 |0,k,q,r,n,h,hk=>by simp only[mP,KaB,KcN]at h;obtain⟨rfl,rfl,rfl⟩:=h;exact⟨rfl,rfl,by omega,hk⟩
 | fuel+1,k,q,r,n,h,hk=>by
  rw[mP]at h;split at h
  ·simp only[KaB,KcN]at h;obtain⟨rfl,rfl,rfl⟩:=h;exact⟨rfl,rfl,by omega,hk⟩
  ·split at h
   ·cases h
   ·rename_i hl;simp only[not_or,Bool.not_eq_true]at hl;obtain⟨e1,e2,e3,e4⟩:=G7 fuel (k+1) h (fun _=>hl);exact⟨e1,e2,by omega,e4⟩
theorem adL{p:List Tm}{w:Nat}(h:ML w p):Qv p<=(w:Int)-1∨Qv p= -1:=by
 rcases(Tc p (-1)).2.2 with h1|⟨t,ht,h1⟩
 ·exact .inr h1
 ·left;have:=h t ht;show Qv p<=_;rw[show Qv p=(t.2.length:Int)-1 from h1];omega
theorem GI.ne{g:List Tm}(h:GI g):g≠[]:=fun e=>by have:=h.p;rw[e]at this;exact absurd this (by decide)
theorem GI.v{g:List Tm}(h:GI g):(((Qv g).toNat:Nat):Int)=Qv g/\(Qv g).toNat<=2:=by have h1:=h.p;rcases adL h.m with h2|h2<;>omega
theorem GI.d{g:List Tm}(h:GI g)(v:Nat):(((Q3 g v).toNat:Nat):Int)=Q3 g v:=by have:=(oq h.b h.ne v).1;omega
theorem GI.N{g f:List Tm}{j:Nat}(hf:PI j f)(v:Nat):(Q3 f v).toNat+1<=eJ j+1/\Q3 f v<(((Q3 f v).toNat+1:Nat):Int):=by
 obtain⟨K,hx⟩:=hf.s.x;by_cases h0:f=[]
 ·subst h0;simp[Q3]
 ·have:=oq hx h0 v;omega
theorem DV.pb{a b E:Nat}{q r:List Tm}(h:DV a b E q r)(ha:a<=800)(hb:b<=900)(hE:E<=255):PB 2600 255 q/\PB 2600 255 r:=⟨h.q.PB.mono (by omega) hE,h.r.PB.mono (by omega) hE⟩
theorem qd{p:List Tm}(h:bf p=false):p.length<=4000:=by unfold bf at h;simp only[Kcf,decide_eq_false_iff_not]at h;omega
end Go.Proofs.YtdjoomkeehihmaaGreat
namespace Go.FW
open Go
theorem Dm{a b c:List Int}{v n:Nat}{x:Int}(h:∀i,eN c i=eN a i+eN b i+if i=v then x else 0)(hn:v<n):ej c n=ej a n+ej b n+x:=by
 have key:∀n,ej c n=ej a n+ej b n+if v<n then x else 0:=fun n=>by
  induction n with
  |zero=>simp[ej]
  | succ n ih=>
   rw[ej,ej,ej,ih,h];by_cases e:n=v
   ·subst e;simp;omega
   ·by_cases e2:v<n
    ·rw[if_pos e2,if_neg e,if_pos (by omega)];omega
    ·rw[if_neg e2,if_neg e,if_neg (by omega)];omega
 rw[key n,if_pos hn]
theorem Tk(n:Nat):ej [] n=0:=by
 induction n with
 |zero=>rfl
 |succ n ih=>rw[ej,ih];rfl
theorem abM(a b:List Int)(n:Nat):ej (b7 a b) n=ej a n+ej b n:=by
 have:=Dm (a:=a) (b:=b) (c:=b7 a b) (v:=0) (n:=n+1) (x:=0) (fun i=>by rw[jH];split<;>omega) (by omega);induction n with
 |zero=>simp[ej]
 |succ n ih=>rw[ej,ej,ej,ih (Dm (v:=0) (x:=0) (fun i=>by rw[jH];split<;>omega) (by omega)),jH];omega
theorem ZT{a:List Int}{v n:Nat}(hn:v<n):ej (ew a v) n=ej a n-eN a v:=by
 have:=Dm (a:=a) (b:=[]) (c:=ew a v) (v:=v) (n:=n) (x:= -eN a v) (fun i=>by
  rw[uR];have:eN ([]:List Int) i=0:=by simp[eN]
  split
  ·rename_i e;subst e;omega
  ·omega) hn
 rw[Tk]at this;omega
def TD(T:Int)(p:List Tm):Prop:=∀t∈p,ej t.2 64<=T
theorem TD.nil(T:Int):TD T []:=fun t h=>by cases h
theorem TD.mono{T T':Int}{p:List Tm}(h:TD T p)(hT:T<=T'):TD T' p:=fun t ht=>Int.le_trans (h t ht) hT
theorem TD.sC{T:Int}{p q:List Tm}(hp:TD T p)(hq:TD T q):TD T (FW.Q7 p q):=fun t ht=>by
 rcases sY ht with⟨s,hs,e⟩|⟨s,hs,e⟩
 ·rw[<-e];exact hp s hs
 ·rw[<-e];exact hq s hs
theorem TD.yt{T:Int}{p q:List Tm}(hp:TD T p)(hq:TD T q)(nq:Can q):TD T (FW.fY p q):=fun t ht=>by
 rcases Hl nq ht with⟨s,hs,e⟩|⟨s,hs,e⟩
 ·rw[<-e];exact hp s hs
 ·rw[<-e];exact hq s hs
theorem TD.l8{T T':Int}{p q:List Tm}(hp:TD T p)(hq:TD T' q):TD (T+T') (FW.Q8 p q):=fun t ht=>by obtain⟨a,ha,b,hb,e⟩:=wV ht;have h1:=hp a ha;have h2:=hq b hb;rw[e,abM];omega
theorem TD.wj{T:Int}{p:List Tm}(hp:TD T p)(c:Can p)(a:Rat):TD T (FW.ch p a):=fun t ht=>by
 unfold FW.ch at ht;split at ht
 ·cases ht
 ·obtain⟨s,hs,e⟩:=yT ht;rw[e,uP (c s hs)];exact hp s hs
theorem TD.mO{T:Int}{p:List Tm}(hp:TD T p){v:Nat}(hv:v<64)(n:Int):TD (T-n) (FW.aX p v n):=fun t ht=>by obtain⟨s,hs,e,rfl⟩:=sT ht;have:=hp s hs;rw[ZT hv,e];omega
theorem TD.aoT{T:Int}{p:List Tm}(hp:TD T p){v:Nat}(hv:v<64)(n:Nat):TD (T+n) (FW.gr p v n):=fun t ht=>by
 obtain⟨s,hs,e⟩:=CE ht;have:=hp s hs;have h2:=Dm (a:=s.2) (b:=[]) (c:=t.2) (v:=v) (n:=64) (x:=n) (fun i=>by
  have h0:eN ([]:List Int) i=0:=by simp[eN]
  rw[e i,h0];omega) hv
 rw[Tk]at h2;omega
theorem TD.eD{T Tg:Int}{r g:List Tm}{v n d:Nat}(hr:TD T r)(hg:TD Tg g)(ng:aC g)(nr:aC r)(hv:v<64)(hd:d<=n):TD (T+(Tg-d)) (FW.eD r g v n d):=by
 have hb:=sK (kJ nr v n) v (n-d);refine TD.yt ?_ ?_ (kd (show eR (de r v n d)from hb.s) ng.s).c
 ·exact((hg.mO hv (d:Int)).l8 hr).mono (by omega)
 ·exact((((hr.mO hv (n:Int)).aoT hv (n-d)).l8 hg)).mono (by omega)
theorem TD.aG{T Tg:Int}{f g:List Tm}{v d:Nat}(hf:TD T f)(nf:aC f)(hg:TD Tg g)(ng:aC g)(hv:v<64)(hb:∀k,∃K E,PB K E (FW.aG g v d f k).2):∀k,(∀j,j<k->(FW.aG g v d f j).2≠[]/\(d:Int)<=Q3 (FW.aG g v d f j).2 v)->TD (T+k*(Tg-d)) (FW.aG g v d f k).2
 |0,_=>by rw[show(T+((0:Nat):Int)*(Tg-d))=T by simp];exact hf
 |k+1,h=>by have ih:=TD.aG hf nf hg ng hv hb k fun j hj=>h j (by omega);obtain⟨n1,n2⟩:=sZ (v:=v) (d:=d) nf ng k;obtain⟨h1,h2⟩:=h k (by omega);have:=ih.eD (n:=(Q3 (FW.aG g v d f k).2 v).toNat) (d:=d) hg ng n2 hv (by omega);rw[show(T+((k+1:Nat):Int)*(Tg-d))=T+k*(Tg-d)+(Tg-d)by rw[Int.natCast_add,Int.add_mul];omega];exact this
theorem O9{f g:List Tm}{v d:Nat}(nf:aC f)(ng:aC g)(en:∀t∈g,eN t.2 v<=d)(hb:∀k,∃K E,PB K E (aG g v d f k).2):∀k,(∀j,j<k->(aG g v d f j).2≠[]/\(d:Int)<=Q3 (aG g v d f j).2 v)->(aG g v d f k).2=[]∨Q3 (aG g v d f k).2 v<=Q3 f v-k
 |0,_=>.inr (by simp[aG])
 | k+1,h=>by
  obtain⟨h1,h2⟩:=h k (by omega);obtain⟨n1,n2⟩:=sZ (v:=v) (d:=d) nf ng k;have ih:=(O9 nf ng en hb k fun j hj=>h j (by omega)).resolve_left h1;obtain⟨K,E,hk⟩:=hb k;obtain⟨K',E',dT⟩:=hb (k+1);by_cases h0:(aG g v d f (k+1)).2=[]
  ·exact .inl h0
  ·right;have hle:=(rq (aG g v d f k).2 v).2.1;have ar:=P4 (n:=(Q3 (aG g v d f k).2 v).toNat) n2 ng (by omega:d<=(Q3 (aG g v d f k).2 v).toNat) (fun t ht=>by have:=hle t ht;omega) en;have h3:=(oq dT h0 v).1;rcases(rq (aG g v d f (k+1)).2 v).2.2 with e|⟨t,ht,e⟩
   ·omega
   ·have:eN t.2 v<_:=ar t ht;have e2:(aG g v d f (k+1)).2=eD (aG g v d f k).2 g v (Q3 (aG g v d f k).2 v).toNat d:=rfl;omega
theorem Ob{T:Nat}{p:List Tm}(h:TD T p)(hx:∃E,XB E p):XB T p:=by
 obtain⟨E,K,hb⟩:=hx;refine⟨K,fun t ht=>⟨(hb t ht).c,⟨(hb t ht).m.len,(hb t ht).m.lo,fun x hx=>?_⟩,(hb t ht).l⟩⟩;obtain⟨i,hi,rfl⟩:=Kbd hx;have h0:∀n,i<n->eN t.2 i<=ej t.2 n:=fun n hn=>by
  induction n with
  |zero=>omega
  | succ n ih=>
   have lV:∀m,0<=ej t.2 m:=fun m=>by
    induction m with
    |zero=>simp[ej]
    |succ m ih=>rw[ej];have:=((hb t ht).m.eN m).1;omega
   rw[ej];by_cases e:i=n
   ·subst e;have:=lV i;omega
   ·have:=ih (by omega);have:=((hb t ht).m.eN n).1;omega
 have h1:=(hb t ht).m.len;have h2:=h0 64 (by omega);have h3:=h t ht;rw[e9 hi]at h2;omega
theorem age{c:Rat}{D:Nat}(h:iY (c*(D:Rat))):c.den∣D:=by
 obtain⟨z,hz⟩:=h;have d1:c=(c.num:Rat)/((c.den:Int):Rat):=by
  conv=>lhs;rw[<-Rat.mkRat_self c]
  rw[Kb1,KaW]
 have k1:((c.den:Int):Rat)≠0:=by rw[Ne,Ka6];have:=c.den_nz;omega
 have e:(c.num:Rat)*(D:Rat)=(z:Rat)*((c.den:Int):Rat):=by
  rw[<-hz];generalize hA:(c.num:Rat)=A at *
  generalize((c.den:Int):Rat)=B at *
  rw[d1];grind
 have e2:c.num*(D:Int)=z*(c.den:Int):=by apply Rat.intCast_inj.1;rw[Kbs,Kbs,KaW,e]
 have e3:c.num.natAbs*D=z.natAbs*c.den:=by
  have:=congrArg Int.natAbs e2
  rwa[Kcq,Kcq,KaD,KaD]at this
 exact(Nat.Coprime.symm (H3 c)).dvd_of_dvd_mul_left (e3▸Kdg _ _)
theorem Rj{D:Nat}{p:List Tm}(h:Dn D p):∀i,i<=p.length->aZ (p.take i)∣D
 |0,_=>by simp[aZ]
 |i+1,hi=>by
  rw[sU (by omega)];have h1:=Rj h i (by omega);have h2:=age (h _ (Kah (show i<p.length by omega)));have h3:=Nat.lcm_dvd h1 h2
  rwa[Nat.lcm,Nat.mul_div_assoc _ (KbU _ _)]at h3
theorem adM(p:List Tm):∀t∈p,dH p∣t.1.num.natAbs:=by
 have hd:∀(l:List Tm)(g:Nat),l.foldl (fun g t=>Nat.gcd g t.1.num.natAbs) g∣g/\∀t∈l,l.foldl (fun g t=>Nat.gcd g t.1.num.natAbs) g∣t.1.num.natAbs:=by
  intro l;induction l with
  |nil=>intro g;simp
  |cons t l ih=>
   intro g;obtain⟨h1,h2⟩:=ih (Nat.gcd g t.1.num.natAbs);refine⟨Kcn h1 (KbI _ _),fun s hs=>?_⟩;rcases KaO.1 hs with rfl|hs
   ·exact Kcn h1 (KbU _ _)
   ·exact h2 s hs
 exact(hd p 0).2
theorem Yd{p:List Tm}{t x:Tm}(h:x∈bb p t):∃s∈p,x.1=s.1*t.1:=by
 simp only[bb,KbR]at h;obtain⟨y,hy,h⟩:=h;split at h
 ·cases h
 ·cases h;exact⟨y,hy,rfl⟩
theorem adN{p:List Tm}(nz:NZ p)(h0:p≠[]){t:Tm}(ht:t∈p):iY (t.1*dI p):=by
 obtain⟨i,hi,rfl⟩:=Kbd ht;obtain⟨l,hl⟩:=Hp p hi;obtain⟨n,hn⟩:=adM p _ ht;have hg:=uU nz h0;generalize hc:p[i].1=c at *
 have d1:c=(c.num:Rat)/((c.den:Int):Rat):=by
  conv=>lhs;rw[<-Rat.mkRat_self c]
  rw[Kb1,KaW]
 have k1:((c.den:Int):Rat)≠0:=by rw[Ne,Ka6];have:=c.den_nz;omega
 have k2:((dH p:Int):Rat)≠0:=by rw[Ne,Ka6];omega
 have e1:((aZ p:Int):Rat)=((c.den:Int):Rat)*((l:Int):Rat):=by rw[hl,Int.natCast_mul,Kbs]
 obtain⟨m,hm⟩:∃m:Int,c.num=(dH p:Int)*m:=by
  rcases Int.natAbs_eq c.num with e|e
  ·exact⟨n,by rw[e,hn,Int.natCast_mul]⟩
  ·exact⟨-n,by rw[e,hn,Int.natCast_mul,Int.mul_neg]⟩
 have e2:(c.num:Rat)=((dH p:Int):Rat)*(m:Rat):=by rw[hm,Kbs]
 unfold dI;split
 ·refine⟨-(m*l),?_⟩;rw[Kc2,Kc2,Kbs,e1];generalize((c.den:Int):Rat)=B at *
  rw[d1,e2];generalize((dH p:Int):Rat)=G at *
  generalize((l:Int):Rat)=L at *
  generalize(m:Rat)=M at *
  grind
 ·refine⟨m*l,?_⟩;rw[Kbs,e1];generalize((c.den:Int):Rat)=B at *
  rw[d1,e2];generalize((dH p:Int):Rat)=G at *
  generalize((l:Int):Rat)=L at *
  generalize(m:Rat)=M at *
  grind
theorem abN{p:List Tm}(nz:NZ p)(h0:p≠[]):dJ (dI p)<=(aZ p:Rat):=by
 have hg:=uU nz h0;have g1:(1:Rat)<=((dH p:Int):Rat):=by have:=rk (show 1<=dH p by omega);rw[KaW];simpa using this
 have l0:(0:Rat)<=((aZ p:Int):Rat):=by have:=rk (show 0<=aZ p by omega);rw[KaW];simpa using this
 have main:((aZ p:Int):Rat)/((dH p:Int):Rat)<=((aZ p:Int):Rat)/\0<=((aZ p:Int):Rat)/((dH p:Int):Rat):=by
  generalize((aZ p:Int):Rat)=L at *
  generalize((dH p:Int):Rat)=G at *
  have i1:0<G:=by grind
  have e:L/G*G=L:=by grind
  have q0:0<=L/G:=by rw[KcA];exact Kch l0 (Rat.le_of_lt (Rat.inv_pos.2 i1))
  have:=Kbr g1 q0;constructor<;>grind
 have e:dI p=((aZ p:Int):Rat)/((dH p:Int):Rat)∨dI p= -(((aZ p:Int):Rat)/((dH p:Int):Rat)):=by
  unfold dI;split
  ·right;rw[Kc2,KcA,KcA,Rat.neg_mul]
  ·left;rfl
 have ec:(aZ p:Rat)=((aZ p:Int):Rat):=(KaW _).symm;rw[ec];unfold dJ;rcases e with e|e<;>rw[e]<;>split<;>grind
theorem SZ.Fg{a b E:Nat}{p:List Tm}(h:SZ a b E p)(np:aC p)(h0:p≠[]):SZ 1 (a+b) E (FW.ch p (dI p))/\rs (dI p)<=a+b+a+3:=by
 obtain⟨hPB⟩:Nonempty (FW.PB (a+b+a+3) E p):=⟨h.PB⟩
 obtain⟨⟨D,N,h1,h2,h3,h4,h5,h6⟩,K,hx⟩:=h;have hL:=Rj h5 p.length (Kac _);rw[Kas]at hL;have Um:=Nat.le_of_dvd h1 hL;have aP:=OE np h0;refine⟨⟨⟨1,N*D,by omega,Kce h2 h1,by rw[jG];omega,by have:=gJ N D;omega,?_,?_⟩,?_⟩,?_⟩
 ·intro t ht;rw[ch,if_neg aP]at ht;obtain⟨s,hs,e⟩:=Yd ht;rw[e];have:=adN np.z h0 hs;simpa using this
 ·rw[ch,if_neg aP];refine KbW (wM _ _) ?_;have r1:=abN np.z h0;have r2:(aZ p:Rat)<=(D:Rat):=rk Um;have n0:=lC p;have D0:(0:Rat)<=(D:Rat):=rk (Kbw D);have s1:=Kbi (KbW r1 r2) n0;have s2:=Kbr h6 D0;rw[Kb9];show dJ (dI p)*n1 p<=_;grind
 ·obtain⟨K2,hk⟩:=(show ∃K2,FW.PB K2 E (FW.ch p (dI p))from⟨_,zb hx (Kac _)⟩)
  exact⟨K2,hk⟩
 ·have g1:=xf hPB p.length (Kac _);rw[Kas]at g1;have l1:=fE Um;have hg:=uU np.z h0;unfold dI;refine Kay (DO _ _ (by omega)) ?_;rw[KaD];split
  ·rw[KcC,KaD];omega
  ·rw[KaD];omega
theorem SZ.scale{a b E k:Nat}{p:List Tm}{r:Rat}(h:SZ a b E p)(hr:rs r<=k):SZ (a+k) (b+k+1) E (FW.ch p r):=by
 obtain⟨⟨D,N,h1,h2,h3,h4,h5,h6⟩,K,hx⟩:=h;have jA:=KaY r.den_nz;have hk:nl r.num.natAbs<=k/\nl r.den<=k:=by unfold rs at hr;omega
 refine⟨⟨D*r.den,N*(r.num.natAbs+1),Kce h1 jA,Kce h2 (by omega),by have:=gJ D r.den;omega,?_,?_,?_⟩,?_⟩
 ·have e1:=gJ N (r.num.natAbs+1);have e2:=uY r.num.natAbs 1;have e3:nl 1<=1:=by rw[jG];omega
  have e4:1<=k∨nl r.num.natAbs=0:=by omega
  have e5:1<=k:=by
   have:1<=nl r.den:=by apply Decidable.byContradiction;intro hc;have:=wG.1 (show nl r.den=0 by omega);omega
   omega
  omega
 ·unfold FW.ch;split
  ·intro t ht;cases ht
  ·exact zf (t:=(r,[])) (H5 (Nat.dvd_refl _)) h5
 ·have n0:(0:Rat)<=(N:Rat):=rk (Kbw N);have m0:(0:Rat)<=((r.num.natAbs+1:Nat):Rat):=rk (Kbw _);rw[Kb9];unfold FW.ch;split
  ·exact Kch n0 m0
  ·refine KbW (wM _ _) ?_;have r1:dJ r<=((r.num.natAbs+1:Nat):Rat):=KbW (Ri r) (rk (by omega));have s1:=Kbi r1 (lC p);have s2:=Kbr h6 m0;show dJ r*n1 p<=_;grind
 ·exact⟨_,zb hx (Kac _)⟩
theorem SZ.yt{a b E a' b':Nat}{p q:List Tm}(hp:SZ a b E p)(hq:SZ a' b' E q):SZ (a+a') (max b b'+1) E (FW.fY p q):=by
 refine hp.sC ?_;obtain⟨⟨D,N,h1,h2,h3,h4,h5,h6⟩,K,hx⟩:=hq;refine⟨⟨D,N,h1,h2,h3,h4,?_,?_⟩,_,xc hx⟩
 ·rw[CG];have:=zf (D':=1) (t:=(-1,[])) ⟨-1,by decide+kernel⟩ h5
  rwa[KbF]at this
 ·rw[CG];refine KbW (wM (-1,[]) q) ?_;have e:dJ (-1)=1:=by decide+kernel
  rw[e,Kdj];exact h6
theorem SZ.Wq{a b E E':Nat}{p:List Tm}(h:SZ a b E p)(hx:XB E' p):SZ a b E' p:=⟨h.d,hx⟩
theorem SZ.nil(a b E:Nat)(ha:1<=a)(hb:1<=b):SZ a b E []:=⟨⟨1,1,by omega,by omega,by rw[jG];exact ha,by rw[jG];exact hb,(fun t ht=>by cases ht),by decide+kernel⟩,0,PB.nil _ _⟩
theorem wP(r:Rat):ch [] r=[]:=by unfold ch;split<;>rfl
theorem Si{p:List Tm}{a:Rat}(nz:NZ p)(ha:a≠0):(ch p a).length=p.length:=by
 rw[ch,if_neg ha,bb];induction p with
 |nil=>rfl
 | cons t p ih=>
  have ht:=nz t (by simp);rw[Kbk];have:¬t.1*a=0:=by
   intro h;rcases Rat.mul_eq_zero.1 h with h|h
   ·exact ht h
   ·exact ha h
  simp only[this,if_false,KaX];rw[ih fun s hs=>nz s (by simp[hs])]
theorem ML.wj{w:Nat}{p:List Tm}(h:ML w p)(c:FW.Can p)(a:Rat):ML w (FW.ch p a):=fun t ht=>by
 unfold FW.ch at ht;split at ht
 ·cases ht
 ·obtain⟨s,hs,e⟩:=yT ht;rw[e,uP (c s hs)];exact h s hs
end Go.FW
