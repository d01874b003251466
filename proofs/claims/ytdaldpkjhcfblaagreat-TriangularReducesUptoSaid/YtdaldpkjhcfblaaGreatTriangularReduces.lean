/- Reduce of triangular is that of the specification, or the error, for a small polynomial and a small list, and the first examples hold. -/
import Derived.Test.YtdaldpkjhcfblaaGreatTriangularReducesPart16
set_option maxHeartbeats 1000000
set_option linter.unusedSimpArgs false
set_option linter.unusedVariables false
set_option linter.unnecessarySimpa false
set_option maxRecDepth 100000
namespace Go.Proofs.YtdaldpkjhcfblaaGreat
open Go Go.FW
theorem Q90{p:List Tm}{n K E L:Nat}(hn:n<=4000)(hp:PB K E p)(np:Nrm p)(hb:∀i,i<=n->PB K E (Qbn p i)/\(Qbn p i).length<=L)(hlp:p.length<=L)(hL:L<=2^17)(hE:E<=2^37)(hK:L*(K+K)+(K+K)<=2^32):
  Qd Tryz.prog 13 [PV.poly p,.int .i64 n] (· =PV.poly (Qbn p n)):=by
 have h1:=Qmt;refine Qf Qj Tryz.func13 rfl Qao8 (by simp[c13]) fun C hP=>?_;simp only[c13];refine Sz0 ?_;refine Qa hP (Qit (x:=1) (by omega) (by omega)) rfl rfl rfl ?_;refine Sz0 ?_;refine Qa hP (Qu4 (a:=((1:Int):Rat)) (k:=1) (by have:((1:Int):Rat)=1:=rfl;rw[this];exact h1) (by omega)) rfl rfl rfl ?_;rw[show Qby ((1:Int):Rat)=Qbn p 0 from rfl];refine Sz0 ?_;refine Qx (by repeat (first|exact Qu|exact Qm|exact Qn|exact Qk|exact Qo|apply Ql|apply Qt|apply Qw|apply Q2|apply Q3|apply Qi|apply Qy)) [(5,6),(9,16)] [] (fun m J hp=>∃i,m=n-i/\i<=n/\J 5=PV.poly (Qbn p i)/\J 6= .int .i64 (i:Nat)) n ?_ ?_
 ·refine⟨0,rfl,by omega,?_⟩;refine Sz0 ?_
  try (first|rfl|trivial|exact⟨rfl,rfl⟩)
 rintro _ J h ⟨i,rfl,hi,h5,h9⟩;refine Sz2 h5 h9 ?_;refine Qb (fun hg=>?_) (fun hg=>?_)
 ·have hi':i<n:=by omega
  obtain⟨b1,b2⟩:=hb i (by omega);have nn:=Qjb np i;have hm1:p.length*(Qbn p i).length<=2^17*2^17:=Nat.mul_le_mul (by omega) (by omega);have hm2:p.length*(K+K)<=L*(K+K):=Nat.mul_le_mul_right _ hlp;have hmu:=Qed (p:=Qbn p i) (q:=p) b1 hp nn.z np.z hE (by omega) (by omega) (by omega) (by omega);rw[Qja nn np,show Qac (Qbn p i) p=Qbn p (i+1)from rfl]at hmu;refine Sz2 h5 h9 ?_;refine Qa hP hmu rfl rfl rfl ?_;refine Sz2 h5 h9 ?_;refine Qh (n-(i+1)) (by omega) ⟨i+1,rfl,by omega,?_⟩;refine Sz0 ?_
  try trivial
 ·obtain rfl:i=n:=by omega
  refine Sz1 h5 ?_;exact Qc rfl rfl
def eJ:Nat->Nat
 |0=>3
 |j+1=>eJ j+3*(eJ j+1)
def aJ:Nat->Nat
 |0=>9
 |j+1=>aJ j+9*(eJ j+1)+10
def bJ:Nat->Nat
 |0=>8
 |j+1=>bJ j+10*(eJ j+1)+10
theorem J_le{j:Nat}(h:j<=3):eJ j<=255/\aJ j<=800/\bJ j<=900:=by
 have:j=0∨j=1∨j=2∨j=3:=by omega
 rcases this with rfl|rfl|rfl|rfl<;>decide
theorem J_lt{j:Nat}(h:j<=2):eJ j<=63/\aJ j<=300/\bJ j<=300:=by
 have:j=0∨j=1∨j=2:=by omega
 rcases this with rfl|rfl|rfl<;>decide
structure PI(j:Nat)(p:List Tm):Prop where
 s:SZ (aJ j) (bJ j) (eJ j) p
 n:Nrm p
 l:p.length<=4000
theorem PI.up{j:Nat}{p:List Tm}(h:PI j p):PI (j+1) p:=⟨h.s.mono (by rw[aJ];omega) (by rw[bJ];omega) (by rw[eJ];omega),h.n,h.l⟩
theorem PI.pb{j:Nat}{p:List Tm}(h:PI j p)(hj:j<=3):PB 2600 255 p:=by obtain⟨h1,h2,h3⟩:=J_le hj;exact h.s.PB.mono (by omega) (by omega)
structure GI(g:List Tm):Prop where
 s:SZ 9 8 3 g
 b:PB 2 3 g
 n:Nrm g
 l:g.length<=4
 m:ML 3 g
 p:0<=Qab g
def Qkk(f g:List Tm):Option (List Tm×List Tm×Nat):=dvO g (Qab g).toNat (Qai g (Qab g).toNat).toNat ((Qai f (Qab g).toNat).toNat+1) [] f 0
theorem Q1e{g f:List Tm}{v d:Nat}:∀(fuel k:Nat) {q r:List Tm} {n:Nat},dvO g v d fuel (dvS g v d f k).1 (dvS g v d f k).2 k=some (q,r,n)->(0<k->Qae (dvS g v d f k).1=false/\Qae (dvS g v d f k).2=false)->
  q=(dvS g v d f n).1/\r=(dvS g v d f n).2/\n<=k+fuel/\(0<n->Qae q=false/\Qae r=false)
 |0,k,q,r,n,h,hk=>by simp only[dvO,Option.some.injEq,Prod.mk.injEq]at h;obtain⟨rfl,rfl,rfl⟩:=h;exact⟨rfl,rfl,by omega,hk⟩
 | fuel+1,k,q,r,n,h,hk=>by
  rw[dvO]at h;split at h
  ·simp only[Option.some.injEq,Prod.mk.injEq]at h;obtain⟨rfl,rfl,rfl⟩:=h;exact⟨rfl,rfl,by omega,hk⟩
  ·split at h
   ·cases h
   ·rename_i hl;simp only[not_or,Bool.not_eq_true]at hl;obtain⟨e1,e2,e3,e4⟩:=Q1e fuel (k+1) h (fun _=>hl);exact⟨e1,e2,by omega,e4⟩
theorem Qafl{p:List Tm}{w:Nat}(h:ML w p):Qab p<=(w:Int)-1∨Qab p= -1:=by
 rcases(Qqs p (-1)).2.2 with h1|⟨t,ht,h1⟩
 ·exact .inr h1
 ·left;have:=h t ht;show Qab p<=_;rw[show Qab p=(t.2.length:Int)-1 from h1];omega
theorem GI.ne{g:List Tm}(h:GI g):g≠[]:=fun e=>by have:=h.p;rw[e]at this;exact absurd this (by decide)
theorem GI.v{g:List Tm}(h:GI g):(((Qab g).toNat:Nat):Int)=Qab g/\(Qab g).toNat<=2:=by have h1:=h.p;rcases Qafl h.m with h2|h2<;>omega
theorem GI.d{g:List Tm}(h:GI g)(v:Nat):(((Qai g v).toNat:Nat):Int)=Qai g v:=by have:=(Qgw h.b h.ne v).1;omega
theorem GI.states{g f:List Tm}{j:Nat}(h:GI g)(hf:PI j f)(d:Nat)(k:Nat)(hk:k<=eJ j+1):DV (aJ (j+1)) (bJ (j+1)) (eJ (j+1)) (dvS g (Qab g).toNat d f k).1 (dvS g (Qab g).toNat d f k).2:=by
 have hs:=DV.steps (d:=d) hf.s hf.n h.s h.n (by have:=h.v;omega:(Qab g).toNat<64) k;obtain⟨⟨D,N,h1,h2,h3,h4,h5⟩,⟨K1,x1⟩,K2,x2⟩:=hs;have e1:aJ j+k*9<=aJ (j+1):=by rw[aJ];omega
 have e2:bJ j+k*(8+2)<=bJ (j+1):=by rw[bJ];omega
 have e3:eJ j+k*3<=eJ (j+1):=by rw[eJ];omega
 exact⟨⟨D,N,h1,h2,by omega,by omega,h5⟩,⟨K1,x1.mono (Nat.le_refl _) e3⟩,K2,x2.mono (Nat.le_refl _) e3⟩
theorem GI.N{g f:List Tm}{j:Nat}(hf:PI j f)(v:Nat):(Qai f v).toNat+1<=eJ j+1/\Qai f v<(((Qai f v).toNat+1:Nat):Int):=by
 obtain⟨K,hx⟩:=hf.s.x;by_cases h0:f=[]
 ·subst h0;simp[Qai]
 ·have:=Qgw hx h0 v;omega
theorem DV.pb{a b E:Nat}{q r:List Tm}(h:DV a b E q r)(ha:a<=800)(hb:b<=900)(hE:E<=255):PB 2600 255 q/\PB 2600 255 r:=⟨h.q.PB.mono (by omega) hE,h.r.PB.mono (by omega) hE⟩
theorem Qq1{p:List Tm}(h:Qae p=false):p.length<=4000:=by unfold Qae at h;simp only[Bool.or_eq_false_iff,decide_eq_false_iff_not]at h;omega
theorem Qgy{f g q r:List Tm}{n j:Nat}(h:GI g)(hf:PI j f)(he:Qkk f g=some (q,r,n)):PI (j+1) q/\PI (j+1) r/\n<=eJ j+1:=by
 unfold Qkk at he;obtain⟨e1,e2,e3,e4⟩:=Q1e (f:=f) _ 0 he (fun h=>absurd h (by omega));have hN:=GI.N (g:=g) hf (Qab g).toNat;have hs:=h.states hf (Qai g (Qab g).toNat).toNat n (by omega);obtain⟨n1,n2⟩:=Qre (v:=(Qab g).toNat) (d:=(Qai g (Qab g).toNat).toNat) hf.n h.n n;subst e1 e2;refine⟨⟨hs.q,n1,?_⟩,⟨hs.r,n2,?_⟩,by omega⟩
 ·by_cases h0:0<n
  ·exact Qq1 (e4 h0).1
  ·obtain rfl:n=0:=by omega
   simp[dvS]
 ·by_cases h0:0<n
  ·exact Qq1 (e4 h0).2
  ·obtain rfl:n=0:=by omega
   exact hf.l
theorem Qo8{g:List Tm}(h:GI g){n:Nat}(hn:n<=64):PB 1200 192 (Qa4 g)/\Nrm (Qa4 g)/\(Qa4 g).length<=4/\∀i,i<=n->PB 1900 192 (Qbn (Qa4 g) i)/\(Qbn (Qa4 g) i).length<=37249:=by
 obtain⟨v1,v2⟩:=h.v;have hp:=h.p;have e:Qa4 g=Qah g (Qab g).toNat (Qai g (Qab g).toNat):=by unfold Qa4 exi;rw[if_neg (by omega),if_neg (by omega)]
 have hM:ML (Qab g).toNat (Qa4 g):=by rw[e];refine ML.top h.b (fun t ht=>?_) _;have:=(Qqs g (-1)).2.1 t ht;have h2:(t.2.length:Int)-1<=Qab g:=this;omega
 have hS:SZ 9 8 3 (Qa4 g):=by rw[e];exact h.s.coefN _ _
 have hn':Nrm (Qa4 g):=by rw[e];exact Qcu h.n _ _
 have hl:(Qa4 g).length<=4:=by rw[e];exact Nat.le_trans (Qcz _ _ _) h.l
 refine⟨hS.PB.mono (by omega) (by omega),hn',hl,fun i hi=>?_⟩;have h1:=(hS.ppow i).PB;have h2:PB 1900 192 (Qbn (Qa4 g) i):=h1.mono (by omega) (by omega);refine⟨h2,?_⟩;have h3:=Q2j h2 (Qjb hn' i) (hM.ppow i);have:(Qab g).toNat=0∨(Qab g).toNat=1∨(Qab g).toNat=2:=by omega
 rcases this with e|e|e<;>rw[e]at h3<;>simp at h3<;>omega
theorem Qaq5{g:List Tm}(h:GI g)(n:Nat):SZ (1+n*9) (1+n*8) (n*3) (Qbn (Qa4 g) n):=by
 have hp:=h.p;have e:Qa4 g=Qah g (Qab g).toNat (Qai g (Qab g).toNat):=by unfold Qa4 exi;rw[if_neg (by omega),if_neg (by omega)]
 rw[e];exact(h.s.coefN _ _).ppow n
theorem Qapm{g q:List Tm}{j n:Nat}(h:GI g)(hq:PI j q)(hn:n<=eJ j+1)(hl:Qae (Qac q (Qbn (Qa4 g) n))=false):PI (j+1) (Qac q (Qbn (Qa4 g) n)):=by
 have hp:=h.p;have hn':Nrm (Qa4 g):=(Qo8 h (n:=0) (by omega)).2.1;refine⟨(hq.s.pmul (Qaq5 h n)).mono ?_ ?_ ?_,Qdh hq.n.s (Qjb hn' n).s,Qq1 hl⟩
 ·rw[aJ];omega
 ·rw[bJ];omega
 ·rw[eJ];omega
def RG(m:Nat)(i:Nat)(s:RSt):Prop:=∃j,i+j=m/\PI j s.2.2/\∀q∈s.2.1,PI j q
theorem RG.step{m i:Nat}{g:List Tm}{s s':RSt}(hm:m<=3)(h:GI g)(hs:RG m (i+1) s)(he:Qhd g i (Qkk s.2.2 g) s=some s'):RG m i s':=by
 obtain⟨j,hj,hr,hq⟩:=hs;obtain⟨pw,qs,rest⟩:=s;simp only at hr hq he;cases hd:Qkk rest g with
 |none=>rw[hd]at he;cases he
 | some d=>
  obtain⟨q,r,n⟩:=d;obtain⟨d1,d2,d3⟩:=Qgy h hr hd;rw[hd]at he;unfold Qhd at he;simp only at he;split at he
  ·cases he
  ·rename_i hb;simp only[Option.some.injEq]at he;subst he;refine⟨j+1,by omega,d2,fun x hx=>?_⟩;simp only at hx;rcases List.mem_or_eq_of_mem_set hx with hx|rfl
   ·obtain⟨k,hk,rfl⟩:=List.getElem_of_mem hx;rw[Qgx];have hkq:k<qs.length:=by rw[Qe0]at hk;exact hk
    have hmem:qs.getD k []∈qs:=by simp[hkq]
    split
    ·refine Qapm h (hq _ hmem) d3 ?_;rename_i hik;cases hpl:Qae (Qac (qs.getD k []) (Qbn (Qa4 g) n))with
     |false=>rfl
     |true=>exact absurd ⟨k,hkq,hik.1,hpl⟩ hb
    ·exact(hq _ hmem).up
   ·exact d1
theorem Qafm{m i:Nat}{g:List Tm}{s:RSt}(hm:m<=3)(h:GI g)(hs:RG m (i+1) s):Qq0 12 38 36 37 35 16 g i (Qkk s.2.2 g) s:=by
 obtain⟨j,hj,hr,hq⟩:=hs;have hv:=h.v;have hJ:=J_lt (j:=j) (by omega);have hJ1:=J_le (j:=j+1) (by omega);have hN:=GI.N (g:=g) hr (Qab g).toNat;refine⟨Qeq h.b (by have:=h.l;omega),?_,Qix h.b (by have:=h.l;omega),fun q r n hd=>?_,fun q r n hd k hk hik=>?_,fun q r n hd k hk hik=>?_⟩
 ·have hD:=Qje (f:=s.2.2) (g:=g) (v:=(Qab g).toNat) (d:=(Qai g (Qab g).toNat).toNat) (N:=(Qai s.2.2 (Qab g).toNat).toNat+1) (K:=2600) (E:=255) (M:=4) hr.n h.n (h.b.mono (by omega) (by omega)) (by omega) h.ne (h.d _).symm hN.2
   (Qqi (hr.pb (by omega)) (by omega) hr.l) (fun k hk=>DV.pb (h.states hr _ k (by omega)) hJ1.2.1 hJ1.2.2 hJ1.1) h.l (by omega) (by omega) (by omega) (by omega) (by omega) (by omega) (by omega)
  rw[hv.1,Qns]at hD;exact hD
 ·obtain⟨d1,d2,d3⟩:=Qgy h hr hd;obtain⟨w1,w2,w3,w4⟩:=Qo8 h (n:=n) (by omega);exact Qwq (L:=37249) (K:=1900) (E:=192) (by omega) (w1.mono (by omega) (by omega)) w4 (by omega) (by omega) (by omega) (by omega) (by omega)
 ·obtain⟨d1,d2,d3⟩:=Qgy h hr hd;obtain⟨w1,w2,w3,w4⟩:=Qo8 h (n:=n) (by omega);obtain⟨w5,w6⟩:=w4 n (Nat.le_refl _);have hqk:=hq (s.2.1.getD k []) (by simp[hk]);have hl:=hqk.l;have m1:(s.2.1.getD k []).length*(Qbn (Qa4 g) n).length<=4000*37249:=Nat.mul_le_mul hl w6;have m2:min (s.2.1.getD k []).length (Qbn (Qa4 g) n).length*(2600+2600)<=4000*(2600+2600):=Nat.mul_le_mul_right _ (by omega);exact Qez (K:=2600) (E:=255) (hqk.pb (by omega)) (w5.mono (by omega) (by omega)) (by omega) (by omega) (by omega) (by omega) (by omega) (by omega)
 ·obtain⟨d1,d2,d3⟩:=Qgy h hr hd;obtain⟨w1,w2,w3,w4⟩:=Qo8 h (n:=n) (by omega);obtain⟨w5,w6⟩:=w4 n (Nat.le_refl _);have hqk:=hq (s.2.1.getD k []) (by simp[hk]);have hl:=hqk.l;have m1:(s.2.1.getD k []).length*(Qbn (Qa4 g) n).length<=4000*37249:=Nat.mul_le_mul hl w6;obtain⟨p1,p2⟩:=Qg9 (hqk.pb (by omega)) w5;exact Qwp (fun t ht=>(p1 t ht).m) (by omega)
theorem Q58{m i:Nat}{g:List Tm}{s:RSt}(hm:m<=3)(h:GI g)(hs:RG m (i+1) s):Qq0 30 41 13 14 39 40 g i (Qkk s.2.2 g) s:=by
 obtain⟨j,hj,hr,hq⟩:=hs;have hv:=h.v;have hJ:=J_lt (j:=j) (by omega);have hJ1:=J_le (j:=j+1) (by omega);have hN:=GI.N (g:=g) hr (Qab g).toNat;refine⟨Ql0 h.b h.n (by have:=h.l;omega),?_,Qve h.b h.n (by have:=h.l;omega) (by omega) (by omega),fun q r n hd=>?_,fun q r n hd k hk hik=>?_,fun q r n hd k hk hik=>?_⟩
 ·have hD:=Qwn (f:=s.2.2) (g:=g) (v:=(Qab g).toNat) (d:=(Qai g (Qab g).toNat).toNat) (N:=(Qai s.2.2 (Qab g).toNat).toNat+1) (K:=2600) (E:=255) (M:=4) hr.n h.n (h.b.mono (by omega) (by omega)) (by omega) h.ne (h.d _).symm hN.2
   (Qqi (hr.pb (by omega)) (by omega) hr.l) (fun k hk=>DV.pb (h.states hr _ k (by omega)) hJ1.2.1 hJ1.2.2 hJ1.1) h.l (by omega) (by omega) (by omega) (by omega) (by omega) (by omega) (by omega) (by omega)
  rw[hv.1,Qns]at hD;exact hD
 ·obtain⟨d1,d2,d3⟩:=Qgy h hr hd;obtain⟨w1,w2,w3,w4⟩:=Qo8 h (n:=n) (by omega);exact Q90 (L:=37249) (K:=1900) (E:=192) (by omega) (w1.mono (by omega) (by omega)) w2 w4 (by omega) (by omega) (by omega) (by omega)
 ·obtain⟨d1,d2,d3⟩:=Qgy h hr hd;obtain⟨w1,w2,w3,w4⟩:=Qo8 h (n:=n) (by omega);obtain⟨w5,w6⟩:=w4 n (Nat.le_refl _);have hqk:=hq (s.2.1.getD k []) (by simp[hk]);have hl:=hqk.l;have m1:(Qbn (Qa4 g) n).length*(s.2.1.getD k []).length<=37249*4000:=Nat.mul_le_mul w6 hl;have m2:(Qbn (Qa4 g) n).length*(2600+2600)<=37249*(2600+2600):=Nat.mul_le_mul_right _ w6;have:=Qed (K:=2600) (E:=255) (hqk.pb (by omega)) (w5.mono (by omega) (by omega)) hqk.n.z (Qjb w2 n).z (by omega) (by omega) (by omega) (by omega) (by omega)
  rwa[Qja hqk.n (Qjb w2 n)]at this
 ·obtain⟨d1,d2,d3⟩:=Qgy h hr hd;obtain⟨w1,w2,w3,w4⟩:=Qo8 h (n:=n) (by omega);obtain⟨w5,w6⟩:=w4 n (Nat.le_refl _);have hqk:=hq (s.2.1.getD k []) (by simp[hk]);have hl:=hqk.l;have m1:(s.2.1.getD k []).length*(Qbn (Qa4 g) n).length<=4000*37249:=Nat.mul_le_mul hl w6;obtain⟨p1,p2⟩:=Qg9 (hqk.pb (by omega)) w5;exact Qhr (fun t ht=>(p1 t ht).m) (by omega)
theorem Qake{l:List (List Tm×List (List Tm))}{v K E:Nat}(hv:v<64)(hp:∀x∈l,PB K E x.1/\x.1.length<=2^30)(hK:K<=2^33)(hE:E<=2^38)(hl:l.length<=100):
  Qd Tryz.prog 60 [.sl 2 (l.map PV.el),.int .i64 v] (· = .tup [.int .i64 (Qqu l v).1,.int .i64 (Qqu l v).2]):=by
 refine Qf Qj Tryz.func60 rfl Qao5 (by simp[c60]) fun C hP=>?_;simp only[c60];refine Sz0 ?_;refine Qx (by repeat (first|exact Qu|exact Qm|exact Qn|exact Qk|exact Qo|apply Ql|apply Qt|apply Qw|apply Q2|apply Q3|apply Qi|apply Qy)) [(6,11),(14,60)] [9] (fun m J hp=>∃i,m=l.length-i/\i<=l.length/\J 6= .int .i64 (Ql1 l v i).1/\J 7= .int .i64 (Ql1 l v i).2/\J 14= .int .i64 (i:Nat)) l.length ?_ ?_
 ·refine⟨0,rfl,by omega,?_⟩;refine Sz0 ?_
  try (first|rfl|exact⟨rfl,rfl⟩|exact⟨rfl,rfl,rfl⟩)
 rintro _ J h ⟨i,rfl,hi,j6,j7,j14⟩;obtain⟨s1,s2,s3⟩:=Q3u l v i;have hsc:=Qx5 l v i;generalize hst:Ql1 l v i=st at *
 obtain⟨at_,n⟩:=st;simp only at s1 s2 s3 j6 j7;by_cases c1:i<l.length
 ·have d1:decide ((i:Int)<(l.length:Int))=true:=decide_eq_true (by omega);obtain⟨b1,b2⟩:=hp _ (List.getElem_mem c1);have hm:=Qeq b1 (by omega:_<=2^36);have hgd:l.getD i default=l[i]:=by simp[c1]
  unfold Qvh at hsc;rw[hgd]at hsc;generalize hx:l[i]=x at *
  refine Sz3 j14 d1 hx ?_;refine Qa hP hm rfl rfl rfl ?_;by_cases e1:Qab x.1=v
  ·have q1:decide (¬Qab x.1=(v:Int))=false:=decide_eq_false fun h=>h e1;have q1':(!decide (Qab x.1=(v:Int)))=false:=by simp[e1]
   rw[if_neg (by simpa using e1)]at hsc;by_cases e2:at_<0
   ·have q2:decide (at_<0)=true:=decide_eq_true e2;simp only[e2,if_true]at hsc;refine Sz8 j6 j7 j14 d1 hx q1 q1' q2 ?_;refine Qh (l.length-(i+1)) (by omega) ⟨i+1,rfl,by omega,?_⟩;rw[hsc];refine Sz2 j6 j7 ?_
    try (first|rfl|trivial|exact⟨rfl,rfl⟩|exact⟨rfl,rfl,rfl⟩)
   ·have q2:decide (at_<0)=false:=decide_eq_false e2;simp only[e2,if_false]at hsc;obtain⟨a,rfl⟩:∃a:Nat,at_=a:=⟨at_.toNat,by omega⟩
    have ha:a<l.length:=by omega
    obtain⟨b3,b4⟩:=hp _ (List.getElem_mem ha);have hga:l.getD ((a:Int)).toNat default=l[a]:=by simp[ha]
    rw[hga]at hsc;generalize hy:l[a]=y at *
    have hd1:=Qc2 (v:=(v:Int)) b1 (by omega:_<=2^36);have hd2:=Qc2 (v:=(v:Int)) b3 (by omega:_<=2^36);rw[Qeh]at hd1 hd2;have hc:=Q5k b1 b3 hK hE (by omega) (by omega);unfold betT at hsc;generalize Qai x.1 v=dx at *
    generalize Qai y.1 v=dy at *
    generalize Qem x.1 y.1=cv at *
    refine Sz9 j6 j7 j14 d1 hx hy q1 q1' q2 ?_;refine Qa hP hd1 rfl rfl rfl ?_;refine Sz0 ?_;refine Qa hP hd2 rfl rfl rfl ?_;by_cases e3:dx<dy
    ·have q3:decide (dx<dy)=true:=decide_eq_true e3;rw[q3]at hsc;simp only[Bool.true_or,if_true]at hsc;refine Sz7 j6 j7 j14 d1 hx hy q3 ?_;refine Qh (l.length-(i+1)) (by omega) ⟨i+1,rfl,by omega,?_⟩;rw[hsc];refine Sz2 j6 j7 ?_
     try (first|rfl|trivial|exact⟨rfl,rfl⟩|exact⟨rfl,rfl,rfl⟩)
    have q3:decide (dx<dy)=false:=decide_eq_false e3;rw[q3]at hsc;simp only[Bool.false_or]at hsc;by_cases e4:dx=dy
    ·have q4:decide (dx=dy)=true:=decide_eq_true e4;rw[q4]at hsc;simp only[Bool.true_and]at hsc;refine Sz8 j6 j7 j14 d1 hx hy q3 q4 ?_;refine Qa hP hc rfl rfl rfl ?_;by_cases e5:cv<0
     ·have q5:decide (cv<0)=true:=decide_eq_true e5;simp only[q5,if_true]at hsc;refine Sz9 j6 j7 j14 d1 hx hy q3 q4 q5 ?_;refine Qh (l.length-(i+1)) (by omega) ⟨i+1,rfl,by omega,?_⟩;rw[hsc];refine Sz2 j6 j7 ?_
      try (first|rfl|trivial|exact⟨rfl,rfl⟩|exact⟨rfl,rfl,rfl⟩)
     ·have q5:decide (cv<0)=false:=decide_eq_false e5;simp only[q5,Bool.false_eq_true,if_false]at hsc;refine Sz9 j6 j7 j14 d1 hx hy q3 q4 q5 ?_;refine Qh (l.length-(i+1)) (by omega) ⟨i+1,rfl,by omega,?_⟩;rw[hsc];refine Sz2 j6 j7 ?_
      try (first|rfl|trivial|exact⟨rfl,rfl⟩|exact⟨rfl,rfl,rfl⟩)
    ·have q4:decide (dx=dy)=false:=decide_eq_false e4;simp only[q4,Bool.false_and,Bool.false_eq_true,if_false]at hsc;refine Sz8 j6 j7 j14 d1 hx hy q3 q4 ?_;refine Qh (l.length-(i+1)) (by omega) ⟨i+1,rfl,by omega,?_⟩;rw[hsc];refine Sz2 j6 j7 ?_
     try (first|rfl|trivial|exact⟨rfl,rfl⟩|exact⟨rfl,rfl,rfl⟩)
  ·have q1:decide (¬Qab x.1=(v:Int))=true:=decide_eq_true e1;have q1':(!decide (Qab x.1=(v:Int)))=true:=by simp[e1]
   rw[if_pos (by simpa using e1)]at hsc;refine Sz7 j6 j7 j14 d1 hx q1 q1' ?_;refine Qh (l.length-(i+1)) (by omega) ⟨i+1,rfl,by omega,?_⟩;rw[hsc];refine Sz2 j6 j7 ?_
   try (first|rfl|trivial|exact⟨rfl,rfl⟩|exact⟨rfl,rfl,rfl⟩)
 ·obtain rfl:i=l.length:=by omega
  have d1:decide ((l.length:Int)<(l.length:Int))=false:=decide_eq_false (by omega);refine Sz4 j6 j7 j14 d1 ?_;exact Qe6 (by unfold Qqu;rw[hst]) rfl rfl (Qz _) (Qz _)
def Qdv(p:List Tm)(cs:List (List Tm)):List Tm×List (List Tm):=(Qca p (Qkj p),cs.map (fun c=>Qca c (Qkj p)))
def Q91(p:List Tm)(cs:List (List Tm)):Bool:=pbB 100 10 p&&(Q52 p&&(decide (0<p.length)&&(decide (p.length<=10)&&(decide (cs.length<=10)&&(cs.all (fun c=>pbB 100 10 c&&decide (c.length<=10))&&(decide (rs (Qkj p)+1<=100)&&(pbB 100 10 (Qdv p cs).1&&(decide (Qae (Qdv p cs).1=false)&&(decide (0<(Qdv p cs).1.length)&&(decide ((Qdv p cs).1.length<=10)&&(decide (0<=Qab (Qdv p cs).1)&&((Qdv p cs).2.all (fun c=>pbB 100 10 c&&(decide (c.length<=10)&&decide (Qae c=false)))))))))))))))
theorem Qwv{p:List Tm}{cs:List (List Tm)}(h:Q91 p cs=true):Qd Tryz.prog 103 [PV.poly p,PV.polys cs] (· = .tup [PV.el (Qdv p cs),.int .i64 0]):=by
 simp only[Q91,Bool.and_eq_true,decide_eq_true_eq,List.all_eq_true]at h;obtain⟨h1,h2,h3,h4,h5,h6,h7,h8,h9,h10,h11,h12,h13⟩:=h;have hlen:(Qdv p cs).2.length=cs.length:=by simp[Qdv]
 refine Q1t (p:=p) (q:=(Qdv p cs).1) (cs:=cs) (ds:=(Qdv p cs).2) (a:=Qkj p) hlen (by omega) ?_ (fun i hi=>?_) ?_ h10 ?_ ?_
 ·exact Qrn (K:=100) (E:=10) (Qbc h1) (Qj9 h2) (List.length_pos_iff.1 h3) (by omega) (by omega) (by omega)
 ·have hc:=h6 _ (List.getElem_mem hi);have e:(Qdv p cs).2.getD i []=Qca cs[i] (Qkj p):=by simp[Qdv,hi]
  rw[e];exact Qlt (K:=100) (E:=10) (Qbc hc.1) h7 (by omega) (by omega) (by omega)
 ·have:=Qwp (p:=(Qdv p cs).1) (E:=10) (fun t ht=>((Qbc h8) t ht).m) (by omega)
  rwa[h9]at this
 ·have:=Qqt (p:=(Qdv p cs).2) (f:=38) (g:=Qae) (fun t ht=>by have hc:=h13 t ht;exact Qwp (E:=10) (fun s hs=>((Qbc hc.1) s hs).m) (by omega)) (by omega)
  rwa[show(Qdv p cs).2.any Qae=false from by rw[List.any_eq_false];intro t ht;have hc:=h13 t ht;simp[hc.2.2]]at this
 ·have:=Q56 (p:=(Qdv p cs).1) (K:=100) (E:=10) (Qbc h8) (by omega)
  rwa[show decide (Qab (Qdv p cs).1<0)=false from decide_eq_false (by omega)]at this
abbrev Qc0:List Tm:=[(1,[])]
abbrev vxP:List Tm:=[(1,[1])]
abbrev p0P:List Tm:=[(1,[0,1]),(-1,[1])]
abbrev p1P:List Tm:=[(1,[0,1]),(1,[1])]
abbrev gP:List Tm:=[(1,[1,1]),(-1,[])]
abbrev yyP:List Tm:=[(1,[0,2])]
abbrev E0:List Tm×List (List Tm):=(p0P,[Qc0,[]])
abbrev E1:List Tm×List (List Tm):=(p1P,[[],Qc0])
abbrev E2:List Tm×List (List Tm):=(vxP,[[(mkRat (-1) 2,[])],[(mkRat 1 2,[])]])
theorem Qaq6:Qdv p0P (Qrh 2 0)=E0:=by decide+kernel
theorem Qaq7:Qdv p1P (Qrh 2 1)=E1:=by decide+kernel
theorem Qaq8:Qdv [(2,[1])] (Qhg Qc0 Qc0 E1.2 E0.2)=E2:=by decide+kernel
theorem Qafn:Qd Tryz.prog 59 [PV.polys [p0P,p1P]] (· = .tup [PV.ems [E0,E1],.int .i64 0]):=by
 have h:=Qaj9 (ps:=[p0P,p1P]) (R:=fun i=>if i=0 then E0 else E1) (by simp) (fun i hi=>by
  have:i=0∨i=1:=by simp at hi;omega
  rcases this with rfl|rfl
  ·have:=Qwv (p:=p0P) (cs:=Qrh 2 0) (by decide+kernel)
   rwa[Qaq6]at this
  ·have:=Qwv (p:=p1P) (cs:=Qrh 2 1) (by decide+kernel)
   rwa[Qaq7]at this) (fun i hi=>by split<;>simp)
 exact h
theorem Qakf:dvO p0P 1 1 2 [] p1P 0=some (Qc0,[(2,[1])],1):=by decide+kernel
theorem Qapn:Qd Tryz.prog 35 [PV.poly p1P,PV.poly p0P,.int .i64 (1:Nat)] (· = .tup [PV.poly Qc0,PV.poly [(2,[1])],.int .i64 (1:Nat),.int .i64 0]):=by
 have h:=Qje (f:=p1P) (g:=p0P) (v:=1) (d:=1) (N:=2) (K:=100) (E:=10) (M:=10) (Qj9 (by decide+kernel)) (Qj9 (by decide+kernel)) (Qbc (by decide+kernel)) (by omega) (by simp) (by decide+kernel) (by decide+kernel) (by decide+kernel) (fun k hk=>by
  have:k=0∨k=1:=by omega
  rcases this with rfl|rfl<;>exact⟨Qbc (by decide+kernel),Qbc (by decide+kernel)⟩) (by simp) (by omega) (by omega) (by omega) (by omega) (by omega) (by omega) (by omega)
 rwa[Qns,Qakf]at h
theorem Qakg:Qa4 p0P=Qc0:=by decide+kernel
theorem Qapo:Qbn Qc0 1=Qc0:=by decide+kernel
theorem Q59:Qd Tryz.prog 104 [PV.el E1,PV.el E0,.int .i64 (1:Nat)] (· = .tup [PV.el E2,.int .i64 0]):=by
 refine Q9t (f:=E1) (g:=E0) (v:=1) (q:=Qc0) (r:=[(2,[1])]) (c:=Qc0) (n:=1) (x:=E2) (e:=0) (by simp) rfl Qapn ?_ ?_ ?_ ?_ ?_ ?_
 ·exact Qix (K:=100) (E:=10) (Qbc (by decide+kernel)) (by simp)
 ·have h:=Qwq (p:=Qc0) (n:=1) (K:=100) (E:=10) (L:=10) (by omega) (Qbc (by decide+kernel)) (fun i hi=>by
   have:i=0∨i=1:=by omega
   rcases this with rfl|rfl<;>exact⟨Qbc (by decide+kernel),by decide+kernel⟩) (by simp) (by omega) (by omega) (by omega) (by omega)
  rw[Qapo]at h;show Qd Tryz.prog _ [PV.poly (Qa4 p0P),_] _;rw[Qakg];exact h
 ·intro y hy;have:y=[]∨y=Qc0:=by simpa using hy
  rcases this with rfl|rfl<;>exact Qez (K:=100) (E:=10) (Qbc (by decide+kernel)) (Qbc (by decide+kernel)) (by omega) (by simp) (by simp) (by simp) (by simp) (by omega)
 ·intro y hy;have:y=Qc0∨y=[]:=by simpa using hy
  rcases this with rfl|rfl<;>exact Qez (K:=100) (E:=10) (Qbc (by decide+kernel)) (Qbc (by decide+kernel)) (by omega) (by simp) (by simp) (by simp) (by simp) (by omega)
 ·intro y hy z hz;have h1:y=[]∨y=Qc0:=by simpa using hy
  have h2:z=Qc0∨z=[]:=by simpa using hz
  rcases h1 with rfl|rfl<;>rcases h2 with rfl|rfl<;>exact Quo (K:=100) (E:=10) (Qbc (by decide+kernel)) (Qbc (by decide+kernel)) (by omega) (by omega) (by omega) (Nat.le_trans (by decide+kernel:_<=10) (by omega)) (Nat.le_trans (by decide+kernel:_<=10) (by omega))
 ·have h:=Qwv (p:=[(2,[1])]) (cs:=Qhg Qc0 Qc0 E1.2 E0.2) (by decide+kernel)
  rwa[Qaq8]at h
theorem Q92:∀x∈[E0,E1,E2],PB 100 10 x.1/\x.1.length<=2^30:=by
 intro x hx;have:x=E0∨x=E1∨x=E2:=by simpa using hx
 rcases this with rfl|rfl|rfl<;>exact⟨Qbc (by decide+kernel),by simp⟩
theorem Qafo:Qd Tryz.prog 61 [PV.ems [E0,E1],.int .i64 (0:Nat),.int .i64 (1:Nat)] (· = .tup [PV.ems [E0,E2],.int .i64 0]):=by
 have h:=Qaj8 (l:=[E0,E1]) (at_:=0) (v:=1) (K:=100) (E:=10) (R:=fun _=>E2) (by simp) (by simp) (fun x hx=>Q92 x (by simp at hx ⊢;rcases hx with h|h<;>simp[h])) (fun i hi h0 hm=>by
  have:i=1:=by simp at hi;omega
  subst this;exact Q59) (fun _ _ _=>by simp)
 have e:Ql2 [E0,E1] 0 1 (fun _=>E2) 2=[E0,E2]:=by decide+kernel
 have h2:([E0,E1]:List (List Tm×List (List Tm))).length=2:=rfl;rw[h2,e]at h;exact h
theorem Qo9{l:List (List Tm×List (List Tm))}{v:Nat}{a:Int}{n:Nat}(hl:∀x∈l,x∈[E0,E1,E2])(hl2:l.length<=100)(hv:v<64)(h:Qqu l v=(a,n)):Qd Tryz.prog 60 [PV.ems l,.int .i64 v] (· = .tup [.int .i64 a,.int .i64 n]):=by
 have:=Qake (l:=l) (v:=v) (K:=100) (E:=10) hv (fun x hx=>Q92 x (hl x hx)) (by omega) (by omega) hl2
 rwa[h]at this
theorem Qapp:∀v,v<64->2<=v->Qqu [E0,E1] v=(-1,0):=by decide+kernel
def alK(v:Nat):Option (List Tm×List (List Tm)):=if v=0 then some E2 else if v=1 then some E0 else none
theorem Qakh:Qd Tryz.prog 27 [PV.polys [p0P,p1P]] (· = .tup [PV.ems [E2,E0],.int .i64 0]):=by
 have h:=Qalo (list:=[p0P,p1P]) (Ls:=fun v=>if 2<=v then [E0,E1]else [E0,E2]) (K:=alK) Qafn (fun v hv=>?_) (fun v e h=>?_)
 ·have e:(List.range 64).filterMap alK=[E2,E0]:=by decide+kernel
  rw[e]at h;exact h
 ·by_cases h2:2<=v
  ·refine⟨0,?_⟩;have e1:alK v=none:=by unfold alK;rw[if_neg (by omega),if_neg (by omega)]
   rw[e1];simp only[h2,if_true,show 2<=v+1 by omega];exact Qir.none _ (-1) (Qo9 (by simp) (by simp) hv (Qapp v hv h2))
  ·have:v=0∨v=1:=by omega
   rcases this with rfl|rfl
   ·refine⟨0,?_⟩;exact Qir.one [E0,E2] 1 (by simp) (Qo9 (by simp) (by simp) hv (by decide+kernel))
   ·refine⟨1,?_⟩;exact Qir.more [E0,E1] [E0,E2] [E0,E2] (0:Nat) (2:Nat) (some E0) 0 (Qo9 (by simp) (by simp) hv (by decide+kernel)) (by simp) Qafo (Qir.one [E0,E2] 0 (by simp) (Qo9 (by simp) (by simp) hv (by decide+kernel)))
 ·unfold alK at h;split at h
  ·cases h;simp
  ·split at h
   ·cases h;simp
   ·cases h
abbrev vyP:List Tm:=[(1,[0,1])]
abbrev alD(f _:List Tm):Option (List Tm×List Tm×Nat):=dvO gP 1 1 3 [] f 0
theorem Qafp:dvO gP 1 1 3 [] yyP 0=some ([(1,[1,1]),(1,[])],Qc0,2):=by decide+kernel
instance decRSt : DecidableEq RSt := instDecidableEqProd
theorem Qafq:Qd2 [gP] alD 1 ([0],[[]],yyP)=some ([2],[[(1,[1,1]),(1,[])]],Qc0):=by decide+kernel
theorem Q6a:PVB 100 10 gP:=⟨Qbc (by decide+kernel),(Qj9 (by decide+kernel)).pvd (Qbc (K:=100) (E:=10) (by decide+kernel)) (by omega),by simp⟩
theorem Qaq9:PVB 100 10 yyP:=⟨Qbc (by decide+kernel),(Qj9 (by decide+kernel)).pvd (Qbc (K:=100) (E:=10) (by decide+kernel)) (by omega),by simp⟩
theorem Qaki:Qq0 12 38 36 37 35 16 gP 0 (alD yyP gP) ([0],[[]],yyP):=by
 have hm:Qab gP=1:=by decide+kernel
 have hi:Qa4 gP=vxP:=by decide+kernel
 have hd:alD yyP gP=some ([(1,[1,1]),(1,[])],Qc0,2):=Qafp;refine⟨?_,?_,?_,fun q r n h=>?_,fun q r n h k hk hk2=>?_,fun q r n h k hk hk2=>?_⟩
 ·exact Qeq (K:=100) (E:=10) Q6a.b (by simp)
 ·rw[hm];have h:=Qje (f:=yyP) (g:=gP) (v:=1) (d:=1) (N:=3) (K:=100) (E:=10) (M:=10) (Qj9 (by decide+kernel)) (Qj9 (by decide+kernel)) (Qbc (by decide+kernel)) (by omega) (by simp) (by decide+kernel) (by decide+kernel) (by decide+kernel) (fun k hk=>by
   have:k=0∨k=1∨k=2:=by omega
   rcases this with rfl|rfl|rfl<;>exact⟨Qbc (by decide+kernel),Qbc (by decide+kernel)⟩) (by simp) (by omega) (by omega) (by omega) (by omega) (by omega) (by omega) (by omega)
  rwa[Qns]at h
 ·exact Qix (K:=100) (E:=10) Q6a.b (by simp)
 ·rw[hd]at h;obtain⟨rfl,rfl,rfl⟩:[(1,[1,1]),(1,[])]=q/\Qc0=r/\2=n:=by simpa using h
  rw[hi];exact Qwq (p:=vxP) (n:=2) (K:=100) (E:=10) (L:=10) (by omega) (Qbc (by decide+kernel)) (fun i hi=>by
   have:i=0∨i=1∨i=2:=by omega
   rcases this with rfl|rfl|rfl<;>exact⟨Qbc (by decide+kernel),by decide+kernel⟩) (by simp) (by omega) (by omega) (by omega) (by omega)
 ·simp at hk;omega
 ·simp at hk;omega
theorem Q93:Qd Tryz.prog 8 [PV.poly yyP,PV.polys [gP]] (· = .tup [PV.redn ([2],[[(1,[1,1]),(1,[])]],Qc0),.int .i64 0]):=by
 have hc:chV (-1) [gP]=true:=by decide+kernel
 have hR:=Qs8 (gs:=[gP]) (by simp) (fun p hp=>by rw[List.mem_singleton.1 hp];exact Q6a) (by omega) (by omega);rw[hc]at hR;have h:=Q1b (p:=yyP) (gs:=[gP]) (D:=alD) (G:=fun i s=>i=0∨s=([0],[[]],yyP)) (by simp) (Qs9 Qaq9 (by omega)) hR (.inr rfl) (fun i hi s hs=>by
  have:i=0:=by simp at hi;omega
  subst this;have:s=([0],[[]],yyP):=hs.resolve_left (by omega);subst this;exact⟨Qaki,fun s' _=>.inl rfl⟩)
 have e:Qd2 [gP] alD [gP].length (List.replicate [gP].length 0,List.replicate [gP].length [],yyP)=some ([2],[[(1,[1,1]),(1,[])]],Qc0):=Qafq;rw[e]at h;exact h
theorem al_x:Qsx 0=vxP:=by decide+kernel
theorem al_y:Qsx 1=vyP:=by decide+kernel
theorem Qapq:Qfx vyP vxP=p0P:=by decide+kernel
theorem Qapr:Q5 vyP vxP=p1P:=by decide+kernel
theorem Qara:Qgk vyP vyP=yyP:=by decide+kernel
theorem Qarb:Qgk vxP vyP=[(1,[1,1])]:=by decide+kernel
theorem Qaps:Qby ((1:Int):Rat)=Qc0:=by decide+kernel
theorem al_g:Qfx [(1,[1,1])] Qc0=gP:=by decide+kernel
theorem Qrm{p:List Tm}(h:Q52 p=true):NZ p:=(Qj9 h).z
theorem Qakj:Qd Tryz.prog 7 [] (· = .bool true):=by
 have hx:Qd Tryz.prog 26 [.int .i64 (0:Nat)] (· =PV.poly vxP):=by have:=Qsg (v:=0) (by omega);rwa[show Qsx ((0:Nat):Int)=vxP from al_x]at this
 have hy:Qd Tryz.prog 26 [.int .i64 (1:Nat)] (· =PV.poly vyP):=by have:=Qsg (v:=1) (by omega);rwa[show Qsx ((1:Nat):Int)=vyP from al_y]at this
 have h1:=Qm0 (p:=vyP) (q:=vxP) (K:=100) (E:=10) (Qbc (by decide+kernel)) (Qbc (by decide+kernel)) (Qrm (by decide+kernel)) (by omega) (by omega) (by omega) (by simp) (by simp);rw[Qapq]at h1;have h2:=Qjt (p:=vyP) (q:=vxP) (K:=100) (E:=10) (Qbc (by decide+kernel)) (Qbc (by decide+kernel)) (by omega) (by omega) (by simp) (by simp);rw[Qapr]at h2;have h3:=Qed (p:=vyP) (q:=vyP) (K:=100) (E:=10) (Qbc (by decide+kernel)) (Qbc (by decide+kernel)) (Qrm (by decide+kernel)) (Qrm (by decide+kernel)) (by omega) (by simp) (by simp) (by simp) (by simp);rw[Qara]at h3;have h4:=Qed (p:=vxP) (q:=vyP) (K:=100) (E:=10) (Qbc (by decide+kernel)) (Qbc (by decide+kernel)) (Qrm (by decide+kernel)) (Qrm (by decide+kernel)) (by omega) (by simp) (by simp) (by simp) (by simp);rw[Qarb]at h4;have h5:=Qu4 (a:=((1:Int):Rat)) (k:=1) (by have:((1:Int):Rat)=1:=rfl;rw[this];exact Qmt) (by omega);rw[Qaps]at h5;have hof:=Qh6 (x:=1) (by omega) (by omega);have h6:=Qm0 (p:=[(1,[1,1])]) (q:=Qc0) (K:=100) (E:=10) (Qbc (by decide+kernel)) (Qbc (by decide+kernel)) (Qrm (by decide+kernel)) (by omega) (by omega) (by omega) (by simp) (by simp);rw[al_g]at h6;have h7:=Qhq (p:=vxP) (q:=vxP) (K:=100) (E:=10) (Qbc (by decide+kernel)) (Qbc (by decide+kernel)) (by omega) (by omega) (by simp) (by simp);rw[decide_eq_true (p:=vxP=vxP) rfl]at h7;have h8:=Qhq (p:=Qc0) (q:=Qc0) (K:=100) (E:=10) (Qbc (by decide+kernel)) (Qbc (by decide+kernel)) (by omega) (by omega) (by simp) (by simp);rw[decide_eq_true (p:=Qc0=Qc0) rfl]at h8;have hM:=Qakh;obtain⟨c2,hc2⟩:∃c2,E2=(vxP,c2):=⟨_,rfl⟩
 obtain⟨c0,hc0⟩:∃c0,E0=(p0P,c0):=⟨_,rfl⟩
 rw[hc2,hc0]at hM;have hR:=Q93;generalize([[(1,[1,1]),(1,[])]]:List (List Tm))=qq at hR;generalize hmm:([(1,[1,1])]:List Tm)=mm at *
 clear hc2 hc0 hmm;have n1:vxP.length=1:=rfl;generalize vxP=vx at *
 generalize vyP=vy at *
 generalize p0P=p0 at *
 generalize p1P=p1 at *
 generalize yyP=yy at *
 generalize gP=gg at *
 generalize Qc0=on at *
 generalize((1:Int):Rat)=r1 at *
 refine Qf Qj Tryz.func7 rfl Qaq3 (by simp[c7]) fun C hP=>?_;simp only[c7];refine Sz0 ?_;refine Qa hP hx rfl rfl rfl ?_;refine Sz0 ?_;refine Qa hP hy rfl rfl rfl ?_;refine Sz0 ?_;refine Qa hP h1 rfl rfl rfl ?_;refine Sz0 ?_;refine Qa hP h2 rfl rfl rfl ?_;refine Sz0 ?_;refine Qb7 hP hM Qwc rfl ?_;refine Vz0 ?_;refine Qa hP h3 rfl rfl rfl ?_;refine Vz0 ?_;refine Qa hP h4 rfl rfl rfl ?_;refine Vz0 ?_;refine Qa hP hof rfl rfl rfl ?_;refine Vz0 ?_;refine Qa hP h5 rfl rfl rfl ?_;refine Vz0 ?_;refine Qa hP h6 rfl rfl rfl ?_;refine Vz0 ?_;refine Qb7 hP hR Qwc rfl ?_;refine Vz0 ?_;refine Qa hP h7 rfl rfl rfl ?_;refine Vz0 ?_;refine Qa hP hof rfl rfl rfl ?_;refine Vz0 ?_;refine Qa hP h5 rfl rfl rfl ?_;refine Vz0 ?_;refine Qa hP h8 rfl rfl rfl ?_;refine Vz0 ?_;exact Qc rfl rfl
abbrev tmL(ls:List (List RTm)):List (List Tm):=ls.map (List.map RTm.tm)
def Qgg(t:RTm):Bool:=decide (t.a.length<=1)&&decide (t.d.length<=1)
def Qpa(ls:List (List RTm))(most:Nat)(deg:Int):Bool:=decide (ls.length<=most)&&ls.all fun l=>Qff 4 3 3 l&&(decide (Qhe (l.map RTm.tm)<=deg)&&l.all Qgg)
theorem Qaf0{ls:List (List RTm)}{most:Nat}{deg:Int}(hl:ls.length<=1048576)(hp:∀l∈ls,l.length<=1048576/\∀t∈l,RB 1048576 t)(hm:most<=100):
  Qd Tryz.prog 6 [.sl 1 (ls.map PV.rpoly),.int .i64 most,.int .i64 deg] (· = .bool (Qpa ls most deg)):=by
 refine Qf Qj Tryz.func6 rfl Qaq2 (by simp[c6]) fun C hP=>?_;simp only[c6];refine Sz0 ?_;refine Qb (fun h6=>?_) (fun h6=>?_)
 ·refine Sz0 ?_;exact Qc (by rw[Qpa,decide_eq_false (by omega),Bool.false_and]) rfl
 have hF:Qpa ls most deg=ls.all fun l=>Qff 4 3 3 l&&(decide (Qhe (l.map RTm.tm)<=deg)&&l.all Qgg):=by rw[Qpa,decide_eq_true (by omega),Bool.true_and]
 rw[hF];clear hF;refine Sz0 ?_;refine Qx (by repeat (first|exact Qu|exact Qm|exact Qn|exact Qk|exact Qo|apply Ql|apply Qt|apply Qw|apply Q2|apply Q3|apply Qi|apply Qy)) [(6,8),(13,67)] [] (fun m J hp=>∃i,m=ls.length-i/\i<=ls.length/\(∀j (h:j<ls.length),j<i->(Qff 4 3 3 ls[j]&&(decide (Qhe (ls[j].map RTm.tm)<=deg)&&ls[j].all Qgg))=true)/\J 7= .int .i64 (i:Nat)) ls.length ?_ ?_
 ·refine⟨0,rfl,by omega,by omega,?_⟩;refine Sz0 ?_
  try (first|rfl|exact⟨rfl,rfl⟩)
 rintro _ J h ⟨i,rfl,hi,hall,j7⟩;by_cases c1:i<ls.length
 ·have d1:decide ((i:Int)<(ls.length:Int))=true:=decide_eq_true (by omega);obtain⟨b1,b2⟩:=hp _ (List.getElem_mem c1);have hmem:=List.getElem_mem c1;have hsm:=Qyo (n:=4) (v:=3) (e:=3) b2 (by omega) (by omega) (by omega:_<2^40);have hadd:(Qff 4 3 3 ls[i]&&(decide (Qhe (ls[i].map RTm.tm)<=deg)&&ls[i].all Qgg))=true->∀j (h:j<ls.length),j<i+1->(Qff 4 3 3 ls[j]&&(decide (Qhe (ls[j].map RTm.tm)<=deg)&&ls[j].all Qgg))=true:=fun h j hj hji=>by
   by_cases e:j=i
   ·subst e;exact h
   ·exact hall j hj (by omega)
  have hbad:(Qff 4 3 3 ls[i]&&(decide (Qhe (ls[i].map RTm.tm)<=deg)&&ls[i].all Qgg))=false->(ls.all fun l=>Qff 4 3 3 l&&(decide (Qhe (l.map RTm.tm)<=deg)&&l.all Qgg))=false:=fun h=>by rw[List.all_eq_false];exact⟨_,hmem,by simp[h]⟩
  generalize hx:ls[i]=x at *
  cases hs:Qff 4 3 3 x
  ·rw[hs]at hsm hbad;refine Sz3 j7 d1 hx ?_;refine Qa hP hsm rfl rfl rfl ?_;refine Sz3 j7 d1 hx ?_;exact Qc (by rw[hbad (by simp)]) rfl
  ·have sp:=Qu8 (e:=3) b2 hs;have hdg:=Qwo sp.b (by omega) (by have:=sp.ln;omega);rw[<-sp.eq]at hdg;rw[hs]at hsm;generalize hdx:Qhe (x.map RTm.tm)=dx at *
   rw[hs,Bool.true_and]at hadd hbad;by_cases c2:dx<=deg
   ·have d2:decide (deg<dx)=false:=decide_eq_false (by omega);rw[decide_eq_true c2,Bool.true_and]at hadd hbad;refine Sz3 j7 d1 hx ?_;refine Qa hP hsm rfl rfl rfl ?_;refine Sz3 j7 d1 hx ?_;refine Qa hP hdg rfl rfl rfl ?_;refine Sz4 j7 d1 d2 hx ?_;refine Qx (by repeat (first|exact Qu|exact Qm|exact Qn|exact Qk|exact Qo|apply Ql|apply Qt|apply Qw|apply Q2|apply Q3|apply Qi|apply Qy)) [(6,6),(8,8),(34,67)] [] (fun m J hp=>∃k,m=x.length-k/\k<=x.length/\(∀j (h:j<x.length),j<k->Qgg x[j]=true)/\J 8= .int .i64 (k:Nat)) x.length ?_ ?_
    ·refine⟨0,rfl,by omega,by omega,?_⟩;refine Sz0 ?_
     try (first|rfl|exact⟨rfl,rfl⟩)
    rintro _ J2 h2 ⟨k,rfl,hk,hone,j8⟩;by_cases c3:k<x.length
    ·have d3:decide ((k:Int)<(x.length:Int))=true:=decide_eq_true (by omega);have hmem2:=List.getElem_mem c3;have hbad2:Qgg x[k]=false->x.all Qgg=false:=fun h=>by rw[List.all_eq_false];exact⟨_,hmem2,by simp[h]⟩
     have hadd2:Qgg x[k]=true->∀j (h:j<x.length),j<k+1->Qgg x[j]=true:=fun h j hj hji=>by
      by_cases e:j=k
      ·subst e;exact h
      ·exact hone j hj (by omega)
     generalize hy:x[k]=y at *
     by_cases c4:y.a.length<=1
     ·have q4:decide (1<(y.a.length:Int))=false:=decide_eq_false (by omega);by_cases c5:y.d.length<=1
      ·have q5:decide (1<(y.d.length:Int))=false:=decide_eq_false (by omega);refine Sz7 j7 j8 d3 hx hy q4 q5 ?_;refine Qh (x.length-(k+1)) (by omega) ⟨k+1,rfl,by omega,hadd2 (by rw[Qgg,decide_eq_true c4,decide_eq_true c5];rfl),?_⟩;refine Sz0 ?_
       try trivial
      ·have q5:decide (1<(y.d.length:Int))=true:=decide_eq_true (by omega);refine Sz7 j7 j8 d3 hx hy q4 q5 ?_;exact Qc (by rw[hbad (hbad2 (by rw[Qgg,decide_eq_false c5,Bool.and_false]))]) rfl
     ·have q4:decide (1<(y.a.length:Int))=true:=decide_eq_true (by omega);refine Sz6 j7 j8 d3 hx hy q4 ?_;exact Qc (by rw[hbad (hbad2 (by rw[Qgg,decide_eq_false c4,Bool.false_and]))]) rfl
    ·obtain rfl:k=x.length:=by omega
     have d3:decide ((x.length:Int)<(x.length:Int))=false:=decide_eq_false (by omega);have hx1:x.all Qgg=true:=by rw[List.all_eq_true];intro t ht;obtain⟨j,hj,rfl⟩:=List.getElem_of_mem ht;exact hone j hj hj
     refine Sz4 j7 j8 d3 hx ?_;simp (disch:=decide) only[Qb0,Qfj];refine Qh (ls.length-(i+1)) (by omega) ⟨i+1,rfl,by omega,hadd hx1,?_⟩;refine Sz0 ?_
     try trivial
   ·have d2:decide (deg<dx)=true:=decide_eq_true (by omega);rw[decide_eq_false c2,Bool.false_and]at hbad;refine Sz3 j7 d1 hx ?_;refine Qa hP hsm rfl rfl rfl ?_;refine Sz3 j7 d1 hx ?_;refine Qa hP hdg rfl rfl rfl ?_;refine Sz4 j7 d1 d2 hx ?_;exact Qc (by rw[hbad rfl]) rfl
 ·obtain rfl:i=ls.length:=by omega
  have d1:decide ((ls.length:Int)<(ls.length:Int))=false:=decide_eq_false (by omega);refine Sz2 j7 d1 ?_;refine Qc ?_ rfl;congr 1;symm;rw[List.all_eq_true];intro t ht;obtain⟨j,hj,rfl⟩:=List.getElem_of_mem ht;exact hall j hj hj
theorem Qtc{s:RSt}{K E:Nat}(h1:s.1.length<=100)(h2:∀q∈s.2.1,PB K E q/\q.length<=2^36)(h3:s.2.1.length<=100)(h4:PB K E s.2.2/\s.2.2.length<=2^36)(hK:K<=2^33)(hE:E<=2^38):
  Qd Tryz.prog 10 [PV.redn s,PV.redn s] (· = .bool true):=by
 obtain⟨pw,qs,r⟩:=s;simp only at h1 h2 h3 h4;have hS:=Qvf h2 hK hE (by omega);have hEq:=Qhq h4.1 h4.1 hK hE h4.2 h4.2;rw[decide_eq_true (p:=r=r) rfl]at hEq;refine Qf Qj Tryz.func10 rfl Qao9 (by simp[c10]) fun C hP=>?_;simp only[c10];refine Sz0 ?_;refine Qx (by repeat (first|exact Qu|exact Qm|exact Qn|exact Qk|exact Qo|apply Ql|apply Qt|apply Qw|apply Q2|apply Q3|apply Qi|apply Qy)) [(4,5),(13,30)] [] (fun m J hp=>∃i,m=pw.length-i/\i<=pw.length/\J 5= .int .i64 (i:Nat)/\hp 2=some ⟨3,29,[PV.redn (pw,qs,r)],false⟩/\hp 3=some ⟨3,29,[PV.redn (pw,qs,r)],false⟩) pw.length ?_ ?_
 ·refine⟨0,rfl,by omega,?_⟩;refine Sz0 ?_
  try (first|rfl|exact⟨rfl,rfl⟩|exact⟨rfl,rfl,rfl⟩)
 rintro _ J h ⟨i,rfl,hi,j5,b2,b3⟩;by_cases c1:i<pw.length
 ·have d1:decide ((i:Int)<(pw.length:Int))=true:=decide_eq_true (by omega);generalize hx:pw[i]=x at *
  refine Sz5 j5 d1 b2 b3 hx ?_;refine Qh (pw.length-(i+1)) (by omega) ⟨i+1,rfl,by omega,?_⟩;refine Sz2 b2 b3 ?_
  try (first|rfl|trivial|exact⟨rfl,rfl⟩)
 ·obtain rfl:i=pw.length:=by omega
  have d1:decide ((pw.length:Int)<(pw.length:Int))=false:=decide_eq_false (by omega);refine Sz4 j5 d1 b2 b3 ?_;refine Qa hP hS rfl rfl rfl ?_;refine Sz2 b2 b3 ?_;refine Qa hP hEq rfl rfl rfl ?_;refine Sz0 ?_;exact Qc rfl rfl
structure Few(deg:Int)(p:List Tm):Prop where
 b:PB 2 3 p
 v:PVd p
 l:p.length<=4
 m:ML 3 p
 d:Qhe p<=deg
theorem Qww{l:List RTm}{deg:Int}{k:Nat}(hb:∀t∈l,RB k t)(h:(Qff 4 3 3 l&&(decide (Qhe (l.map RTm.tm)<=deg)&&l.all Qgg))=true):PV.rpoly l=PV.poly (l.map RTm.tm)/\Few deg (l.map RTm.tm):=by simp only[Bool.and_eq_true,decide_eq_true_eq,List.all_eq_true]at h;obtain⟨h1,h2,h3⟩:=h;have sp:=Qu8 (e:=3) hb h1;refine⟨sp.eq,fun t ht=>?_,sp.va,sp.ln,sp.ml,h2⟩;have hbt:=sp.b t ht;obtain⟨x,hx,rfl⟩:=List.mem_map.1 ht;have ho:=h3 x hx;simp only[Qgg,Bool.and_eq_true,decide_eq_true_eq]at ho;have hr:=(show Raw 1 x.n x.a x.d from⟨(hb x hx).r.1,(hb x hx).r.2.1,ho.1,ho.2,by omega⟩).rs;refine⟨?_,hbt.m,hbt.l⟩;show rs (rv x.n x.a x.d)+1<=2;omega
theorem Q31{ls:List (List RTm)}{most:Nat}{deg:Int}{k:Nat}(hb:∀l∈ls,∀t∈l,RB k t)(h:Qpa ls most deg=true):ls.length<=most/\PV.sl 1 (ls.map PV.rpoly)=PV.polys (tmL ls)/\∀p∈tmL ls,Few deg p:=by
 simp only[Qpa,Bool.and_eq_true,decide_eq_true_eq]at h;obtain⟨h1,h2⟩:=h;rw[List.all_eq_true]at h2;refine⟨h1,?_,fun p hp=>?_⟩
 ·show PV.sl 1 _=PV.sl 1 _;congr 1;rw[List.map_map];exact List.map_congr_left fun l hl=>(Qww (hb l hl) (by have:=h2 l hl;simpa using this)).1
 ·obtain⟨l,hl,rfl⟩:=List.mem_map.1 hp;exact(Qww (hb l hl) (by have:=h2 l hl;simpa using this)).2
theorem Few.pvb{deg:Int}{p:List Tm}(h:Few deg p):PVB 2 3 p:=⟨h.b,h.v,by have:=h.l;omega⟩
theorem Few.gi{deg:Int}{p:List Tm}(h:Few deg p)(h0:0<=Qab p):GI p:=⟨SZ.of h.b h.l,h.b,h.v.nrm,h.l,h.m,h0⟩
theorem Few.pi{deg:Int}{p:List Tm}(h:Few deg p):PI 0 p:=⟨SZ.of h.b h.l,h.v.nrm,by have:=h.l;omega⟩
theorem Qwx:∀ {gs:List (List Tm)} {last:Int},-1<=last->chV last gs=true->∀g∈gs,0<=Qab g
 | [],_,_,_,g,hg=>by cases hg
 |p::ps,last,hl,h,g,hg=>by
  simp only[chV,Bool.and_eq_true,decide_eq_true_eq]at h;rcases List.mem_cons.1 hg with rfl|hg
  ·omega
  ·exact Qwx (by omega) h.2 g hg
theorem RG.start{p:List Tm}{n:Nat}{deg:Int}(h:Few deg p):RG n n (List.replicate n 0,List.replicate n [],p):=by refine⟨0,by omega,h.pi,fun q hq=>?_⟩;obtain⟨_,rfl⟩:=List.mem_replicate.1 hq;exact⟨⟨⟨1,1,by omega,by omega,by rw[Qel];decide,by rw[Qel];decide,(fun t ht=>by cases ht),by decide+kernel⟩,0,PB.nil _ _⟩,Nrm.nil,by simp⟩
theorem RG.last{gs:List (List Tm)}{m:Nat}(hm:gs.length<=m)(hm3:m<=3)(hg:∀g∈gs,GI g):∀(i:Nat)(s s':RSt),i<=gs.length->RG m i s->Qd2 gs Qkk i s=some s'->RG m 0 s'/\s'.1.length=s.1.length/\s'.2.1.length=s.2.1.length
 |0,s,s',_,h,he=>by simp only[Qd2,Option.some.injEq]at he;subst he;exact⟨h,rfl,rfl⟩
 | i +1,s,s',hi,h,he=>by
  have hig:i<gs.length:=by omega
  have hgd:gs.getD i []=gs[i]:=by simp[hig]
  rw[Qd2,hgd]at he;cases hs:Qhd gs[i] i (Qkk s.2.2 gs[i]) s with
  |none=>rw[hs]at he;cases he
  | some s1=>
   rw[hs]at he;obtain⟨e1,e2,e3⟩:=RG.last hm hm3 hg i s1 s' (by omega) (h.step hm3 (hg _ (List.getElem_mem hig)) hs) he;refine⟨e1,?_⟩;unfold Qhd at hs;split at hs
   ·cases hs
   ·split at hs
    ·cases hs
    ·simp only[Option.some.injEq]at hs;subst hs;simp only[List.length_set,Qe0]at e2 e3;exact⟨e2,e3⟩
theorem Q2k{p:List Tm}{gs:List (List Tm)}(hp:Few 3 p)(hg:∀g∈gs,Few 2 g)(hl:gs.length<=3)(hc:chV (-1) gs=true):
  Qd Tryz.prog 8 [PV.poly p,PV.polys gs] (· =PV.redO (Qd2 gs Qkk gs.length (List.replicate gs.length 0,List.replicate gs.length [],p)))/\
  Qd Tryz.prog 9 [PV.poly p,PV.polys gs] (· =PV.redO (Qd2 gs Qkk gs.length (List.replicate gs.length 0,List.replicate gs.length [],p))):=by
 have hpos:=Qwx (by omega) hc;have hGI:∀g∈gs,GI g:=fun g h=>(hg g h).gi (hpos g h);have r1:=Qs8 (gs:=gs) (by omega) (fun g h=>(hg g h).pvb) (by omega) (by omega);have r2:=Qvm (gs:=gs) (by omega) (fun g h=>(hg g h).pvb) (by omega) (by omega);rw[hc]at r1 r2;exact⟨Q1b (G:=RG gs.length) (by omega) (Qs9 hp.pvb (by omega)) r1 (RG.start hp) fun i hi s hs=>⟨Qafm hl (hGI _ (List.getElem_mem hi)) hs,fun s' he=>hs.step hl (hGI _ (List.getElem_mem hi)) he⟩,
  Q57 (G:=RG gs.length) (by omega) (Qx6 hp.pvb (by omega)) r2 (RG.start hp) fun i hi s hs=>⟨Q58 hl (hGI _ (List.getElem_mem hi)) hs,fun s' he=>hs.step hl (hGI _ (List.getElem_mem hi)) he⟩⟩
theorem Q94{gs:List (List Tm)}{p:List Tm}(hp:Few 3 p)(hg:∀g∈gs,GI g)(hl:gs.length<=3):∃(s:RSt)(e:Int),PV.redO (Qd2 gs Qkk gs.length (List.replicate gs.length 0,List.replicate gs.length [],p))= .tup [PV.redn s,.int .i64 e]/\Qd Tryz.prog 10 [PV.redn s,PV.redn s] (· = .bool true):=by
 cases h:Qd2 gs Qkk gs.length (List.replicate gs.length 0,List.replicate gs.length [],p)with
 |none=>exact⟨([],[],[]),4,rfl,Qtc (K:=2) (E:=0) (by simp) (by simp) (by simp) ⟨PB.nil _ _,by simp⟩ (by omega) (by omega)⟩
 |some s=>obtain⟨⟨j,hj,hr,hq⟩,e1,e2⟩:=RG.last (Nat.le_refl _) hl hg _ _ _ (Nat.le_refl _) (RG.start hp) h;refine⟨s,0,rfl,Qtc (K:=2600) (E:=255) (by rw[e1];simp;omega) (fun q h=>⟨(hq q h).pb (by omega),by have:=(hq q h).l;omega⟩) (by rw[e2];simp;omega) ⟨hr.pb (by omega),by have:=hr.l;omega⟩ (by omega) (by omega)⟩
theorem Q1f{lp:List RTm}{ls:List (List RTm)}(hp0:lp.length<=1048576/\∀t∈lp,RB 1048576 t)(hl:ls.length<=1048576)(hp:∀l∈ls,l.length<=1048576/\∀t∈l,RB 1048576 t):
  Qd Tryz.prog 3 [PV.rpoly lp,.sl 1 (ls.map PV.rpoly)] (· = .bool true):=by
 have hal:=Qakj;have hf1:=Qaf0 (ls:=[lp]) (most:=1) (deg:=3) (by simp) (fun l h=>by rw[List.mem_singleton.1 h];exact hp0) (by omega);have hf2:=Qaf0 (ls:=ls) (most:=3) (deg:=2) hl hp (by omega);rw[List.map_cons,List.map_nil]at hf1;refine Qf Qj Tryz.func3 rfl Qaq4 (by simp[c3]) fun C hP=>?_;simp only[c3];refine Sz0 ?_;cases h1:Qpa [lp] 1 3
 ·rw[h1]at hf1;refine Qb7 hP hf1 Qwc rfl ?_;refine Vz0 ?_;refine Qa hP hal rfl rfl rfl ?_;refine Sz0 ?_;exact Qc rfl rfl
 rw[h1]at hf1;refine Qb7 hP hf1 Qwc rfl ?_;refine Vz0 ?_;cases h2:Qpa ls 3 2
 ·rw[h2]at hf2;refine Qa hP hf2 rfl rfl rfl ?_;refine Vz0 ?_;refine Qa hP hal rfl rfl rfl ?_;refine Sz0 ?_;exact Qc rfl rfl
 rw[h2]at hf2;obtain⟨_,g2,g3⟩:=Q31 (k:=1048576) (ls:=[lp]) (fun l h=>by rw[List.mem_singleton.1 h];exact hp0.2) h1;obtain⟨k1,k2,k3⟩:=Q31 (fun l h=>(hp l h).2) h2;have hF:Few 3 (lp.map RTm.tm):=g3 _ (by simp);have hpe:PV.rpoly lp=PV.poly (lp.map RTm.tm):=by simp only[Qpa,Bool.and_eq_true,decide_eq_true_eq,List.all_cons,List.all_nil,Bool.and_true]at h1;exact(Qww hp0.2 (by simpa using h1.2)).1
 have hgl:(tmL ls).length<=3:=by simpa using k1
 have key:∃(s:RSt)(e:Int),Qd Tryz.prog 8 [PV.rpoly lp,.sl 1 (ls.map PV.rpoly)] (· = .tup [PV.redn s,.int .i64 e])/\Qd Tryz.prog 9 [PV.rpoly lp,.sl 1 (ls.map PV.rpoly)] (· = .tup [PV.redn s,.int .i64 e])/\Qd Tryz.prog 10 [PV.redn s,PV.redn s] (· = .bool true):=by
  rw[hpe,k2];cases hc:chV (-1) (tmL ls)with
  |false=>have r1:=Qs8 (gs:=tmL ls) (by omega) (fun g h=>(k3 g h).pvb) (by omega) (by omega);have r2:=Qvm (gs:=tmL ls) (by omega) (fun g h=>(k3 g h).pvb) (by omega) (by omega);rw[hc]at r1 r2;exact⟨([],[],[]),15,Q1c (Qs9 hF.pvb (by omega)) r1,Qwt (Qx6 hF.pvb (by omega)) r2,Qtc (K:=2) (E:=0) (by simp) (by simp) (by simp) ⟨PB.nil _ _,by simp⟩ (by omega) (by omega)⟩
  |true=>obtain⟨r1,r2⟩:=Q2k hF k3 hgl hc;obtain⟨s,e,e1,e2⟩:=Q94 (gs:=tmL ls) (p:=lp.map RTm.tm) hF (fun g h=>(k3 g h).gi (Qwx (by omega) hc g h)) hgl;rw[e1]at r1 r2;exact⟨s,e,r1,r2,e2⟩
 obtain⟨s,e,r1,r2,r3⟩:=key;obtain⟨pw,qs,rest⟩:=s;refine Qa hP hf2 rfl rfl rfl ?_;refine Vz0 ?_;refine Qa hP r1 rfl rfl rfl ?_;refine Vz0 ?_;refine Qa hP r2 rfl rfl rfl ?_;refine Vz0 ?_;refine Qa hP r3 rfl rfl rfl ?_;have hee:(e==e)=true:=by simp
 refine Vz1 hee ?_;refine Qa hP hal rfl rfl rfl ?_;refine Sz0 ?_;exact Qc rfl rfl
open Go Go.FW Go.ChangeShapes Go.WideShapes Go.ChangeAt Go.RowKit
theorem Qkl(H:Type)(enc:TypeId×Value->H)(W:World)(base:Nat)(args:Array Value)(ds gs:List (DataW H))(before:List MemPlace)
  (Qdq:∀(j:Nat) t v,Tryz.f3.params[j]? =some t->args[j]? =some v->Value.okWide Tryz.prog W .any base t v)
  (hW:DataW.Whole enc Tryz.prog Tryz.f3.params.toList Rows.triangularReducesSpec.vars false W args.toList ds gs before) (hk:Rows.uptoSmall H (ds++gs)=true):
  Calls Tryz.prog 3 args W fun e W'=>∃v,e= .returned v/\Rows.triangularReducesSpec.post enc Tryz.prog Tryz.f3 false true false false W args v W':=by
 have hW':=hW;obtain⟨p,q,hA0,hV,rfl,hfz,hnd⟩:=hW;have hA:DataW.TrodAll enc Tryz.prog W 0 (fun _=>true) true Tryz.f3.params.toList args.toList ds p:=hA0;rw[Tryz.params3]at hA Qdq;obtain⟨v0,vs0,e0,ds0,p0,q0,hargs,rfl,rfl,h0,r0⟩:=trodAll_cons hA;obtain⟨v1,vs1,e1,ds1,p1,q1,rfl,rfl,rfl,h1,r1⟩:=trodAll_cons r0;obtain⟨rfl,rfl,rfl⟩:=trodAll_nil r1;obtain rfl:args= #[v0,v1]:=by cases args;simp_all
 obtain⟨rfl,rfl⟩:=trodVars_none hV;have hb:=Qaez hk;simp only[List.append_nil,Rows.uptoBulkAll]at hb;obtain⟨a0,g0,b0⟩:=Qae1 (Qdq 0 _ v0 rfl rfl) h0 (by omega);obtain⟨a1,g1,b1⟩:=Q9o (Qdq 1 _ v1 rfl rfl) h1 (by omega);exact Q9p hW' rfl (by kernel_rfl) (by kernel_rfl) rfl (Q1f ⟨b0.1,fun t ht=>(b0.2 t ht).1⟩ b1.1 fun l hl=>⟨(b1.2 l hl).1,fun t ht=>((b1.2 l hl).2 t ht).1⟩) rfl
  (Qae2 (vs:=[v0,v1]) (by
   intro i x hx v hv
   match i,hx,hv with
   |0,hx,hv=>simp at hx hv;subst hx hv;exact g0
   |1,hx,hv=>simp at hx hv;subst hx hv;exact g1
   |i+2,hx,hv=>simp at hx) rfl)
theorem Ql3(os:Os)(started:os.Started)(H:Type)(enc:TypeId×Value->H)(F:Stop.Interp):
  ReturnsInHanded {} Tryz.checked os 3 .any ((Rows.OpenSpec.upto Rows.triangularReducesSpec).pre6 enc Tryz.prog Tryz.f3 Rows.triangularReducesUptoRow.domain false) (((Rows.OpenSpec.upto Rows.triangularReducesSpec).at F).post enc Tryz.prog Tryz.f3 false true false false):=by
 refine returnsInHanded_of_cond (C:=Tryz.checked) (s:=Rows.OpenSpec.upto Rows.triangularReducesSpec) (k:=Rows.uptoSmall) rfl own started (by kernel_rfl) Tryz.func3
  (OpenSpec.witness (enc:=enc) (C:=Tryz.checked) (s:=Rows.OpenSpec.upto Rows.triangularReducesSpec) (k:=Rows.uptoSmall) rfl false ⟨#[],#[.slice none 0 0,.slice none 0 0],[]⟩ 8 (by kernel_rfl) (by kernel_rfl) (by kernel_rfl)
   (x:=([.nil,.nil],[],[])) (by kernel_rfl) rfl (by kernel_rfl)) ?_
 intro W base args ds gs before Qdq hW _ hk _;exact Qkl H enc W base args ds gs before Qdq hW hk
theorem triangularReduces_proved:Rows.TriangularReducesUptoSaid:=
 OpenClaim.holds_of_cond 3 Tryz.f3 rfl rfl rfl rfl rfl rfl rfl ⟨rfl,rfl,rfl,rfl,rfl⟩ rfl rfl rfl rfl rfl (by kernel_rfl) Tryz.func3 (by kernel_rfl)
  (of_decide_eq_true (by kernel_rfl)) (by unfold Func.isWrapper;first|(rw[if_pos (by decide+kernel)];kernel_rfl)|(rw[if_neg (by decide+kernel)];exact⟨rfl,rfl⟩))
  (fun os started H enc _ F=>Ql3 os started H enc F)
end Go.Proofs.YtdaldpkjhcfblaaGreat
