/- After division by a chain the product of the initials with their powers and the polynomial is the sum of the products of the quotients and the chain and the rest, which has smaller degrees than the chain, and the first examples hold. -/
import Derived.Test.YtdaldpkjhcfblaaGreatTriangularEquationPart16
set_option maxHeartbeats 1000000
set_option linter.unusedSimpArgs false
set_option linter.unusedVariables false
set_option linter.unnecessarySimpa false
set_option maxRecDepth 100000
namespace Go.Proofs.YtdaldpkjhcfblaaGreat
open Go Go.FW
theorem Qyw{p:List Tm}{n K E L:Nat}(hn:n<=4000)(hp:PB K E p)(np:Nrm p)(hb:∀i,i<=n->PB K E (Qax p i)/\(Qax p i).length<=L)(hlp:p.length<=L)(hL:L<=2^17)(hE:E<=2^37)(hK:L*(K+K)+(K+K)<=2^32):
  Qd Tryz.prog 13 [PV.poly p,.int .i64 n] (· =PV.poly (Qax p n)):=by
 have h1:=Qnc;refine Qf Qj Tryz.func13 rfl Qap6 (by simp[c13]) fun C hP=>?_;simp only[c13];refine Sz0 ?_;refine Qa hP (Qi7 (x:=1) (by omega) (by omega)) rfl rfl rfl ?_;refine Sz0 ?_;refine Qa hP (Qvq (a:=((1:Int):Rat)) (k:=1) (by have:((1:Int):Rat)=1:=rfl;rw[this];exact h1) (by omega)) rfl rfl rfl ?_;rw[show Qbe ((1:Int):Rat)=Qax p 0 from rfl];refine Sz0 ?_;refine Qy (by repeat (first|exact Qu|exact Qn|exact Qo|exact Qk|exact Qp|apply Qm|apply Qt|apply Qw|apply Q5|apply Q6|apply Qi|apply Qz)) [(5,6),(9,16)] [] (fun m J hp=>∃i,m=n-i/\i<=n/\J 5=PV.poly (Qax p i)/\J 6= .int .i64 (i:Nat)) n ?_ ?_
 ·refine⟨0,rfl,by omega,?_⟩;refine Sz0 ?_
  try (first|rfl|trivial|exact⟨rfl,rfl⟩)
 rintro _ J h ⟨i,rfl,hi,h5,h9⟩;refine Sz2 h5 h9 ?_;refine Qb (fun hg=>?_) (fun hg=>?_)
 ·have hi':i<n:=by omega
  obtain⟨b1,b2⟩:=hb i (by omega);have nn:=Qeh np i;have hm1:p.length*(Qax p i).length<=2^17*2^17:=Nat.mul_le_mul (by omega) (by omega);have hm2:p.length*(K+K)<=L*(K+K):=Nat.mul_le_mul_right _ hlp;have hmu:=Qep (p:=Qax p i) (q:=p) b1 hp nn.z np.z hE (by omega) (by omega) (by omega) (by omega);rw[Qjo nn np,show Qx (Qax p i) p=Qax p (i+1)from rfl]at hmu;refine Sz2 h5 h9 ?_;refine Qa hP hmu rfl rfl rfl ?_;refine Sz2 h5 h9 ?_;refine Qh (n-(i+1)) (by omega) ⟨i+1,rfl,by omega,?_⟩;refine Sz0 ?_
  try trivial
 ·obtain rfl:i=n:=by omega
  refine Sz1 h5 ?_;exact Qc rfl rfl
def eJ:Nat->Nat
 |0=>3
 |j+1=>eJ j+3*(eJ j+1)
def aJ:Nat->Nat
 |0=>9
 |j+1=>aJ j+9*(eJ j+1)+10
def bJ:Nat->Nat
 |0=>8
 |j+1=>bJ j+10*(eJ j+1)+10
theorem J_le{j:Nat}(h:j<=3):eJ j<=255/\aJ j<=800/\bJ j<=900:=by
 have:j=0∨j=1∨j=2∨j=3:=by omega
 rcases this with rfl|rfl|rfl|rfl<;>decide
theorem J_lt{j:Nat}(h:j<=2):eJ j<=63/\aJ j<=300/\bJ j<=300:=by
 have:j=0∨j=1∨j=2:=by omega
 rcases this with rfl|rfl|rfl<;>decide
structure PI(j:Nat)(p:List Tm):Prop where
 s:SZ (aJ j) (bJ j) (eJ j) p
 n:Nrm p
 l:p.length<=4000
theorem PI.up{j:Nat}{p:List Tm}(h:PI j p):PI (j+1) p:=⟨h.s.mono (by rw[aJ];omega) (by rw[bJ];omega) (by rw[eJ];omega),h.n,h.l⟩
theorem PI.pb{j:Nat}{p:List Tm}(h:PI j p)(hj:j<=3):PB 2600 255 p:=by obtain⟨h1,h2,h3⟩:=J_le hj;exact h.s.PB.mono (by omega) (by omega)
structure GI(g:List Tm):Prop where
 s:SZ 9 8 3 g
 b:PB 2 3 g
 n:Nrm g
 l:g.length<=4
 m:ML 3 g
 p:0<=Q3 g
def Qha(f g:List Tm):Option (List Tm×List Tm×Nat):=dvO g (Q3 g).toNat (Q8 g (Q3 g).toNat).toNat ((Q8 f (Q3 g).toNat).toNat+1) [] f 0
theorem Qml{g f:List Tm}{v d:Nat}:∀(fuel k:Nat) {q r:List Tm} {n:Nat},dvO g v d fuel (dvS g v d f k).1 (dvS g v d f k).2 k=some (q,r,n)->(0<k->Qaf (dvS g v d f k).1=false/\Qaf (dvS g v d f k).2=false)->
  q=(dvS g v d f n).1/\r=(dvS g v d f n).2/\n<=k+fuel/\(0<n->Qaf q=false/\Qaf r=false)
 |0,k,q,r,n,h,hk=>by simp only[dvO,Option.some.injEq,Prod.mk.injEq]at h;obtain⟨rfl,rfl,rfl⟩:=h;exact⟨rfl,rfl,by omega,hk⟩
 | fuel+1,k,q,r,n,h,hk=>by
  rw[dvO]at h;split at h
  ·simp only[Option.some.injEq,Prod.mk.injEq]at h;obtain⟨rfl,rfl,rfl⟩:=h;exact⟨rfl,rfl,by omega,hk⟩
  ·split at h
   ·cases h
   ·rename_i hl;simp only[not_or,Bool.not_eq_true]at hl;obtain⟨e1,e2,e3,e4⟩:=Qml fuel (k+1) h (fun _=>hl);exact⟨e1,e2,by omega,e4⟩
theorem Qagg{p:List Tm}{w:Nat}(h:ML w p):Q3 p<=(w:Int)-1∨Q3 p= -1:=by
 rcases(Qko p (-1)).2.2 with h1|⟨t,ht,h1⟩
 ·exact .inr h1
 ·left;have:=h t ht;show Q3 p<=_;rw[show Q3 p=(t.2.length:Int)-1 from h1];omega
theorem GI.ne{g:List Tm}(h:GI g):g≠[]:=fun e=>by have:=h.p;rw[e]at this;exact absurd this (by decide)
theorem GI.v{g:List Tm}(h:GI g):(((Q3 g).toNat:Nat):Int)=Q3 g/\(Q3 g).toNat<=2:=by have h1:=h.p;rcases Qagg h.m with h2|h2<;>omega
theorem GI.d{g:List Tm}(h:GI g)(v:Nat):(((Q8 g v).toNat:Nat):Int)=Q8 g v:=by have:=(Qe1 h.b h.ne v).1;omega
theorem GI.states{g f:List Tm}{j:Nat}(h:GI g)(hf:PI j f)(d:Nat)(k:Nat)(hk:k<=eJ j+1):DV (aJ (j+1)) (bJ (j+1)) (eJ (j+1)) (dvS g (Q3 g).toNat d f k).1 (dvS g (Q3 g).toNat d f k).2:=by
 have hs:=DV.steps (d:=d) hf.s hf.n h.s h.n (by have:=h.v;omega:(Q3 g).toNat<64) k;obtain⟨⟨D,N,h1,h2,h3,h4,h5⟩,⟨K1,x1⟩,K2,x2⟩:=hs;have e1:aJ j+k*9<=aJ (j+1):=by rw[aJ];omega
 have e2:bJ j+k*(8+2)<=bJ (j+1):=by rw[bJ];omega
 have e3:eJ j+k*3<=eJ (j+1):=by rw[eJ];omega
 exact⟨⟨D,N,h1,h2,by omega,by omega,h5⟩,⟨K1,x1.mono (Nat.le_refl _) e3⟩,K2,x2.mono (Nat.le_refl _) e3⟩
theorem GI.N{g f:List Tm}{j:Nat}(hf:PI j f)(v:Nat):(Q8 f v).toNat+1<=eJ j+1/\Q8 f v<(((Q8 f v).toNat+1:Nat):Int):=by
 obtain⟨K,hx⟩:=hf.s.x;by_cases h0:f=[]
 ·subst h0;simp[Q8]
 ·have:=Qe1 hx h0 v;omega
theorem DV.pb{a b E:Nat}{q r:List Tm}(h:DV a b E q r)(ha:a<=800)(hb:b<=900)(hE:E<=255):PB 2600 255 q/\PB 2600 255 r:=⟨h.q.PB.mono (by omega) hE,h.r.PB.mono (by omega) hE⟩
theorem Qrn{p:List Tm}(h:Qaf p=false):p.length<=4000:=by unfold Qaf at h;simp only[Bool.or_eq_false_iff,decide_eq_false_iff_not]at h;omega
theorem Qf4{f g q r:List Tm}{n j:Nat}(h:GI g)(hf:PI j f)(he:Qha f g=some (q,r,n)):PI (j+1) q/\PI (j+1) r/\n<=eJ j+1:=by
 unfold Qha at he;obtain⟨e1,e2,e3,e4⟩:=Qml (f:=f) _ 0 he (fun h=>absurd h (by omega));have hN:=GI.N (g:=g) hf (Q3 g).toNat;have hs:=h.states hf (Q8 g (Q3 g).toNat).toNat n (by omega);obtain⟨n1,n2⟩:=Qjq (v:=(Q3 g).toNat) (d:=(Q8 g (Q3 g).toNat).toNat) hf.n h.n n;subst e1 e2;refine⟨⟨hs.q,n1,?_⟩,⟨hs.r,n2,?_⟩,by omega⟩
 ·by_cases h0:0<n
  ·exact Qrn (e4 h0).1
  ·obtain rfl:n=0:=by omega
   simp[dvS]
 ·by_cases h0:0<n
  ·exact Qrn (e4 h0).2
  ·obtain rfl:n=0:=by omega
   exact hf.l
theorem Qm6{g:List Tm}(h:GI g){n:Nat}(hn:n<=64):PB 1200 192 (Qao g)/\Nrm (Qao g)/\(Qao g).length<=4/\∀i,i<=n->PB 1900 192 (Qax (Qao g) i)/\(Qax (Qao g) i).length<=37249:=by
 obtain⟨v1,v2⟩:=h.v;have hp:=h.p;have e:Qao g=Qae g (Q3 g).toNat (Q8 g (Q3 g).toNat):=by unfold Qao exi;rw[if_neg (by omega),if_neg (by omega)]
 have hM:ML (Q3 g).toNat (Qao g):=by rw[e];refine ML.top h.b (fun t ht=>?_) _;have:=(Qko g (-1)).2.1 t ht;have h2:(t.2.length:Int)-1<=Q3 g:=this;omega
 have hS:SZ 9 8 3 (Qao g):=by rw[e];exact h.s.coefN _ _
 have hn':Nrm (Qao g):=by rw[e];exact Qb2 h.n _ _
 have hl:(Qao g).length<=4:=by rw[e];exact Nat.le_trans (Qc8 _ _ _) h.l
 refine⟨hS.PB.mono (by omega) (by omega),hn',hl,fun i hi=>?_⟩;have h1:=(hS.ppow i).PB;have h2:PB 1900 192 (Qax (Qao g) i):=h1.mono (by omega) (by omega);refine⟨h2,?_⟩;have h3:=Qnp h2 (Qeh hn' i) (hM.ppow i);have:(Q3 g).toNat=0∨(Q3 g).toNat=1∨(Q3 g).toNat=2:=by omega
 rcases this with e|e|e<;>rw[e]at h3<;>simp at h3<;>omega
theorem Q61{g:List Tm}(h:GI g)(n:Nat):SZ (1+n*9) (1+n*8) (n*3) (Qax (Qao g) n):=by
 have hp:=h.p;have e:Qao g=Qae g (Q3 g).toNat (Q8 g (Q3 g).toNat):=by unfold Qao exi;rw[if_neg (by omega),if_neg (by omega)]
 rw[e];exact(h.s.coefN _ _).ppow n
theorem Qaqi{g q:List Tm}{j n:Nat}(h:GI g)(hq:PI j q)(hn:n<=eJ j+1)(hl:Qaf (Qx q (Qax (Qao g) n))=false):PI (j+1) (Qx q (Qax (Qao g) n)):=by
 have hp:=h.p;have hn':Nrm (Qao g):=(Qm6 h (n:=0) (by omega)).2.1;refine⟨(hq.s.pmul (Q61 h n)).mono ?_ ?_ ?_,Qam hq.n.s (Qeh hn' n).s,Qrn hl⟩
 ·rw[aJ];omega
 ·rw[bJ];omega
 ·rw[eJ];omega
def RG(m:Nat)(i:Nat)(s:RSt):Prop:=∃j,i+j=m/\PI j s.2.2/\∀q∈s.2.1,PI j q
theorem RG.step{m i:Nat}{g:List Tm}{s s':RSt}(hm:m<=3)(h:GI g)(hs:RG m (i+1) s)(he:Qfe g i (Qha s.2.2 g) s=some s'):RG m i s':=by
 obtain⟨j,hj,hr,hq⟩:=hs;obtain⟨pw,qs,rest⟩:=s;simp only at hr hq he;cases hd:Qha rest g with
 |none=>rw[hd]at he;cases he
 | some d=>
  obtain⟨q,r,n⟩:=d;obtain⟨d1,d2,d3⟩:=Qf4 h hr hd;rw[hd]at he;unfold Qfe at he;simp only at he;split at he
  ·cases he
  ·rename_i hb;simp only[Option.some.injEq]at he;subst he;refine⟨j+1,by omega,d2,fun x hx=>?_⟩;simp only at hx;rcases List.mem_or_eq_of_mem_set hx with hx|rfl
   ·obtain⟨k,hk,rfl⟩:=List.getElem_of_mem hx;rw[Qfj];have hkq:k<qs.length:=by rw[Qc3]at hk;exact hk
    have hmem:qs.getD k []∈qs:=by simp[hkq]
    split
    ·refine Qaqi h (hq _ hmem) d3 ?_;rename_i hik;cases hpl:Qaf (Qx (qs.getD k []) (Qax (Qao g) n))with
     |false=>rfl
     |true=>exact absurd ⟨k,hkq,hik.1,hpl⟩ hb
    ·exact(hq _ hmem).up
   ·exact d1
theorem Qagh{m i:Nat}{g:List Tm}{s:RSt}(hm:m<=3)(h:GI g)(hs:RG m (i+1) s):Qrm 12 38 36 37 35 16 g i (Qha s.2.2 g) s:=by
 obtain⟨j,hj,hr,hq⟩:=hs;have hv:=h.v;have hJ:=J_lt (j:=j) (by omega);have hJ1:=J_le (j:=j+1) (by omega);have hN:=GI.N (g:=g) hr (Q3 g).toNat;refine⟨Qea h.b (by have:=h.l;omega),?_,Qjb h.b (by have:=h.l;omega),fun q r n hd=>?_,fun q r n hd k hk hik=>?_,fun q r n hd k hk hik=>?_⟩
 ·have hD:=Qjr (f:=s.2.2) (g:=g) (v:=(Q3 g).toNat) (d:=(Q8 g (Q3 g).toNat).toNat) (N:=(Q8 s.2.2 (Q3 g).toNat).toNat+1) (K:=2600) (E:=255) (M:=4) hr.n h.n (h.b.mono (by omega) (by omega)) (by omega) h.ne (h.d _).symm hN.2
   (Qq4 (hr.pb (by omega)) (by omega) hr.l) (fun k hk=>DV.pb (h.states hr _ k (by omega)) hJ1.2.1 hJ1.2.2 hJ1.1) h.l (by omega) (by omega) (by omega) (by omega) (by omega) (by omega) (by omega)
  rw[hv.1,Qlq]at hD;exact hD
 ·obtain⟨d1,d2,d3⟩:=Qf4 h hr hd;obtain⟨w1,w2,w3,w4⟩:=Qm6 h (n:=n) (by omega);exact Qxe (L:=37249) (K:=1900) (E:=192) (by omega) (w1.mono (by omega) (by omega)) w4 (by omega) (by omega) (by omega) (by omega) (by omega)
 ·obtain⟨d1,d2,d3⟩:=Qf4 h hr hd;obtain⟨w1,w2,w3,w4⟩:=Qm6 h (n:=n) (by omega);obtain⟨w5,w6⟩:=w4 n (Nat.le_refl _);have hqk:=hq (s.2.1.getD k []) (by simp[hk]);have hl:=hqk.l;have m1:(s.2.1.getD k []).length*(Qax (Qao g) n).length<=4000*37249:=Nat.mul_le_mul hl w6;have m2:min (s.2.1.getD k []).length (Qax (Qao g) n).length*(2600+2600)<=4000*(2600+2600):=Nat.mul_le_mul_right _ (by omega);exact Qd2 (K:=2600) (E:=255) (hqk.pb (by omega)) (w5.mono (by omega) (by omega)) (by omega) (by omega) (by omega) (by omega) (by omega) (by omega)
 ·obtain⟨d1,d2,d3⟩:=Qf4 h hr hd;obtain⟨w1,w2,w3,w4⟩:=Qm6 h (n:=n) (by omega);obtain⟨w5,w6⟩:=w4 n (Nat.le_refl _);have hqk:=hq (s.2.1.getD k []) (by simp[hk]);have hl:=hqk.l;have m1:(s.2.1.getD k []).length*(Qax (Qao g) n).length<=4000*37249:=Nat.mul_le_mul hl w6;obtain⟨p1,p2⟩:=Qfg (hqk.pb (by omega)) w5;exact Qxd (fun t ht=>(p1 t ht).m) (by omega)
theorem Q62{m i:Nat}{g:List Tm}{s:RSt}(hm:m<=3)(h:GI g)(hs:RG m (i+1) s):Qrm 30 41 13 14 39 40 g i (Qha s.2.2 g) s:=by
 obtain⟨j,hj,hr,hq⟩:=hs;have hv:=h.v;have hJ:=J_lt (j:=j) (by omega);have hJ1:=J_le (j:=j+1) (by omega);have hN:=GI.N (g:=g) hr (Q3 g).toNat;refine⟨Qmi h.b h.n (by have:=h.l;omega),?_,Qm5 h.b h.n (by have:=h.l;omega) (by omega) (by omega),fun q r n hd=>?_,fun q r n hd k hk hik=>?_,fun q r n hd k hk hik=>?_⟩
 ·have hD:=Qxb (f:=s.2.2) (g:=g) (v:=(Q3 g).toNat) (d:=(Q8 g (Q3 g).toNat).toNat) (N:=(Q8 s.2.2 (Q3 g).toNat).toNat+1) (K:=2600) (E:=255) (M:=4) hr.n h.n (h.b.mono (by omega) (by omega)) (by omega) h.ne (h.d _).symm hN.2
   (Qq4 (hr.pb (by omega)) (by omega) hr.l) (fun k hk=>DV.pb (h.states hr _ k (by omega)) hJ1.2.1 hJ1.2.2 hJ1.1) h.l (by omega) (by omega) (by omega) (by omega) (by omega) (by omega) (by omega) (by omega)
  rw[hv.1,Qlq]at hD;exact hD
 ·obtain⟨d1,d2,d3⟩:=Qf4 h hr hd;obtain⟨w1,w2,w3,w4⟩:=Qm6 h (n:=n) (by omega);exact Qyw (L:=37249) (K:=1900) (E:=192) (by omega) (w1.mono (by omega) (by omega)) w2 w4 (by omega) (by omega) (by omega) (by omega)
 ·obtain⟨d1,d2,d3⟩:=Qf4 h hr hd;obtain⟨w1,w2,w3,w4⟩:=Qm6 h (n:=n) (by omega);obtain⟨w5,w6⟩:=w4 n (Nat.le_refl _);have hqk:=hq (s.2.1.getD k []) (by simp[hk]);have hl:=hqk.l;have m1:(Qax (Qao g) n).length*(s.2.1.getD k []).length<=37249*4000:=Nat.mul_le_mul w6 hl;have m2:(Qax (Qao g) n).length*(2600+2600)<=37249*(2600+2600):=Nat.mul_le_mul_right _ w6;have:=Qep (K:=2600) (E:=255) (hqk.pb (by omega)) (w5.mono (by omega) (by omega)) hqk.n.z (Qeh w2 n).z (by omega) (by omega) (by omega) (by omega) (by omega)
  rwa[Qjo hqk.n (Qeh w2 n)]at this
 ·obtain⟨d1,d2,d3⟩:=Qf4 h hr hd;obtain⟨w1,w2,w3,w4⟩:=Qm6 h (n:=n) (by omega);obtain⟨w5,w6⟩:=w4 n (Nat.le_refl _);have hqk:=hq (s.2.1.getD k []) (by simp[hk]);have hl:=hqk.l;have m1:(s.2.1.getD k []).length*(Qax (Qao g) n).length<=4000*37249:=Nat.mul_le_mul hl w6;obtain⟨p1,p2⟩:=Qfg (hqk.pb (by omega)) w5;exact Qh3 (fun t ht=>(p1 t ht).m) (by omega)
theorem Qak8{l:List (List Tm×List (List Tm))}{v K E:Nat}(hv:v<64)(hp:∀x∈l,PB K E x.1/\x.1.length<=2^30)(hK:K<=2^33)(hE:E<=2^38)(hl:l.length<=100):
  Qd Tryz.prog 60 [.sl 2 (l.map PV.el),.int .i64 v] (· = .tup [.int .i64 (Qrg l v).1,.int .i64 (Qrg l v).2]):=by
 refine Qf Qj Tryz.func60 rfl Qap3 (by simp[c60]) fun C hP=>?_;simp only[c60];refine Sz0 ?_;refine Qy (by repeat (first|exact Qu|exact Qn|exact Qo|exact Qk|exact Qp|apply Qm|apply Qt|apply Qw|apply Q5|apply Q6|apply Qi|apply Qz)) [(6,11),(14,60)] [9] (fun m J hp=>∃i,m=l.length-i/\i<=l.length/\J 6= .int .i64 (Qmj l v i).1/\J 7= .int .i64 (Qmj l v i).2/\J 14= .int .i64 (i:Nat)) l.length ?_ ?_
 ·refine⟨0,rfl,by omega,?_⟩;refine Sz0 ?_
  try (first|rfl|exact⟨rfl,rfl⟩|exact⟨rfl,rfl,rfl⟩)
 rintro _ J h ⟨i,rfl,hi,j6,j7,j14⟩;obtain⟨s1,s2,s3⟩:=Q4l l v i;have hsc:=Qyt l v i;generalize hst:Qmj l v i=st at *
 obtain⟨at_,n⟩:=st;simp only at s1 s2 s3 j6 j7;by_cases c1:i<l.length
 ·have d1:decide ((i:Int)<(l.length:Int))=true:=decide_eq_true (by omega);obtain⟨b1,b2⟩:=hp _ (List.getElem_mem c1);have hm:=Qea b1 (by omega:_<=2^36);have hgd:l.getD i default=l[i]:=by simp[c1]
  unfold Qv1 at hsc;rw[hgd]at hsc;generalize hx:l[i]=x at *
  refine Sz3 j14 d1 hx ?_;refine Qa hP hm rfl rfl rfl ?_;by_cases e1:Q3 x.1=v
  ·have q1:decide (¬Q3 x.1=(v:Int))=false:=decide_eq_false fun h=>h e1;have q1':(!decide (Q3 x.1=(v:Int)))=false:=by simp[e1]
   rw[if_neg (by simpa using e1)]at hsc;by_cases e2:at_<0
   ·have q2:decide (at_<0)=true:=decide_eq_true e2;simp only[e2,if_true]at hsc;refine Sz8 j6 j7 j14 d1 hx q1 q1' q2 ?_;refine Qh (l.length-(i+1)) (by omega) ⟨i+1,rfl,by omega,?_⟩;rw[hsc];refine Sz2 j6 j7 ?_
    try (first|rfl|trivial|exact⟨rfl,rfl⟩|exact⟨rfl,rfl,rfl⟩)
   ·have q2:decide (at_<0)=false:=decide_eq_false e2;simp only[e2,if_false]at hsc;obtain⟨a,rfl⟩:∃a:Nat,at_=a:=⟨at_.toNat,by omega⟩
    have ha:a<l.length:=by omega
    obtain⟨b3,b4⟩:=hp _ (List.getElem_mem ha);have hga:l.getD ((a:Int)).toNat default=l[a]:=by simp[ha]
    rw[hga]at hsc;generalize hy:l[a]=y at *
    have hd1:=Qce (v:=(v:Int)) b1 (by omega:_<=2^36);have hd2:=Qce (v:=(v:Int)) b3 (by omega:_<=2^36);rw[Qet]at hd1 hd2;have hc:=Qvc b1 b3 hK hE (by omega) (by omega);unfold betT at hsc;generalize Q8 x.1 v=dx at *
    generalize Q8 y.1 v=dy at *
    generalize Qe0 x.1 y.1=cv at *
    refine Sz9 j6 j7 j14 d1 hx hy q1 q1' q2 ?_;refine Qa hP hd1 rfl rfl rfl ?_;refine Sz0 ?_;refine Qa hP hd2 rfl rfl rfl ?_;by_cases e3:dx<dy
    ·have q3:decide (dx<dy)=true:=decide_eq_true e3;rw[q3]at hsc;simp only[Bool.true_or,if_true]at hsc;refine Sz7 j6 j7 j14 d1 hx hy q3 ?_;refine Qh (l.length-(i+1)) (by omega) ⟨i+1,rfl,by omega,?_⟩;rw[hsc];refine Sz2 j6 j7 ?_
     try (first|rfl|trivial|exact⟨rfl,rfl⟩|exact⟨rfl,rfl,rfl⟩)
    have q3:decide (dx<dy)=false:=decide_eq_false e3;rw[q3]at hsc;simp only[Bool.false_or]at hsc;by_cases e4:dx=dy
    ·have q4:decide (dx=dy)=true:=decide_eq_true e4;rw[q4]at hsc;simp only[Bool.true_and]at hsc;refine Sz8 j6 j7 j14 d1 hx hy q3 q4 ?_;refine Qa hP hc rfl rfl rfl ?_;by_cases e5:cv<0
     ·have q5:decide (cv<0)=true:=decide_eq_true e5;simp only[q5,if_true]at hsc;refine Sz9 j6 j7 j14 d1 hx hy q3 q4 q5 ?_;refine Qh (l.length-(i+1)) (by omega) ⟨i+1,rfl,by omega,?_⟩;rw[hsc];refine Sz2 j6 j7 ?_
      try (first|rfl|trivial|exact⟨rfl,rfl⟩|exact⟨rfl,rfl,rfl⟩)
     ·have q5:decide (cv<0)=false:=decide_eq_false e5;simp only[q5,Bool.false_eq_true,if_false]at hsc;refine Sz9 j6 j7 j14 d1 hx hy q3 q4 q5 ?_;refine Qh (l.length-(i+1)) (by omega) ⟨i+1,rfl,by omega,?_⟩;rw[hsc];refine Sz2 j6 j7 ?_
      try (first|rfl|trivial|exact⟨rfl,rfl⟩|exact⟨rfl,rfl,rfl⟩)
    ·have q4:decide (dx=dy)=false:=decide_eq_false e4;simp only[q4,Bool.false_and,Bool.false_eq_true,if_false]at hsc;refine Sz8 j6 j7 j14 d1 hx hy q3 q4 ?_;refine Qh (l.length-(i+1)) (by omega) ⟨i+1,rfl,by omega,?_⟩;rw[hsc];refine Sz2 j6 j7 ?_
     try (first|rfl|trivial|exact⟨rfl,rfl⟩|exact⟨rfl,rfl,rfl⟩)
  ·have q1:decide (¬Q3 x.1=(v:Int))=true:=decide_eq_true e1;have q1':(!decide (Q3 x.1=(v:Int)))=true:=by simp[e1]
   rw[if_pos (by simpa using e1)]at hsc;refine Sz7 j6 j7 j14 d1 hx q1 q1' ?_;refine Qh (l.length-(i+1)) (by omega) ⟨i+1,rfl,by omega,?_⟩;rw[hsc];refine Sz2 j6 j7 ?_
   try (first|rfl|trivial|exact⟨rfl,rfl⟩|exact⟨rfl,rfl,rfl⟩)
 ·obtain rfl:i=l.length:=by omega
  have d1:decide ((l.length:Int)<(l.length:Int))=false:=decide_eq_false (by omega);refine Sz4 j6 j7 j14 d1 ?_;exact Qf9 (by unfold Qrg;rw[hst]) rfl rfl (Q2 _) (Q2 _)
def Qd3(p:List Tm)(cs:List (List Tm)):List Tm×List (List Tm):=(Qcf p (Qk1 p),cs.map (fun c=>Qcf c (Qk1 p)))
def Qaax(p:List Tm)(cs:List (List Tm)):Bool:=pbB 100 10 p&&(Q6v p&&(decide (0<p.length)&&(decide (p.length<=10)&&(decide (cs.length<=10)&&(cs.all (fun c=>pbB 100 10 c&&decide (c.length<=10))&&(decide (rs (Qk1 p)+1<=100)&&(pbB 100 10 (Qd3 p cs).1&&(decide (Qaf (Qd3 p cs).1=false)&&(decide (0<(Qd3 p cs).1.length)&&(decide ((Qd3 p cs).1.length<=10)&&(decide (0<=Q3 (Qd3 p cs).1)&&((Qd3 p cs).2.all (fun c=>pbB 100 10 c&&(decide (c.length<=10)&&decide (Qaf c=false)))))))))))))))
theorem Qxi{p:List Tm}{cs:List (List Tm)}(h:Qaax p cs=true):Qd Tryz.prog 103 [PV.poly p,PV.polys cs] (· = .tup [PV.el (Qd3 p cs),.int .i64 0]):=by
 simp only[Qaax,Bool.and_eq_true,decide_eq_true_eq,List.all_eq_true]at h;obtain⟨h1,h2,h3,h4,h5,h6,h7,h8,h9,h10,h11,h12,h13⟩:=h;have hlen:(Qd3 p cs).2.length=cs.length:=by simp[Qd3]
 refine Q2m (p:=p) (q:=(Qd3 p cs).1) (cs:=cs) (ds:=(Qd3 p cs).2) (a:=Qk1 p) hlen (by omega) ?_ (fun i hi=>?_) ?_ h10 ?_ ?_
 ·exact Qsa (K:=100) (E:=10) (Qbf h1) (Qkn h2) (List.length_pos_iff.1 h3) (by omega) (by omega) (by omega)
 ·have hc:=h6 _ (List.getElem_mem hi);have e:(Qd3 p cs).2.getD i []=Qcf cs[i] (Qk1 p):=by simp[Qd3,hi]
  rw[e];exact Qmc (K:=100) (E:=10) (Qbf hc.1) h7 (by omega) (by omega) (by omega)
 ·have:=Qxd (p:=(Qd3 p cs).1) (E:=10) (fun t ht=>((Qbf h8) t ht).m) (by omega)
  rwa[h9]at this
 ·have:=Qrf (p:=(Qd3 p cs).2) (f:=38) (g:=Qaf) (fun t ht=>by have hc:=h13 t ht;exact Qxd (E:=10) (fun s hs=>((Qbf hc.1) s hs).m) (by omega)) (by omega)
  rwa[show(Qd3 p cs).2.any Qaf=false from by rw[List.any_eq_false];intro t ht;have hc:=h13 t ht;simp[hc.2.2]]at this
 ·have:=Q6z (p:=(Qd3 p cs).1) (K:=100) (E:=10) (Qbf h8) (by omega)
  rwa[show decide (Q3 (Qd3 p cs).1<0)=false from decide_eq_false (by omega)]at this
abbrev Qc9:List Tm:=[(1,[])]
abbrev vxP:List Tm:=[(1,[1])]
abbrev p0P:List Tm:=[(1,[0,1]),(-1,[1])]
abbrev p1P:List Tm:=[(1,[0,1]),(1,[1])]
abbrev gP:List Tm:=[(1,[1,1]),(-1,[])]
abbrev yyP:List Tm:=[(1,[0,2])]
abbrev E0:List Tm×List (List Tm):=(p0P,[Qc9,[]])
abbrev E1:List Tm×List (List Tm):=(p1P,[[],Qc9])
abbrev E2:List Tm×List (List Tm):=(vxP,[[(mkRat (-1) 2,[])],[(mkRat 1 2,[])]])
theorem Qar5:Qd3 p0P (Qr3 2 0)=E0:=by decide+kernel
theorem Qar6:Qd3 p1P (Qr3 2 1)=E1:=by decide+kernel
theorem Qar7:Qd3 [(2,[1])] (Qht Qc9 Qc9 E1.2 E0.2)=E2:=by decide+kernel
theorem Qagi:Qd Tryz.prog 59 [PV.polys [p0P,p1P]] (· = .tup [PV.ems [E0,E1],.int .i64 0]):=by
 have h:=Qak3 (ps:=[p0P,p1P]) (R:=fun i=>if i=0 then E0 else E1) (by simp) (fun i hi=>by
  have:i=0∨i=1:=by simp at hi;omega
  rcases this with rfl|rfl
  ·have:=Qxi (p:=p0P) (cs:=Qr3 2 0) (by decide+kernel)
   rwa[Qar5]at this
  ·have:=Qxi (p:=p1P) (cs:=Qr3 2 1) (by decide+kernel)
   rwa[Qar6]at this) (fun i hi=>by split<;>simp)
 exact h
theorem Qak9:dvO p0P 1 1 2 [] p1P 0=some (Qc9,[(2,[1])],1):=by decide+kernel
theorem Qaqj:Qd Tryz.prog 35 [PV.poly p1P,PV.poly p0P,.int .i64 (1:Nat)] (· = .tup [PV.poly Qc9,PV.poly [(2,[1])],.int .i64 (1:Nat),.int .i64 0]):=by
 have h:=Qjr (f:=p1P) (g:=p0P) (v:=1) (d:=1) (N:=2) (K:=100) (E:=10) (M:=10) (Qkn (by decide+kernel)) (Qkn (by decide+kernel)) (Qbf (by decide+kernel)) (by omega) (by simp) (by decide+kernel) (by decide+kernel) (by decide+kernel) (fun k hk=>by
  have:k=0∨k=1:=by omega
  rcases this with rfl|rfl<;>exact⟨Qbf (by decide+kernel),Qbf (by decide+kernel)⟩) (by simp) (by omega) (by omega) (by omega) (by omega) (by omega) (by omega) (by omega)
 rwa[Qlq,Qak9]at h
theorem Qala:Qao p0P=Qc9:=by decide+kernel
theorem Qaqk:Qax Qc9 1=Qc9:=by decide+kernel
theorem Q63:Qd Tryz.prog 104 [PV.el E1,PV.el E0,.int .i64 (1:Nat)] (· = .tup [PV.el E2,.int .i64 0]):=by
 refine Qaap (f:=E1) (g:=E0) (v:=1) (q:=Qc9) (r:=[(2,[1])]) (c:=Qc9) (n:=1) (x:=E2) (e:=0) (by simp) rfl Qaqj ?_ ?_ ?_ ?_ ?_ ?_
 ·exact Qjb (K:=100) (E:=10) (Qbf (by decide+kernel)) (by simp)
 ·have h:=Qxe (p:=Qc9) (n:=1) (K:=100) (E:=10) (L:=10) (by omega) (Qbf (by decide+kernel)) (fun i hi=>by
   have:i=0∨i=1:=by omega
   rcases this with rfl|rfl<;>exact⟨Qbf (by decide+kernel),by decide+kernel⟩) (by simp) (by omega) (by omega) (by omega) (by omega)
  rw[Qaqk]at h;show Qd Tryz.prog _ [PV.poly (Qao p0P),_] _;rw[Qala];exact h
 ·intro y hy;have:y=[]∨y=Qc9:=by simpa using hy
  rcases this with rfl|rfl<;>exact Qd2 (K:=100) (E:=10) (Qbf (by decide+kernel)) (Qbf (by decide+kernel)) (by omega) (by simp) (by simp) (by simp) (by simp) (by omega)
 ·intro y hy;have:y=Qc9∨y=[]:=by simpa using hy
  rcases this with rfl|rfl<;>exact Qd2 (K:=100) (E:=10) (Qbf (by decide+kernel)) (Qbf (by decide+kernel)) (by omega) (by simp) (by simp) (by simp) (by simp) (by omega)
 ·intro y hy z hz;have h1:y=[]∨y=Qc9:=by simpa using hy
  have h2:z=Qc9∨z=[]:=by simpa using hz
  rcases h1 with rfl|rfl<;>rcases h2 with rfl|rfl<;>exact Qvb (K:=100) (E:=10) (Qbf (by decide+kernel)) (Qbf (by decide+kernel)) (by omega) (by omega) (by omega) (Nat.le_trans (by decide+kernel:_<=10) (by omega)) (Nat.le_trans (by decide+kernel:_<=10) (by omega))
 ·have h:=Qxi (p:=[(2,[1])]) (cs:=Qht Qc9 Qc9 E1.2 E0.2) (by decide+kernel)
  rwa[Qar7]at h
theorem Qaay:∀x∈[E0,E1,E2],PB 100 10 x.1/\x.1.length<=2^30:=by
 intro x hx;have:x=E0∨x=E1∨x=E2:=by simpa using hx
 rcases this with rfl|rfl|rfl<;>exact⟨Qbf (by decide+kernel),by simp⟩
theorem Qagj:Qd Tryz.prog 61 [PV.ems [E0,E1],.int .i64 (0:Nat),.int .i64 (1:Nat)] (· = .tup [PV.ems [E0,E2],.int .i64 0]):=by
 have h:=Qak2 (l:=[E0,E1]) (at_:=0) (v:=1) (K:=100) (E:=10) (R:=fun _=>E2) (by simp) (by simp) (fun x hx=>Qaay x (by simp at hx ⊢;rcases hx with h|h<;>simp[h])) (fun i hi h0 hm=>by
  have:i=1:=by simp at hi;omega
  subst this;exact Q63) (fun _ _ _=>by simp)
 have e:Qmk [E0,E1] 0 1 (fun _=>E2) 2=[E0,E2]:=by decide+kernel
 have h2:([E0,E1]:List (List Tm×List (List Tm))).length=2:=rfl;rw[h2,e]at h;exact h
theorem Qps{l:List (List Tm×List (List Tm))}{v:Nat}{a:Int}{n:Nat}(hl:∀x∈l,x∈[E0,E1,E2])(hl2:l.length<=100)(hv:v<64)(h:Qrg l v=(a,n)):Qd Tryz.prog 60 [PV.ems l,.int .i64 v] (· = .tup [.int .i64 a,.int .i64 n]):=by
 have:=Qak8 (l:=l) (v:=v) (K:=100) (E:=10) hv (fun x hx=>Qaay x (hl x hx)) (by omega) (by omega) hl2
 rwa[h]at this
theorem Qaql:∀v,v<64->2<=v->Qrg [E0,E1] v=(-1,0):=by decide+kernel
def alK(v:Nat):Option (List Tm×List (List Tm)):=if v=0 then some E2 else if v=1 then some E0 else none
theorem Qalb:Qd Tryz.prog 27 [PV.polys [p0P,p1P]] (· = .tup [PV.ems [E2,E0],.int .i64 0]):=by
 have h:=Qaml (list:=[p0P,p1P]) (Ls:=fun v=>if 2<=v then [E0,E1]else [E0,E2]) (K:=alK) Qagi (fun v hv=>?_) (fun v e h=>?_)
 ·have e:(List.range 64).filterMap alK=[E2,E0]:=by decide+kernel
  rw[e]at h;exact h
 ·by_cases h2:2<=v
  ·refine⟨0,?_⟩;have e1:alK v=none:=by unfold alK;rw[if_neg (by omega),if_neg (by omega)]
   rw[e1];simp only[h2,if_true,show 2<=v+1 by omega];exact Qi4.none _ (-1) (Qps (by simp) (by simp) hv (Qaql v hv h2))
  ·have:v=0∨v=1:=by omega
   rcases this with rfl|rfl
   ·refine⟨0,?_⟩;exact Qi4.one [E0,E2] 1 (by simp) (Qps (by simp) (by simp) hv (by decide+kernel))
   ·refine⟨1,?_⟩;exact Qi4.more [E0,E1] [E0,E2] [E0,E2] (0:Nat) (2:Nat) (some E0) 0 (Qps (by simp) (by simp) hv (by decide+kernel)) (by simp) Qagj (Qi4.one [E0,E2] 0 (by simp) (Qps (by simp) (by simp) hv (by decide+kernel)))
 ·unfold alK at h;split at h
  ·cases h;simp
  ·split at h
   ·cases h;simp
   ·cases h
abbrev vyP:List Tm:=[(1,[0,1])]
abbrev alD(f _:List Tm):Option (List Tm×List Tm×Nat):=dvO gP 1 1 3 [] f 0
theorem Qagk:dvO gP 1 1 3 [] yyP 0=some ([(1,[1,1]),(1,[])],Qc9,2):=by decide+kernel
instance decRSt : DecidableEq RSt := instDecidableEqProd
theorem Qagl:Qdt [gP] alD 1 ([0],[[]],yyP)=some ([2],[[(1,[1,1]),(1,[])]],Qc9):=by decide+kernel
theorem Q64:PVB 100 10 gP:=⟨Qbf (by decide+kernel),(Qkn (by decide+kernel)).pvd (Qbf (K:=100) (E:=10) (by decide+kernel)) (by omega),by simp⟩
theorem Qar8:PVB 100 10 yyP:=⟨Qbf (by decide+kernel),(Qkn (by decide+kernel)).pvd (Qbf (K:=100) (E:=10) (by decide+kernel)) (by omega),by simp⟩
theorem Qalc:Qrm 12 38 36 37 35 16 gP 0 (alD yyP gP) ([0],[[]],yyP):=by
 have hm:Q3 gP=1:=by decide+kernel
 have hi:Qao gP=vxP:=by decide+kernel
 have hd:alD yyP gP=some ([(1,[1,1]),(1,[])],Qc9,2):=Qagk;refine⟨?_,?_,?_,fun q r n h=>?_,fun q r n h k hk hk2=>?_,fun q r n h k hk hk2=>?_⟩
 ·exact Qea (K:=100) (E:=10) Q64.b (by simp)
 ·rw[hm];have h:=Qjr (f:=yyP) (g:=gP) (v:=1) (d:=1) (N:=3) (K:=100) (E:=10) (M:=10) (Qkn (by decide+kernel)) (Qkn (by decide+kernel)) (Qbf (by decide+kernel)) (by omega) (by simp) (by decide+kernel) (by decide+kernel) (by decide+kernel) (fun k hk=>by
   have:k=0∨k=1∨k=2:=by omega
   rcases this with rfl|rfl|rfl<;>exact⟨Qbf (by decide+kernel),Qbf (by decide+kernel)⟩) (by simp) (by omega) (by omega) (by omega) (by omega) (by omega) (by omega) (by omega)
  rwa[Qlq]at h
 ·exact Qjb (K:=100) (E:=10) Q64.b (by simp)
 ·rw[hd]at h;obtain⟨rfl,rfl,rfl⟩:[(1,[1,1]),(1,[])]=q/\Qc9=r/\2=n:=by simpa using h
  rw[hi];exact Qxe (p:=vxP) (n:=2) (K:=100) (E:=10) (L:=10) (by omega) (Qbf (by decide+kernel)) (fun i hi=>by
   have:i=0∨i=1∨i=2:=by omega
   rcases this with rfl|rfl|rfl<;>exact⟨Qbf (by decide+kernel),by decide+kernel⟩) (by simp) (by omega) (by omega) (by omega) (by omega)
 ·simp at hk;omega
 ·simp at hk;omega
theorem Qaaz:Qd Tryz.prog 8 [PV.poly yyP,PV.polys [gP]] (· = .tup [PV.redn ([2],[[(1,[1,1]),(1,[])]],Qc9),.int .i64 0]):=by
 have hc:chV (-1) [gP]=true:=by decide+kernel
 have hR:=Q15 (gs:=[gP]) (by simp) (fun p hp=>by rw[List.mem_singleton.1 hp];exact Q64) (by omega) (by omega);rw[hc]at hR;have h:=Q13 (p:=yyP) (gs:=[gP]) (D:=alD) (G:=fun i s=>i=0∨s=([0],[[]],yyP)) (by simp) (Q16 Qar8 (by omega)) hR (.inr rfl) (fun i hi s hs=>by
  have:i=0:=by simp at hi;omega
  subst this;have:s=([0],[[]],yyP):=hs.resolve_left (by omega);subst this;exact⟨Qalc,fun s' _=>.inl rfl⟩)
 have e:Qdt [gP] alD [gP].length (List.replicate [gP].length 0,List.replicate [gP].length [],yyP)=some ([2],[[(1,[1,1]),(1,[])]],Qc9):=Qagl;rw[e]at h;exact h
theorem al_x:Qtl 0=vxP:=by decide+kernel
theorem al_y:Qtl 1=vyP:=by decide+kernel
theorem Qaqm:Qgc vyP vxP=p0P:=by decide+kernel
theorem Qaqn:Q4 vyP vxP=p1P:=by decide+kernel
theorem Qar9:Qgz vyP vyP=yyP:=by decide+kernel
theorem Qasa:Qgz vxP vyP=[(1,[1,1])]:=by decide+kernel
theorem Qaqo:Qbe ((1:Int):Rat)=Qc9:=by decide+kernel
theorem al_g:Qgc [(1,[1,1])] Qc9=gP:=by decide+kernel
theorem Qr9{p:List Tm}(h:Q6v p=true):NZ p:=(Qkn h).z
theorem Qald:Qd Tryz.prog 7 [] (· = .bool true):=by
 have hx:Qd Tryz.prog 26 [.int .i64 (0:Nat)] (· =PV.poly vxP):=by have:=Qs3 (v:=0) (by omega);rwa[show Qtl ((0:Nat):Int)=vxP from al_x]at this
 have hy:Qd Tryz.prog 26 [.int .i64 (1:Nat)] (· =PV.poly vyP):=by have:=Qs3 (v:=1) (by omega);rwa[show Qtl ((1:Nat):Int)=vyP from al_y]at this
 have h1:=Qnk (p:=vyP) (q:=vxP) (K:=100) (E:=10) (Qbf (by decide+kernel)) (Qbf (by decide+kernel)) (Qr9 (by decide+kernel)) (by omega) (by omega) (by omega) (by simp) (by simp);rw[Qaqm]at h1;have h2:=Qj6 (p:=vyP) (q:=vxP) (K:=100) (E:=10) (Qbf (by decide+kernel)) (Qbf (by decide+kernel)) (by omega) (by omega) (by simp) (by simp);rw[Qaqn]at h2;have h3:=Qep (p:=vyP) (q:=vyP) (K:=100) (E:=10) (Qbf (by decide+kernel)) (Qbf (by decide+kernel)) (Qr9 (by decide+kernel)) (Qr9 (by decide+kernel)) (by omega) (by simp) (by simp) (by simp) (by simp);rw[Qar9]at h3;have h4:=Qep (p:=vxP) (q:=vyP) (K:=100) (E:=10) (Qbf (by decide+kernel)) (Qbf (by decide+kernel)) (Qr9 (by decide+kernel)) (Qr9 (by decide+kernel)) (by omega) (by simp) (by simp) (by simp) (by simp);rw[Qasa]at h4;have h5:=Qvq (a:=((1:Int):Rat)) (k:=1) (by have:((1:Int):Rat)=1:=rfl;rw[this];exact Qnc) (by omega);rw[Qaqo]at h5;have hof:=Qij (x:=1) (by omega) (by omega);have h6:=Qnk (p:=[(1,[1,1])]) (q:=Qc9) (K:=100) (E:=10) (Qbf (by decide+kernel)) (Qbf (by decide+kernel)) (Qr9 (by decide+kernel)) (by omega) (by omega) (by omega) (by simp) (by simp);rw[al_g]at h6;have h7:=Qp3 (p:=vxP) (q:=vxP) (K:=100) (E:=10) (Qbf (by decide+kernel)) (Qbf (by decide+kernel)) (by omega) (by omega) (by simp) (by simp);rw[decide_eq_true (p:=vxP=vxP) rfl]at h7;have h8:=Qp3 (p:=Qc9) (q:=Qc9) (K:=100) (E:=10) (Qbf (by decide+kernel)) (Qbf (by decide+kernel)) (by omega) (by omega) (by simp) (by simp);rw[decide_eq_true (p:=Qc9=Qc9) rfl]at h8;have hM:=Qalb;obtain⟨c2,hc2⟩:∃c2,E2=(vxP,c2):=⟨_,rfl⟩
 obtain⟨c0,hc0⟩:∃c0,E0=(p0P,c0):=⟨_,rfl⟩
 rw[hc2,hc0]at hM;have hR:=Qaaz;generalize([[(1,[1,1]),(1,[])]]:List (List Tm))=qq at hR;generalize hmm:([(1,[1,1])]:List Tm)=mm at *
 clear hc2 hc0 hmm;have n1:vxP.length=1:=rfl;generalize vxP=vx at *
 generalize vyP=vy at *
 generalize p0P=p0 at *
 generalize p1P=p1 at *
 generalize yyP=yy at *
 generalize gP=gg at *
 generalize Qc9=on at *
 generalize((1:Int):Rat)=r1 at *
 refine Qf Qj Tryz.func7 rfl Qar1 (by simp[c7]) fun C hP=>?_;simp only[c7];refine Sz0 ?_;refine Qa hP hx rfl rfl rfl ?_;refine Sz0 ?_;refine Qa hP hy rfl rfl rfl ?_;refine Sz0 ?_;refine Qa hP h1 rfl rfl rfl ?_;refine Sz0 ?_;refine Qa hP h2 rfl rfl rfl ?_;refine Sz0 ?_;refine Qcb hP hM Qw0 rfl ?_;refine Vz0 ?_;refine Qa hP h3 rfl rfl rfl ?_;refine Vz0 ?_;refine Qa hP h4 rfl rfl rfl ?_;refine Vz0 ?_;refine Qa hP hof rfl rfl rfl ?_;refine Vz0 ?_;refine Qa hP h5 rfl rfl rfl ?_;refine Vz0 ?_;refine Qa hP h6 rfl rfl rfl ?_;refine Vz0 ?_;refine Qcb hP hR Qw0 rfl ?_;refine Vz0 ?_;refine Qa hP h7 rfl rfl rfl ?_;refine Vz0 ?_;refine Qa hP hof rfl rfl rfl ?_;refine Vz0 ?_;refine Qa hP h5 rfl rfl rfl ?_;refine Vz0 ?_;refine Qa hP h8 rfl rfl rfl ?_;refine Vz0 ?_;exact Qc rfl rfl
abbrev tmL(ls:List (List RTm)):List (List Tm):=ls.map (List.map RTm.tm)
def Qgv(t:RTm):Bool:=decide (t.a.length<=1)&&decide (t.d.length<=1)
def Qpt(ls:List (List RTm))(most:Nat)(deg:Int):Bool:=decide (ls.length<=most)&&ls.all fun l=>Qft 4 3 3 l&&(decide (Qhr (l.map RTm.tm)<=deg)&&l.all Qgv)
theorem Qagv{ls:List (List RTm)}{most:Nat}{deg:Int}(hl:ls.length<=1048576)(hp:∀l∈ls,l.length<=1048576/\∀t∈l,RB 1048576 t)(hm:most<=100):
  Qd Tryz.prog 6 [.sl 1 (ls.map PV.rpoly),.int .i64 most,.int .i64 deg] (· = .bool (Qpt ls most deg)):=by
 refine Qf Qj Tryz.func6 rfl Qar0 (by simp[c6]) fun C hP=>?_;simp only[c6];refine Sz0 ?_;refine Qb (fun h6=>?_) (fun h6=>?_)
 ·refine Sz0 ?_;exact Qc (by rw[Qpt,decide_eq_false (by omega),Bool.false_and]) rfl
 have hF:Qpt ls most deg=ls.all fun l=>Qft 4 3 3 l&&(decide (Qhr (l.map RTm.tm)<=deg)&&l.all Qgv):=by rw[Qpt,decide_eq_true (by omega),Bool.true_and]
 rw[hF];clear hF;refine Sz0 ?_;refine Qy (by repeat (first|exact Qu|exact Qn|exact Qo|exact Qk|exact Qp|apply Qm|apply Qt|apply Qw|apply Q5|apply Q6|apply Qi|apply Qz)) [(6,8),(13,67)] [] (fun m J hp=>∃i,m=ls.length-i/\i<=ls.length/\(∀j (h:j<ls.length),j<i->(Qft 4 3 3 ls[j]&&(decide (Qhr (ls[j].map RTm.tm)<=deg)&&ls[j].all Qgv))=true)/\J 7= .int .i64 (i:Nat)) ls.length ?_ ?_
 ·refine⟨0,rfl,by omega,by omega,?_⟩;refine Sz0 ?_
  try (first|rfl|exact⟨rfl,rfl⟩)
 rintro _ J h ⟨i,rfl,hi,hall,j7⟩;by_cases c1:i<ls.length
 ·have d1:decide ((i:Int)<(ls.length:Int))=true:=decide_eq_true (by omega);obtain⟨b1,b2⟩:=hp _ (List.getElem_mem c1);have hmem:=List.getElem_mem c1;have hsm:=Qze (n:=4) (v:=3) (e:=3) b2 (by omega) (by omega) (by omega:_<2^40);have hadd:(Qft 4 3 3 ls[i]&&(decide (Qhr (ls[i].map RTm.tm)<=deg)&&ls[i].all Qgv))=true->∀j (h:j<ls.length),j<i+1->(Qft 4 3 3 ls[j]&&(decide (Qhr (ls[j].map RTm.tm)<=deg)&&ls[j].all Qgv))=true:=fun h j hj hji=>by
   by_cases e:j=i
   ·subst e;exact h
   ·exact hall j hj (by omega)
  have hbad:(Qft 4 3 3 ls[i]&&(decide (Qhr (ls[i].map RTm.tm)<=deg)&&ls[i].all Qgv))=false->(ls.all fun l=>Qft 4 3 3 l&&(decide (Qhr (l.map RTm.tm)<=deg)&&l.all Qgv))=false:=fun h=>by rw[List.all_eq_false];exact⟨_,hmem,by simp[h]⟩
  generalize hx:ls[i]=x at *
  cases hs:Qft 4 3 3 x
  ·rw[hs]at hsm hbad;refine Sz3 j7 d1 hx ?_;refine Qa hP hsm rfl rfl rfl ?_;refine Sz3 j7 d1 hx ?_;exact Qc (by rw[hbad (by simp)]) rfl
  ·have sp:=Qvu (e:=3) b2 hs;have hdg:=Qxc sp.b (by omega) (by have:=sp.ln;omega);rw[<-sp.eq]at hdg;rw[hs]at hsm;generalize hdx:Qhr (x.map RTm.tm)=dx at *
   rw[hs,Bool.true_and]at hadd hbad;by_cases c2:dx<=deg
   ·have d2:decide (deg<dx)=false:=decide_eq_false (by omega);rw[decide_eq_true c2,Bool.true_and]at hadd hbad;refine Sz3 j7 d1 hx ?_;refine Qa hP hsm rfl rfl rfl ?_;refine Sz3 j7 d1 hx ?_;refine Qa hP hdg rfl rfl rfl ?_;refine Sz4 j7 d1 d2 hx ?_;refine Qy (by repeat (first|exact Qu|exact Qn|exact Qo|exact Qk|exact Qp|apply Qm|apply Qt|apply Qw|apply Q5|apply Q6|apply Qi|apply Qz)) [(6,6),(8,8),(34,67)] [] (fun m J hp=>∃k,m=x.length-k/\k<=x.length/\(∀j (h:j<x.length),j<k->Qgv x[j]=true)/\J 8= .int .i64 (k:Nat)) x.length ?_ ?_
    ·refine⟨0,rfl,by omega,by omega,?_⟩;refine Sz0 ?_
     try (first|rfl|exact⟨rfl,rfl⟩)
    rintro _ J2 h2 ⟨k,rfl,hk,hone,j8⟩;by_cases c3:k<x.length
    ·have d3:decide ((k:Int)<(x.length:Int))=true:=decide_eq_true (by omega);have hmem2:=List.getElem_mem c3;have hbad2:Qgv x[k]=false->x.all Qgv=false:=fun h=>by rw[List.all_eq_false];exact⟨_,hmem2,by simp[h]⟩
     have hadd2:Qgv x[k]=true->∀j (h:j<x.length),j<k+1->Qgv x[j]=true:=fun h j hj hji=>by
      by_cases e:j=k
      ·subst e;exact h
      ·exact hone j hj (by omega)
     generalize hy:x[k]=y at *
     by_cases c4:y.a.length<=1
     ·have q4:decide (1<(y.a.length:Int))=false:=decide_eq_false (by omega);by_cases c5:y.d.length<=1
      ·have q5:decide (1<(y.d.length:Int))=false:=decide_eq_false (by omega);refine Sz7 j7 j8 d3 hx hy q4 q5 ?_;refine Qh (x.length-(k+1)) (by omega) ⟨k+1,rfl,by omega,hadd2 (by rw[Qgv,decide_eq_true c4,decide_eq_true c5];rfl),?_⟩;refine Sz0 ?_
       try trivial
      ·have q5:decide (1<(y.d.length:Int))=true:=decide_eq_true (by omega);refine Sz7 j7 j8 d3 hx hy q4 q5 ?_;exact Qc (by rw[hbad (hbad2 (by rw[Qgv,decide_eq_false c5,Bool.and_false]))]) rfl
     ·have q4:decide (1<(y.a.length:Int))=true:=decide_eq_true (by omega);refine Sz6 j7 j8 d3 hx hy q4 ?_;exact Qc (by rw[hbad (hbad2 (by rw[Qgv,decide_eq_false c4,Bool.false_and]))]) rfl
    ·obtain rfl:k=x.length:=by omega
     have d3:decide ((x.length:Int)<(x.length:Int))=false:=decide_eq_false (by omega);have hx1:x.all Qgv=true:=by rw[List.all_eq_true];intro t ht;obtain⟨j,hj,rfl⟩:=List.getElem_of_mem ht;exact hone j hj hj
     refine Sz4 j7 j8 d3 hx ?_;simp (disch:=decide) only[Qb3,Qfx];refine Qh (ls.length-(i+1)) (by omega) ⟨i+1,rfl,by omega,hadd hx1,?_⟩;refine Sz0 ?_
     try trivial
   ·have d2:decide (deg<dx)=true:=decide_eq_true (by omega);rw[decide_eq_false c2,Bool.false_and]at hbad;refine Sz3 j7 d1 hx ?_;refine Qa hP hsm rfl rfl rfl ?_;refine Sz3 j7 d1 hx ?_;refine Qa hP hdg rfl rfl rfl ?_;refine Sz4 j7 d1 d2 hx ?_;exact Qc (by rw[hbad rfl]) rfl
 ·obtain rfl:i=ls.length:=by omega
  have d1:decide ((ls.length:Int)<(ls.length:Int))=false:=decide_eq_false (by omega);refine Sz2 j7 d1 ?_;refine Qc ?_ rfl;congr 1;symm;rw[List.all_eq_true];intro t ht;obtain⟨j,hj,rfl⟩:=List.getElem_of_mem ht;exact hall j hj hj
structure Few(deg:Int)(p:List Tm):Prop where
 b:PB 2 3 p
 v:PVd p
 l:p.length<=4
 m:ML 3 p
 d:Qhr p<=deg
theorem Qxj{l:List RTm}{deg:Int}{k:Nat}(hb:∀t∈l,RB k t)(h:(Qft 4 3 3 l&&(decide (Qhr (l.map RTm.tm)<=deg)&&l.all Qgv))=true):PV.rpoly l=PV.poly (l.map RTm.tm)/\Few deg (l.map RTm.tm):=by simp only[Bool.and_eq_true,decide_eq_true_eq,List.all_eq_true]at h;obtain⟨h1,h2,h3⟩:=h;have sp:=Qvu (e:=3) hb h1;refine⟨sp.eq,fun t ht=>?_,sp.va,sp.ln,sp.ml,h2⟩;have hbt:=sp.b t ht;obtain⟨x,hx,rfl⟩:=List.mem_map.1 ht;have ho:=h3 x hx;simp only[Qgv,Bool.and_eq_true,decide_eq_true_eq]at ho;have hr:=(show Raw 1 x.n x.a x.d from⟨(hb x hx).r.1,(hb x hx).r.2.1,ho.1,ho.2,by omega⟩).rs;refine⟨?_,hbt.m,hbt.l⟩;show rs (rv x.n x.a x.d)+1<=2;omega
theorem Q4s{ls:List (List RTm)}{most:Nat}{deg:Int}{k:Nat}(hb:∀l∈ls,∀t∈l,RB k t)(h:Qpt ls most deg=true):ls.length<=most/\PV.sl 1 (ls.map PV.rpoly)=PV.polys (tmL ls)/\∀p∈tmL ls,Few deg p:=by
 simp only[Qpt,Bool.and_eq_true,decide_eq_true_eq]at h;obtain⟨h1,h2⟩:=h;rw[List.all_eq_true]at h2;refine⟨h1,?_,fun p hp=>?_⟩
 ·show PV.sl 1 _=PV.sl 1 _;congr 1;rw[List.map_map];exact List.map_congr_left fun l hl=>(Qxj (hb l hl) (by have:=h2 l hl;simpa using this)).1
 ·obtain⟨l,hl,rfl⟩:=List.mem_map.1 hp;exact(Qxj (hb l hl) (by have:=h2 l hl;simpa using this)).2
theorem Few.pvb{deg:Int}{p:List Tm}(h:Few deg p):PVB 2 3 p:=⟨h.b,h.v,by have:=h.l;omega⟩
theorem Few.gi{deg:Int}{p:List Tm}(h:Few deg p)(h0:0<=Q3 p):GI p:=⟨SZ.of h.b h.l,h.b,h.v.nrm,h.l,h.m,h0⟩
theorem Few.pi{deg:Int}{p:List Tm}(h:Few deg p):PI 0 p:=⟨SZ.of h.b h.l,h.v.nrm,by have:=h.l;omega⟩
theorem Qxk:∀ {gs:List (List Tm)} {last:Int},-1<=last->chV last gs=true->∀g∈gs,0<=Q3 g
 | [],_,_,_,g,hg=>by cases hg
 |p::ps,last,hl,h,g,hg=>by
  simp only[chV,Bool.and_eq_true,decide_eq_true_eq]at h;rcases List.mem_cons.1 hg with rfl|hg
  ·omega
  ·exact Qxk (by omega) h.2 g hg
theorem RG.start{p:List Tm}{n:Nat}{deg:Int}(h:Few deg p):RG n n (List.replicate n 0,List.replicate n [],p):=by refine⟨0,by omega,h.pi,fun q hq=>?_⟩;obtain⟨_,rfl⟩:=List.mem_replicate.1 hq;exact⟨⟨⟨1,1,by omega,by omega,by rw[Qex];decide,by rw[Qex];decide,(fun t ht=>by cases ht),by decide+kernel⟩,0,PB.nil _ _⟩,Nrm.nil,by simp⟩
theorem RG.last{gs:List (List Tm)}{m:Nat}(hm:gs.length<=m)(hm3:m<=3)(hg:∀g∈gs,GI g):∀(i:Nat)(s s':RSt),i<=gs.length->RG m i s->Qdt gs Qha i s=some s'->RG m 0 s'/\s'.1.length=s.1.length/\s'.2.1.length=s.2.1.length
 |0,s,s',_,h,he=>by simp only[Qdt,Option.some.injEq]at he;subst he;exact⟨h,rfl,rfl⟩
 | i +1,s,s',hi,h,he=>by
  have hig:i<gs.length:=by omega
  have hgd:gs.getD i []=gs[i]:=by simp[hig]
  rw[Qdt,hgd]at he;cases hs:Qfe gs[i] i (Qha s.2.2 gs[i]) s with
  |none=>rw[hs]at he;cases he
  | some s1=>
   rw[hs]at he;obtain⟨e1,e2,e3⟩:=RG.last hm hm3 hg i s1 s' (by omega) (h.step hm3 (hg _ (List.getElem_mem hig)) hs) he;refine⟨e1,?_⟩;unfold Qfe at hs;split at hs
   ·cases hs
   ·split at hs
    ·cases hs
    ·simp only[Option.some.injEq]at hs;subst hs;simp only[List.length_set,Qc3]at e2 e3;exact⟨e2,e3⟩
theorem Q3b{p:List Tm}{gs:List (List Tm)}(hp:Few 3 p)(hg:∀g∈gs,Few 2 g)(hl:gs.length<=3)(hc:chV (-1) gs=true):
  Qd Tryz.prog 8 [PV.poly p,PV.polys gs] (· =PV.redO (Qdt gs Qha gs.length (List.replicate gs.length 0,List.replicate gs.length [],p)))/\
  Qd Tryz.prog 9 [PV.poly p,PV.polys gs] (· =PV.redO (Qdt gs Qha gs.length (List.replicate gs.length 0,List.replicate gs.length [],p))):=by
 have hpos:=Qxk (by omega) hc;have hGI:∀g∈gs,GI g:=fun g h=>(hg g h).gi (hpos g h);have r1:=Q15 (gs:=gs) (by omega) (fun g h=>(hg g h).pvb) (by omega) (by omega);have r2:=Qv6 (gs:=gs) (by omega) (fun g h=>(hg g h).pvb) (by omega) (by omega);rw[hc]at r1 r2;exact⟨Q13 (G:=RG gs.length) (by omega) (Q16 hp.pvb (by omega)) r1 (RG.start hp) fun i hi s hs=>⟨Qagh hl (hGI _ (List.getElem_mem hi)) hs,fun s' he=>hs.step hl (hGI _ (List.getElem_mem hi)) he⟩,
  Q60 (G:=RG gs.length) (by omega) (Qaau hp.pvb (by omega)) r2 (RG.start hp) fun i hi s hs=>⟨Q62 hl (hGI _ (List.getElem_mem hi)) hs,fun s' he=>hs.step hl (hGI _ (List.getElem_mem hi)) he⟩⟩
def Qh4(gs:List (List Tm))(pw:List Int):Nat->Nat->List Tm
 |_,0=>Qbe 1
 |i,m+1=>Qx (Qax (Qao (gs.getD i [])) (pw.getD i 0).toNat) (Qh4 gs pw (i+1) m)
def Qk2(gs qs:List (List Tm)):Nat->Nat->List Tm
 |_,0=>[]
 |i,m+1=>Q4 (Qx (qs.getD i []) (gs.getD i [])) (Qk2 gs qs (i+1) m)
theorem Qkp{g:List Tm}(h:Nrm g):Nrm (Qao g):=by
 unfold Qao;split
 ·exact h
 ·exact Qb2 h _ _
theorem Qe5{gs:List (List Tm)}(h:∀g∈gs,Nrm g)(i:Nat):Nrm (gs.getD i []):=by
 by_cases hi:i<gs.length
 ·have:gs.getD i []=gs[i]:=by simp[hi]
  rw[this];exact h _ (List.getElem_mem hi)
 ·have:gs.getD i []=[]:=by simp[hi]
  rw[this];exact Nrm.nil
theorem Qro{gs:List (List Tm)}(h:∀g∈gs,Nrm g)(pw:List Int):∀m i,Nrm (Qh4 gs pw i m)
 |0,_=>Qhq 1
 |m+1,i=>Qam (Qeh (Qkp (Qe5 h i)) _).s (Qro h pw m (i+1)).s
theorem Qpu{gs qs:List (List Tm)}(h:∀g∈gs,Nrm g)(hq:∀q∈qs,Nrm q):∀m i,Nrm (Qk2 gs qs i m)
 |0,_=>Nrm.nil
 |m+1,i=>Qbt (Qam (Qe5 hq i).s (Qe5 h i).s) (Qpu h hq m (i+1))
theorem Qs7{gs:List (List Tm)}{pw pw':List Int}:∀m i,(∀k,i<=k->pw'.getD k 0=pw.getD k 0)->Qh4 gs pw' i m=Qh4 gs pw i m
 |0,_,_=>rfl
 |m+1,i,h=>by rw[Qh4,Qh4,h i (Nat.le_refl _),Qs7 m (i+1) fun k hk=>h k (by omega)]
theorem Qaa0{a b c:List Tm}(ha:Nrm a)(hb:Nrm b)(hc:Nrm c):Qx a (Qx b c)=Qx b (Qx a c):=by rw[<-Qhp ha hb hc,Qd9 ha hb,Qhp hb ha hc]
theorem Qv7{a b c:List Tm}(ha:Nrm a)(hb:Nrm b)(hc:Nrm c):Qx a (Q4 b c)=Q4 (Qx a b) (Qx a c):=by rw[Qd9 ha (Qbt hb hc),Qqz hb hc ha,Qd9 hb ha,Qd9 hc ha]
theorem Q65{a:List Tm}(ha:Nrm a):Qx a []=[]:=
 Qfd (Qam ha.s Nrm.nil.s) Nrm.nil fun φ=>by rw[Qc0];simp only[Qcq];exact Qtp _
theorem Qv8{gs qs qs':List (List Tm)}{c:List Tm}(h:∀g∈gs,Nrm g)(hq:∀q∈qs,Nrm q)(hc:Nrm c):∀m i,(∀k,i<=k->k<i+m->qs'.getD k []=Qx (qs.getD k []) c)->Qk2 gs qs' i m=Qx c (Qk2 gs qs i m)
 |0,_,_=>(Q65 hc).symm
 |m+1,i,hk=>by have nq:=Qe5 hq i;have ng:=Qe5 h i;rw[Qk2,Qk2,hk i (Nat.le_refl _) (by omega),Qv8 h hq hc m (i+1) fun k h1 h2=>hk k (by omega) (by omega),Qv7 hc (Qam nq.s ng.s) (Qpu h hq m (i+1)),Qd9 nq hc,Qhp hc nq ng]
structure EqI(gs:List (List Tm))(p:List Tm)(i:Nat)(s:RSt):Prop where
 l1:s.1.length=gs.length
 l2:s.2.1.length=gs.length
 nq:∀q∈s.2.1,Nrm q
 nr:Nrm s.2.2
 eq:Qx p (Qh4 gs s.1 i (gs.length-i))=Q4 s.2.2 (Qk2 gs s.2.1 i (gs.length-i))
 dg:∀k (h:k<gs.length),i<=k->Q8 s.2.2 (Q3 gs[k]).toNat<Q8 gs[k] (Q3 gs[k]).toNat
 pw:∀k (h:k<s.1.length),i<=k->0<=s.1[k]/\s.1[k]<=eJ (gs.length-1-k)+1
theorem EqI.start{gs:List (List Tm)}{p:List Tm}(np:Nrm p):EqI gs p gs.length (List.replicate gs.length 0,List.replicate gs.length [],p):=by refine⟨by simp,by simp,fun q hq=>by obtain⟨_,rfl⟩:=List.mem_replicate.1 hq;exact Nrm.nil,np,?_,fun k h hk=>by omega,fun k h hk=>by simp at h;omega⟩;rw[Nat.sub_self];show Qx p (Qbe 1)=Q4 p [];rw[Qd9 np (Qhq 1),Qtq np,Qcj]
theorem Qale{f g q r:List Tm}{v d n fuel:Nat}(nf:Nrm f)(ng:Nrm g)(hd:Q8 g v=d)(hb:∀k,∃K E,PB K E (dvS g v d f k).2)(hN:f=[]∨Q8 f v<fuel)(he:dvO g v d fuel [] f 0=some (q,r,n)):r=[]∨Q8 r v<d:=by
 obtain⟨e1,e2,_,_⟩:=Qml (f:=f) fuel 0 he (fun h=>absurd h (by omega));have h1:=Qlq g v d fuel [] f 0;rw[he]at h1;rcases Qys nf ng hd hb fuel 0 hN with h2|⟨j,_,_,j3,h2⟩
 ·rw[show(dvS g v d f 0).1=[]from rfl,show(dvS g v d f 0).2=f from rfl,h1]at h2;simp only[PV.dv,PV.tup.injEq,List.cons.injEq,PV.int.injEq]at h2;omega
 ·rw[show(dvS g v d f 0).1=[]from rfl,show(dvS g v d f 0).2=f from rfl,h1]at h2;simp only[PV.dv,PV.tup.injEq,List.cons.injEq,PV.int.injEq]at h2;have:n=j:=by omega
  subst this;rw[e2];exact j3
theorem GI.init{g:List Tm}(h:GI g):Qao g=Qae g (Q3 g).toNat ((Q8 g (Q3 g).toNat).toNat:Nat):=by have hp:=h.p;unfold Qao exi;rw[if_neg (by omega),if_neg (by omega),h.d]
theorem Qagm{f g q r:List Tm}{n j:Nat}(h:GI g)(hf:PI j f)(he:Qha f g=some (q,r,n)):Qx (Qax (Qao g) n) f=Q4 (Qx q g) r/\Q8 r (Q3 g).toNat<Q8 g (Q3 g).toNat:=by
 have hd:=h.d (Q3 g).toNat;have hs:=h.s;obtain⟨e1,e2,e3,_⟩:=Qml (f:=f) _ 0 he (fun h=>absurd h (by omega));refine⟨?_,?_⟩
 ·rw[h.init,e1,e2];exact Qaan hf.n h.n n
 ·have hN:=GI.N (g:=g) hf (Q3 g).toNat;have:=Qale hf.n h.n hd.symm (fun k=>by have:=DV.steps (d:=(Q8 g (Q3 g).toNat).toNat) hf.s hf.n h.s h.n (by have:=h.v;omega:(Q3 g).toNat<64) k;obtain⟨K,hx⟩:=this.xr;exact⟨K,_,hx⟩) (.inr hN.2) he;rcases this with rfl|h2
  ·have:=(Qe1 h.b h.ne (Q3 g).toNat).1;show(-1:Int)<_;omega
  ·omega
theorem Qalf{r g:List Tm}{v n d w:Nat}{B:Int}(hr:∀t∈r,eN t.2 w<=B)(hg:∀t∈g,eN t.2 w<=0)(ng:Nrm g)(nr:Nrm r)(hw:w≠v):∀t∈dvR r g v n d,eN t.2 w<=B:=by
 intro t ht;have hb:=Qfi (Qb2 nr v n) v (n-d);rcases Q1o (Qam (show Qbc (dvB r v n d)from hb.s) ng.s).c ht with⟨s,hs,e⟩|⟨s,hs,e⟩
 ·obtain⟨a,ha,b,hb',e2⟩:=Qic hs;obtain⟨u,hu,_,rfl⟩:=Qfh ha;have h1:=hr b hb';have h2:=hg u hu;rw[<-e,e2,Qc4,Qg9,if_neg hw];omega
 ·obtain⟨a,ha,b,hb',e2⟩:=Qic hs;obtain⟨u,hu,e3⟩:=Qpj (show a∈Qcn (Qae r v n) v (n-d)from ha);obtain⟨x,hx,_,rfl⟩:=Qfh hu;have h1:=hr x hx;have h2:=hg b hb';rw[<-e,e2,Qc4,e3,if_neg hw,Qg9,if_neg hw];omega
theorem Q4t{f g:List Tm}{v d w:Nat}{B:Int}(nf:Nrm f)(ng:Nrm g)(hf:∀t∈f,eN t.2 w<=B)(hg:∀t∈g,eN t.2 w<=0)(hw:w≠v):∀k,∀t∈(dvS g v d f k).2,eN t.2 w<=B
 |0=>hf
 |k+1=>Qalf (Q4t nf ng hf hg hw k) hg ng (Qjq (v:=v) (d:=d) nf ng k).2 hw
theorem Qrp:∀ {gs:List (List Tm)} {last:Int},chV last gs=true->∀i k (hi:i<gs.length) (hk:k<gs.length),i<k->Q3 gs[i]<Q3 gs[k]
 | [],_,_,i,_,hi,_,_=>by simp at hi
 | p ::ps,last,h,i,k,hi,hk,hik=>by
  simp only[chV,Bool.and_eq_true,decide_eq_true_eq]at h
  match k,hk,hik with
  | k +1,hk,hik=>
   match i with
   | 0 =>
    have:∀ {l:List (List Tm)} {a:Int},chV a l=true->∀j (hj:j<l.length),a<Q3 l[j]:=by
     intro l;induction l with
     |nil=>intro a _ j hj;simp at hj
     | cons x l ih=>
      intro a h j hj;simp only[chV,Bool.and_eq_true,decide_eq_true_eq]at h
      match j with
      |0=>exact h.1
      |j+1=>have:=ih h.2 j (by simpa using hj);simp only[List.getElem_cons_succ];omega
    exact this h.2 k (by simpa using hk)
   |i+1=>exact Qrp h.2 i k (by simpa using hi) (by simpa using hk) (by omega)
theorem Qaqp{g:List Tm}{w:Nat}(h:Q3 g<(w:Int)):∀t∈g,eN t.2 w<=0:=fun t ht=>by have:=(Qko g (-1)).2.1 t ht;have h2:(t.2.length:Int)-1<=Q3 g:=this;rw[Qcs (by omega)];omega
theorem EqI.step{gs:List (List Tm)}{p:List Tm}{i m:Nat}{s s':RSt}(np:Nrm p)(hgl:gs.length=m)(hm:m<=3)(hg:∀g∈gs,GI g)(hc:chV (-1) gs=true)(hi:i<gs.length)(hR:RG m (i+1) s)(h:EqI gs p (i+1) s)
  (he:Qfe gs[i] i (Qha s.2.2 gs[i]) s=some s'):EqI gs p i s':=by
 obtain⟨j,hj,hr,hq⟩:=hR;obtain⟨pw,qs,rest⟩:=s;have hgN:∀g∈gs,Nrm g:=fun g h=>(hg g h).n;have hgi:=hg _ (List.getElem_mem hi);have hgd:gs.getD i []=gs[i]:=by simp[hi]
 obtain⟨l1,l2,nq,nr,eq,dg,hpw⟩:=h;simp only at hr hq he l1 l2 nq nr eq dg hpw;cases hd:Qha rest gs[i]with
 |none=>rw[hd]at he;cases he
 | some d=>
  obtain⟨q,r,n⟩:=d;obtain⟨d1,d2,d3⟩:=Qf4 hgi hr hd;obtain⟨d4,d5⟩:=Qagm hgi hr hd;rw[hd]at he;unfold Qfe at he;simp only at he;split at he
  ·cases he
  ·simp only[Option.some.injEq]at he;subst he;have hpN:Nrm (Qax (Qao gs[i]) n):=Qeh (Qkp hgi.n) n;have nqs:∀x∈(Qb8 i qs.length (Qax (Qao gs[i]) n) qs).set i q,Nrm x:=fun x hx=>by
    rcases List.mem_or_eq_of_mem_set hx with hx|rfl
    ·obtain⟨k,hk,rfl⟩:=List.getElem_of_mem hx;rw[Qfj];have hkq:k<qs.length:=by rw[Qc3]at hk;exact hk
     have hmem:qs.getD k []∈qs:=by simp[hkq]
     split
     ·exact Qam (nq _ hmem).s hpN.s
     ·exact nq _ hmem
    ·exact d1.n
   refine⟨by simp[l1],by simp[Qc3,l2],nqs,d2.n,?_,fun k hk hik=>?_,fun k hk hik=>?_⟩
   ·simp only;obtain⟨M,hM⟩:∃M,gs.length-i=M+1:=⟨gs.length-i-1,by omega⟩
    have hM2:gs.length-(i+1)=M:=by omega
    rw[hM2]at eq;rw[hM,Qh4,Qk2,hgd];have hpi:(pw.set i (n:Int)).getD i 0=(n:Int):=by simp[l1,hi]
    have hqi:((Qb8 i qs.length (Qax (Qao gs[i]) n) qs).set i q).getD i []=q:=by simp[Qc3,l2,hi]
    rw[hpi,hqi,Int.toNat_natCast,Qs7 (pw:=pw) M (i+1) (fun k hk=>by simp[List.getElem?_set,show ¬i=k by omega])];have hsc:=Qv8 (gs:=gs) (qs:=qs) (qs':=(Qb8 i qs.length (Qax (Qao gs[i]) n) qs).set i q) hgN nq hpN M (i+1) (fun k hk1 hk2=>by
     have hkl:k<(Qb8 i qs.length (Qax (Qao gs[i]) n) qs).length:=by rw[Qc3];omega
     have:((Qb8 i qs.length (Qax (Qao gs[i]) n) qs).set i q).getD k []=(Qb8 i qs.length (Qax (Qao gs[i]) n) qs)[k]:=by rw[List.getD_eq_getElem?_getD,List.getElem?_set_ne (by omega),List.getElem?_eq_getElem hkl];rfl
     rw[this,Qfj,if_pos (by rw[Qc3]at hkl;omega)])
    rw[hsc];have nC:=Qro hgN pw M (i+1);have nS:=Qpu hgN nq M (i+1);rw[Qaa0 np hpN nC,eq,Qv7 hpN nr nS,d4,Q9t (Qam d1.n.s hgi.n.s) d2.n,Qvf d2.n (Qam d1.n.s hgi.n.s) (Qam hpN.s nS.s)]
   ·simp only;by_cases e:k=i
    ·subst e;exact d5
    ·have hlt:=Qrp hc i k hi hk (by omega);have h0:=hgi.p;have hgk:=hg _ (List.getElem_mem hk);have hk1:=dg k hk (by omega);have hle:∀t∈r,eN t.2 (Q3 gs[k]).toNat<=Q8 rest (Q3 gs[k]).toNat:=by unfold Qha at hd;obtain⟨_,e2,_,_⟩:=Qml (f:=rest) _ 0 hd (fun h=>absurd h (by omega));rw[e2];exact Q4t nr hgi.n (fun t ht=>(Qkm rest _).2.1 t ht) (Qaqp (by omega)) (by omega) n
     have hge:=(Qe1 hgk.b hgk.ne (Q3 gs[k]).toNat).1;exact Q39 (fun t ht=>by have:=hle t ht;omega) hge
   ·simp only at hk⊢;rw[List.length_set]at hk;rw[List.getElem_set];by_cases e:i=k
    ·subst e;rw[if_pos rfl];have e2:gs.length-1-i=j:=by omega
     rw[e2];omega
    ·rw[if_neg e];exact hpw k hk (by omega)
theorem EqI.last{gs:List (List Tm)}{p:List Tm}{m:Nat}(np:Nrm p)(hgl:gs.length=m)(hm:m<=3)(hg:∀g∈gs,GI g)(hc:chV (-1) gs=true):∀(i:Nat)(s s':RSt),i<=gs.length->RG m i s->EqI gs p i s->Qdt gs Qha i s=some s'->EqI gs p 0 s'
 |0,s,s',_,_,h,he=>by simp only[Qdt,Option.some.injEq]at he;subst he;exact h
 | i+1,s,s',hi,hR,h,he=>by
  have hig:i<gs.length:=by omega
  have hgd:gs.getD i []=gs[i]:=by simp[hig]
  rw[Qdt,hgd]at he;cases hs:Qfe gs[i] i (Qha s.2.2 gs[i]) s with
  |none=>rw[hs]at he;cases he
  |some s1=>rw[hs]at he;exact EqI.last np hgl hm hg hc i s1 s' (by omega) (hR.step hm (hg _ (List.getElem_mem hig)) hs) (EqI.step np hgl hm hg hc hig hR h hs) he
def Qd4(gs:List (List Tm))(pw:List Int)(p:List Tm):Nat->List Tm
 |0=>p
 |j+1=>Qx (Qd4 gs pw p j) (Qax (Qao (gs.getD j [])) (pw.getD j 0).toNat)
def Qde(gs qs:List (List Tm))(r:List Tm):Nat->List Tm
 |0=>r
 |j+1=>Q4 (Qde gs qs r j) (Qx (qs.getD j []) (gs.getD j []))
theorem Qm7{gs:List (List Tm)}(h:∀g∈gs,Nrm g){pw:List Int}{p:List Tm}(np:Nrm p):∀j,Nrm (Qd4 gs pw p j)
 |0=>np
 |j+1=>Qam (Qm7 h np j).s (Qeh (Qkp (Qe5 h j)) _).s
theorem Qv9{gs qs:List (List Tm)}(h:∀g∈gs,Nrm g)(hq:∀q∈qs,Nrm q){r:List Tm}(nr:Nrm r):∀j,Nrm (Qde gs qs r j)
 |0=>nr
 |j+1=>Qbt (Qv9 h hq nr j) (Qam (Qe5 hq j).s (Qe5 h j).s)
theorem Q17{gs:List (List Tm)}(h:∀g∈gs,Nrm g){pw:List Int}{p:List Tm}(np:Nrm p)(n:Nat):∀j,j<=n->Qx (Qd4 gs pw p j) (Qh4 gs pw j (n-j))=Qx p (Qh4 gs pw 0 n)
 |0,_=>rfl
 |j+1,hj=>by rw[<-Q17 h np n j (by omega),show n-j=(n-(j+1))+1 by omega,Qh4,Qd4,Qhp (Qm7 h np j) (Qeh (Qkp (Qe5 h j)) _) (Qro h pw _ _)]
theorem Qyx{gs qs:List (List Tm)}(h:∀g∈gs,Nrm g)(hq:∀q∈qs,Nrm q){r:List Tm}(nr:Nrm r)(n:Nat):∀j,j<=n->Q4 (Qde gs qs r j) (Qk2 gs qs j (n-j))=Q4 r (Qk2 gs qs 0 n)
 |0,_=>rfl
 |j+1,hj=>by rw[<-Qyx h hq nr n j (by omega),show n-j=(n-(j+1))+1 by omega,Qk2,Qde,Qvf (Qv9 h hq nr j) (Qam (Qe5 hq j).s (Qe5 h j).s) (Qpu h hq _ _)]
theorem EqI.sides{gs:List (List Tm)}{p:List Tm}{s:RSt}(np:Nrm p)(hg:∀g∈gs,Nrm g)(h:EqI gs p 0 s):Qd4 gs s.1 p gs.length=Qde gs s.2.1 s.2.2 gs.length:=by
 have e1:=Q17 hg (pw:=s.1) np gs.length gs.length (Nat.le_refl _);have e2:=Qyx hg h.nq h.nr gs.length gs.length (Nat.le_refl _);rw[Nat.sub_self]at e1 e2;have n1:=Qm7 hg (pw:=s.1) np gs.length;have e3:Qx (Qd4 gs s.1 p gs.length) (Qh4 gs s.1 gs.length 0)=Qd4 gs s.1 p gs.length:=by show Qx _ (Qbe 1)=_;rw[Qd9 n1 (Qhq 1),Qtq n1]
 have e4:Q4 (Qde gs s.2.1 s.2.2 gs.length) (Qk2 gs s.2.1 gs.length 0)=Qde gs s.2.1 s.2.2 gs.length:=Qcj _;have e5:=h.eq;rw[Nat.sub_zero]at e5;rw[<-e3,<-e4,e1,e2,e5]
theorem Qagn{g:List Tm}(h:GI g):exi (Q3 g)=(Q3 g).toNat:=by have:=h.p;unfold exi;rw[if_neg (by omega)]
theorem Qalg{gs:List (List Tm)}(hl:gs.length<=3)(hg:∀g∈gs,GI g)(hc:chV (-1) gs=true)(k:Nat)(hk:k<gs.length):(Q3 gs[k]).toNat+(gs.length-1-k)<=2:=by
 have hv:∀i (hi:i<gs.length),0<=Q3 gs[i]/\Q3 gs[i]<=2:=fun i hi=>by have:=(hg _ (List.getElem_mem hi)).v;have:=(hg _ (List.getElem_mem hi)).p;omega
 have h0:=hv k hk;have:gs.length-1-k=0∨gs.length-1-k=1∨gs.length-1-k=2:=by omega
 rcases this with e|e|e
 ·omega
 ·have h1:=Qrp hc k (k+1) hk (by omega) (by omega);have h2:=hv (k+1) (by omega);omega
 ·have h1:=Qrp hc k (k+1) hk (by omega) (by omega);have h2:=Qrp hc (k+1) (k+2) (by omega) (by omega) (by omega);have h3:=hv (k+2) (by omega);omega
theorem GI.ml{g:List Tm}(h:GI g):ML (Q3 g).toNat (Qao g):=by rw[h.init];have hp:=h.p;refine ML.top h.b (fun t ht=>?_) _;have:=(Qko g (-1)).2.1 t ht;have h2:(t.2.length:Int)-1<=Q3 g:=this;omega
theorem Qaqq{g:List Tm}(h:GI g){n j:Nat}(hn:n<=eJ j+1)(hj:(Q3 g).toNat+j<=2):(Qax (Qao g) n).length<=169:=by
 have h1:=(Q61 h n).PB;have h2:=Qnp h1 (Qeh (Qkp h.n) n) (h.ml.ppow n);have key:∀E w:Nat,(w=0∨(w=1/\E<=48)∨(w=2/\E<=12))->(E+1)^w<=169:=fun E w hw=>by
  rcases hw with rfl|⟨rfl,hE⟩|⟨rfl,hE⟩
  ·simp
  ·simp;omega
  ·have:=Nat.pow_le_pow_left (show E+1<=13 by omega) 2;omega
 refine Nat.le_trans h2 (key _ _ ?_);have:j=0∨j=1∨j=2:=by omega
 rcases this with rfl|rfl|rfl
 ·have e:eJ 0=3:=rfl;rw[e]at hn;omega
 ·have e:eJ 1=15:=rfl;rw[e]at hn;omega
 ·omega
theorem Q18{gs:List (List Tm)}(hg:∀g∈gs,GI g){pw:List Int}{p:List Tm}(hp:SZ 9 8 3 p)(hm:ML 3 p)(hpw:∀k,k<gs.length->(pw.getD k 0).toNat<=64):∀j,j<=gs.length->SZ (9+j*577) (8+j*513) (3+j*192) (Qd4 gs pw p j)/\ML 3 (Qd4 gs pw p j)
 |0,_=>by simp only[Nat.zero_mul,Nat.add_zero];exact⟨hp,hm⟩
 | j+1,hj=>by
  obtain⟨h1,h2⟩:=Q18 hg hp hm hpw j (by omega);have hjl:j<gs.length:=by omega
  have hgd:gs.getD j []=gs[j]:=by simp[hjl]
  have hgj:=hg _ (List.getElem_mem hjl);have hn:=hpw j hjl;have h3:=(Q61 hgj (pw.getD j 0).toNat).mono (a':=577) (b':=513) (E':=192) (by omega) (by omega) (by omega);have h4:ML 3 (Qax (Qao gs[j]) (pw.getD j 0).toNat):=fun t ht=>by have:=hgj.ml.ppow _ t ht;have:=hgj.v.2;omega
  rw[Qd4,hgd];refine⟨(h1.pmul h3).mono (by omega) (by omega) (by omega),h2.pmul h4⟩
theorem Qyy{gs qs:List (List Tm)}(hg:∀g∈gs,GI g)(hq:∀q∈qs,PB 2600 255 q/\q.length<=4000){r:List Tm}(hr:PB 2600 255 r/\r.length<=4000)(hl:qs.length=gs.length):∀j,j<=gs.length->PB (2600+j*10408) 258 (Qde gs qs r j)/\(Qde gs qs r j).length<=4000+j*16000
 |0,_=>⟨hr.1.mono (by omega) (by omega),by rw[Qde];omega⟩
 |j+1,hj=>by
  obtain⟨h1,h2⟩:=Qyy hg hq hr hl j (by omega);have hjl:j<gs.length:=by omega
  have hgd:gs.getD j []=gs[j]:=by simp[hjl]
  have hqd:qs.getD j []=qs[j]:=by simp[show j<qs.length by omega]
  have hgj:=hg _ (List.getElem_mem hjl);obtain⟨k1,k2⟩:=hq _ (List.getElem_mem (show j<qs.length by omega));obtain⟨m1,m2⟩:=Qfg k1 hgj.b;have e1:min qs[j].length gs[j].length*(2600+2)<=4*(2600+2):=Nat.mul_le_mul_right _ (by have:=hgj.l;omega);have e2:qs[j].length*gs[j].length<=4000*4:=Nat.mul_le_mul k2 hgj.l;have h3:=Qhm _ _ h1 (m1.mono (show _<=10408 by omega) (show 255+3<=258 by omega));have h4:=Qeo (Qde gs qs r j) (Qx qs[j] gs[j]);rw[Qde,hgd,hqd];exact⟨h3.mono (by omega) (by omega),by omega⟩
set_option maxHeartbeats 1000000 in
theorem Qzh{lp:List RTm}{ls:List (List RTm)}(hp0:lp.length<=1048576/\∀t∈lp,RB 1048576 t)(hl:ls.length<=1048576)(hp:∀l∈ls,l.length<=1048576/\∀t∈l,RB 1048576 t):
  Qd Tryz.prog 4 [PV.rpoly lp,.sl 1 (ls.map PV.rpoly)] (· = .bool true):=by
 have hal:=Qald;have hf1:=Qagv (ls:=[lp]) (most:=1) (deg:=3) (by simp) (fun l h=>by rw[List.mem_singleton.1 h];exact hp0) (by omega);have hf2:=Qagv (ls:=ls) (most:=3) (deg:=2) hl hp (by omega);rw[List.map_cons,List.map_nil]at hf1;refine Qf Qj Tryz.func4 rfl Qar2 (by simp[c4]) fun C hP=>?_;simp only[c4];refine Sz0 ?_;cases h1:Qpt [lp] 1 3
 ·rw[h1]at hf1;refine Qcb hP hf1 Qw0 rfl ?_;refine Vz0 ?_;refine Qa hP hal rfl rfl rfl ?_;refine Sz0 ?_;exact Qc rfl rfl
 rw[h1]at hf1;refine Qcb hP hf1 Qw0 rfl ?_;refine Vz0 ?_;cases h2:Qpt ls 3 2
 ·rw[h2]at hf2;refine Qa hP hf2 rfl rfl rfl ?_;refine Vz0 ?_;refine Qa hP hal rfl rfl rfl ?_;refine Sz0 ?_;exact Qc rfl rfl
 rw[h2]at hf2;obtain⟨_,g2,g3⟩:=Q4s (k:=1048576) (ls:=[lp]) (fun l h=>by rw[List.mem_singleton.1 h];exact hp0.2) h1;obtain⟨k1,k2,k3⟩:=Q4s (fun l h=>(hp l h).2) h2;have hF:Few 3 (lp.map RTm.tm):=g3 _ (by simp);have hpe:PV.rpoly lp=PV.poly (lp.map RTm.tm):=by simp only[Qpt,Bool.and_eq_true,decide_eq_true_eq,List.all_cons,List.all_nil,Bool.and_true]at h1;exact(Qxj hp0.2 (by simpa using h1.2)).1
 have hgl:(tmL ls).length<=3:=by simpa using k1
 have hll:ls.length=(tmL ls).length:=by simp
 have hRr:=Qv6 (gs:=tmL ls) (by omega) (fun g h=>(k3 g h).pvb) (by omega) (by omega);rw[<-k2]at hRr;refine Qa hP hf2 rfl rfl rfl ?_;refine Vz0 ?_;cases hc:chV (-1) (tmL ls)
 ·rw[hc]at hRr;refine Qa hP hRr rfl rfl rfl ?_;refine Vz0 ?_;refine Qa hP hal rfl rfl rfl ?_;refine Sz0 ?_;exact Qc rfl rfl
 rw[hc]at hRr;refine Qa hP hRr rfl rfl rfl ?_;have hGI:∀g∈tmL ls,GI g:=fun g h=>(k3 g h).gi (Qxk (by omega) hc g h);obtain⟨r1,_⟩:=Q3b hF k3 hgl hc;rw[<-k2,<-hpe]at r1;cases hre:Qdt (tmL ls) Qha (tmL ls).length (List.replicate (tmL ls).length 0,List.replicate (tmL ls).length [],lp.map RTm.tm)with
 |none=>rw[hre]at r1;refine Vz0 ?_;refine Qa hP r1 rfl rfl rfl ?_;rw[PV.redO];refine Vz0 ?_;refine Qa hP hal rfl rfl rfl ?_;refine Sz0 ?_;exact Qc rfl rfl
 | some s=>
  rw[hre]at r1;obtain⟨⟨j0,hj0,hrr,hrq⟩,sl1,sl2⟩:=RG.last (Nat.le_refl _) hgl hGI _ _ _ (Nat.le_refl _) (RG.start hF) hre;have hEq:=EqI.last hF.v.nrm rfl hgl hGI hc _ _ _ (Nat.le_refl _) (RG.start hF) (EqI.start hF.v.nrm) hre;have hsides:=hEq.sides hF.v.nrm (fun g h=>(hGI g h).n);have hpw64:∀k,k<(tmL ls).length->(s.1.getD k 0).toNat<=eJ ((tmL ls).length-1-k)+1/\(((s.1.getD k 0).toNat:Nat):Int)=s.1.getD k 0:=fun k hk=>by
   have hk2:k<s.1.length:=by have:=hEq.l1;omega
   have:=hEq.pw k hk2 (Nat.zero_le _);have e:s.1.getD k 0=s.1[k]:=by simp[hk2]
   rw[e];omega
  have hJm:∀k,k<(tmL ls).length->eJ ((tmL ls).length-1-k)<=63:=fun k hk=>(J_lt (by omega)).1;have hLS:=Q18 hGI (pw:=s.1) (SZ.of hF.b hF.l) hF.m (fun k hk=>by have:=(hpw64 k hk).1;have:=hJm k hk;omega);have hRP:=Qyy hGI (qs:=s.2.1) (r:=s.2.2) (fun q h=>⟨(hrq q h).pb (by omega),(hrq q h).l⟩) ⟨hrr.pb (by omega),hrr.l⟩ hEq.l2;have hLN:=Qm7 (fun g h=>(hGI g h).n) (pw:=s.1) hF.v.nrm;have hdg:=hEq.dg;have hl1:=hEq.l1;have hl2:=hEq.l2;have hrb:=hrr.pb (by omega:j0<=3);have hrl:=hrr.l;have hqb:∀q∈s.2.1,PB 2600 255 q/\q.length<=4000:=fun q h=>⟨(hrq q h).pb (by omega),(hrq q h).l⟩
  have hmn:=Qalg hgl hGI hc;clear hEq hrq hrr hre;obtain⟨pw,qs,rest⟩:=s;simp only at hsides hpw64 hLS hRP hLN hdg hl1 hl2 hrb hrl hqb;rw[k2,hpe]at *
  generalize hpp:lp.map RTm.tm=p at *
  generalize hgs:tmL ls=gs at *
  refine Vz0 ?_;refine Qa hP r1 rfl rfl rfl ?_;rw[PV.redO];have q1:decide ((pw.length:Int)=(gs.length:Int))=true:=decide_eq_true (by omega);have q2:decide ((qs.length:Int)=(gs.length:Int))=true:=decide_eq_true (by omega);refine Vz4 q1 q2 hl1 hl2 ?_;refine Qy (by repeat (first|exact Qu|exact Qn|exact Qo|exact Qk|exact Qp|apply Qm|apply Qt|apply Qw|apply Q5|apply Q6|apply Qi|apply Qz)) [(4,4),(7,10),(56,116)] [] (fun m J hp=>∃i,m=gs.length-i/\i<=gs.length/\J 7=PV.poly (Qd4 gs pw p i)/\J 8=PV.poly (Qde gs qs rest i)/\J 9= .int .i64 (i:Nat)/\hp 5=some ⟨3,29,[PV.redn (pw,qs,rest)],false⟩) gs.length ?_ ?_
  ·refine⟨0,rfl,by omega,?_⟩;refine Sz0 ?_
   try (first|trivial|exact⟨rfl,rfl⟩|exact⟨rfl,rfl,rfl⟩|exact⟨rfl,rfl,rfl,rfl⟩)
  rintro _ J h ⟨i,rfl,hi,j7,j8,j9,b5⟩;obtain⟨L1,L2⟩:=hLS i hi;obtain⟨R1,R2⟩:=hRP i hi;have L3:=hLN i;have L4:=L1.PB;have L5:=Qnp L4 L3 L2;have L6:(Qd4 gs pw p i).length<=580^3:=Nat.le_trans L5 (Nat.pow_le_pow_left (by omega) 3);have e580:580^3=195112000:=by decide
  by_cases c1:i<gs.length
  ·have d1:decide ((i:Int)<(gs.length:Int))=true:=decide_eq_true (by omega);have hgi:=hGI _ (List.getElem_mem c1);have hgd:gs.getD i []=gs[i]:=by simp[c1]
   have hqd:qs.getD i []=qs[i]:=by simp[show i<qs.length by omega]
   obtain⟨w1,w2⟩:=hpw64 i c1;have w3:=hJm i c1;have hpi:pw[i]'(by omega)=(((pw.getD i 0).toNat:Nat):Int):=by rw[w2];simp[show i<pw.length by omega]
   have hmi:=hmn i c1;obtain⟨u1,u2,u3,u4⟩:=Qm6 hgi (n:=(pw.getD i 0).toNat) (by omega);obtain⟨u5,_⟩:=u4 _ (Nat.le_refl _);have u6:=Qaqq hgi w1 hmi;have hIn:=Qm5 hgi.b hgi.n (by have:=hgi.l;omega) (by omega) (by omega);have hPw:=Qyw (p:=Qao gs[i]) (n:=(pw.getD i 0).toNat) (K:=1900) (E:=192) (L:=37249) (by omega) (u1.mono (by omega) (by omega)) u2 u4 (by omega) (by omega) (by omega) (by omega);have m1:(Qd4 gs pw p i).length*(Qax (Qao gs[i]) (pw.getD i 0).toNat).length<=580^3*169:=Nat.mul_le_mul L6 u6;have m2:min (Qd4 gs pw p i).length (Qax (Qao gs[i]) (pw.getD i 0).toNat).length*(10000+10000)<=169*(10000+10000):=Nat.mul_le_mul_right _ (by omega);have hMl:=Qd2 (p:=Qd4 gs pw p i) (q:=Qax (Qao gs[i]) (pw.getD i 0).toNat) (K:=10000) (E:=1000) (L4.mono (by omega) (by omega)) (u5.mono (by omega) (by omega)) (by omega) (by omega) (by omega) (by omega) (by omega) (by omega);obtain⟨v1,v2⟩:=hqb _ (List.getElem_mem (show i<qs.length by omega));have m3:qs[i].length*gs[i].length<=4000*4:=Nat.mul_le_mul v2 hgi.l;have m4:min qs[i].length gs[i].length*(2600+2600)<=4*(2600+2600):=Nat.mul_le_mul_right _ (by have:=hgi.l;omega);have hM2:=Qd2 (p:=qs[i]) (q:=gs[i]) (K:=2600) (E:=255) v1 (hgi.b.mono (by omega) (by omega)) (by omega) (by omega) (by have:=hgi.l;omega) (by omega) (by omega) (by omega);obtain⟨x1,x2⟩:=Qfg v1 hgi.b;have m5:min qs[i].length gs[i].length*(2600+2)<=4*(2600+2):=Nat.mul_le_mul_right _ (by have:=hgi.l;omega);have hAd:=Qle (p:=Qde gs qs rest i) (q:=Qx qs[i] gs[i]) (K:=40000) (E:=258) (R1.mono (by omega) (by omega)) (x1.mono (by omega) (by omega)) (by omega) (by omega) (by omega) (by omega);have hMn:=Qea hgi.b (by have:=hgi.l;omega);have hD1:=Qce (p:=rest) (v:=Q3 gs[i]) hrb (by omega);have hD2:=Qce (p:=gs[i]) (v:=Q3 gs[i]) hgi.b (by have:=hgi.l;omega);rw[Qagn hgi]at hD1 hD2;have hd:=hdg i c1 (Nat.zero_le _);have hlf:Qd4 gs pw p (i+1)=Qx (Qd4 gs pw p i) (Qax (Qao gs[i]) (pw.getD i 0).toNat):=by rw[Qd4,hgd]
   have hrf:Qde gs qs rest (i+1)=Q4 (Qde gs qs rest i) (Qx qs[i] gs[i]):=by rw[Qde,hgd,hqd]
   generalize Qd4 gs pw p i=lf at *
   generalize Qde gs qs rest i=rf at *
   generalize hnn:(pw.getD i 0).toNat=nn at *
   generalize hqx:qs[i]=qx at *
   generalize hgx:gs[i]=gx at *
   generalize Qao gx=px at *
   generalize Qax px nn=cx at *
   generalize Q8 rest (Q3 gx).toNat=da at *
   generalize Q8 gx (Q3 gx).toNat=db at *
   have q3:decide ((nn:Int)<0)=false:=decide_eq_false (by omega);have q4:decide ((1000:Int)<(nn:Int))=false:=decide_eq_false (by omega);have q5:decide (db<=da)=false:=decide_eq_false (by omega);refine Qkz j7 j8 j9 b5 d1 hpi q3 q4 hgx hqx ?_;refine Qa hP hIn rfl rfl rfl ?_;refine Qkz j7 j8 j9 b5 d1 hpi q3 q4 hgx hqx ?_;refine Qa hP hPw rfl rfl rfl ?_;refine Qkz j7 j8 j9 b5 d1 hpi q3 q4 hgx hqx ?_;refine Qa hP hMl rfl rfl rfl ?_;refine Qkz j7 j8 j9 b5 d1 hpi q3 q4 hgx hqx ?_;refine Qa hP hM2 rfl rfl rfl ?_;refine Qkz j7 j8 j9 b5 d1 hpi q3 q4 hgx hqx ?_;refine Qa hP hAd rfl rfl rfl ?_;refine Qkz j7 j8 j9 b5 d1 hpi q3 q4 hgx hqx ?_;refine Qa hP hMn rfl rfl rfl ?_;refine Qkz j7 j8 j9 b5 d1 hpi q3 q4 hgx hqx ?_;refine Qa hP hD1 rfl rfl rfl ?_;refine Qkz j7 j8 j9 b5 d1 hpi q3 q4 hgx hqx ?_;refine Qa hP hD2 rfl rfl rfl ?_;refine Sz11 j7 j8 j9 b5 d1 hpi q3 q4 hgx hqx q5 ?_;refine Qh (gs.length-(i+1)) (by omega) ⟨i+1,rfl,by omega,?_⟩;rw[hlf,hrf];refine Sz1 b5 ?_
   try (first|trivial|exact⟨rfl,rfl⟩|exact⟨rfl,rfl,rfl⟩)
  ·obtain rfl:i=gs.length:=by omega
   have d1:decide ((gs.length:Int)<(gs.length:Int))=false:=decide_eq_false (by omega);have hE:=Q1e (p:=Qd4 gs pw p gs.length) (q:=Qde gs qs rest gs.length) (K:=40000) (E:=1000) (L4.mono (by omega) (by omega)) (R1.mono (by omega) (by omega)) (by omega) (by omega) (by omega) (by omega);rw[decide_eq_true hsides]at hE;generalize Qd4 gs pw p gs.length=lf at *
   generalize Qde gs qs rest gs.length=rf at *
   refine Sz5 j7 j8 j9 b5 d1 ?_;refine Qa hP hE rfl rfl rfl ?_;refine Sz0 ?_;refine Qa hP hal rfl rfl rfl ?_;refine Sz0 ?_;exact Qc rfl rfl
open Go Go.FW Go.ChangeShapes Go.WideShapes Go.ChangeAt Go.RowKit
theorem Qkq(H:Type)(enc:TypeId×Value->H)(W:World)(base:Nat)(args:Array Value)(ds gs:List (DataW H))(before:List MemPlace)
  (Qdy:∀(j:Nat) t v,Tryz.f4.params[j]? =some t->args[j]? =some v->Value.okWide Tryz.prog W .any base t v)
  (hW:DataW.Whole enc Tryz.prog Tryz.f4.params.toList Rows.triangularEquationSpec.vars false W args.toList ds gs before) (hk:Rows.uptoSmall H (ds++gs)=true):
  Calls Tryz.prog 4 args W fun e W'=>∃v,e= .returned v/\Rows.triangularEquationSpec.post enc Tryz.prog Tryz.f4 false true false false W args v W':=by
 have hW':=hW;obtain⟨p,q,hA0,hV,rfl,hfz,hnd⟩:=hW;have hA:DataW.TrodAll enc Tryz.prog W 0 (fun _=>true) true Tryz.f4.params.toList args.toList ds p:=hA0;rw[Tryz.params4]at hA Qdy;obtain⟨v0,vs0,e0,ds0,p0,q0,hargs,rfl,rfl,h0,r0⟩:=trodAll_cons hA;obtain⟨v1,vs1,e1,ds1,p1,q1,rfl,rfl,rfl,h1,r1⟩:=trodAll_cons r0;obtain⟨rfl,rfl,rfl⟩:=trodAll_nil r1;obtain rfl:args= #[v0,v1]:=by cases args;simp_all
 obtain⟨rfl,rfl⟩:=trodVars_none hV;have hb:=Qaft hk;simp only[List.append_nil,Rows.uptoBulkAll]at hb;obtain⟨a0,g0,b0⟩:=Qafv (Qdy 0 _ v0 rfl rfl) h0 (by omega);obtain⟨a1,g1,b1⟩:=Qaaj (Qdy 1 _ v1 rfl rfl) h1 (by omega);exact Qaak hW' rfl (by kernel_rfl) (by kernel_rfl) rfl (Qzh ⟨b0.1,fun t ht=>(b0.2 t ht).1⟩ b1.1 fun l hl=>⟨(b1.2 l hl).1,fun t ht=>((b1.2 l hl).2 t ht).1⟩) rfl
  (Qafw (vs:=[v0,v1]) (by
   intro i x hx v hv
   match i,hx,hv with
   |0,hx,hv=>simp at hx hv;subst hx hv;exact g0
   |1,hx,hv=>simp at hx hv;subst hx hv;exact g1
   |i+2,hx,hv=>simp at hx) rfl)
theorem Qlj(os:Os)(started:os.Started)(H:Type)(enc:TypeId×Value->H)(F:Stop.Interp):
  ReturnsInHanded {} Tryz.checked os 4 .any ((Rows.OpenSpec.upto Rows.triangularEquationSpec).pre6 enc Tryz.prog Tryz.f4 Rows.triangularEquationUptoRow.domain false) (((Rows.OpenSpec.upto Rows.triangularEquationSpec).at F).post enc Tryz.prog Tryz.f4 false true false false):=by
 refine returnsInHanded_of_cond (C:=Tryz.checked) (s:=Rows.OpenSpec.upto Rows.triangularEquationSpec) (k:=Rows.uptoSmall) rfl own started (by kernel_rfl) Tryz.func4
  (OpenSpec.witness (enc:=enc) (C:=Tryz.checked) (s:=Rows.OpenSpec.upto Rows.triangularEquationSpec) (k:=Rows.uptoSmall) rfl false ⟨#[],#[.slice none 0 0,.slice none 0 0],[]⟩ 8 (by kernel_rfl) (by kernel_rfl) (by kernel_rfl)
   (x:=([.nil,.nil],[],[])) (by kernel_rfl) rfl (by kernel_rfl)) ?_
 intro W base args ds gs before Qdy hW _ hk _;exact Qkq H enc W base args ds gs before Qdy hW hk
theorem triangularEquation_proved:Rows.TriangularEquationUptoSaid:=
 OpenClaim.holds_of_cond 4 Tryz.f4 rfl rfl rfl rfl rfl rfl rfl ⟨rfl,rfl,rfl,rfl,rfl⟩ rfl rfl rfl rfl rfl (by kernel_rfl) Tryz.func4 (by kernel_rfl)
  (of_decide_eq_true (by kernel_rfl)) (by unfold Func.isWrapper;first|(rw[if_pos (by decide+kernel)];kernel_rfl)|(rw[if_neg (by decide+kernel)];exact⟨rfl,rfl⟩))
  (fun os started H enc _ F=>Qlj os started H enc F)
end Go.Proofs.YtdaldpkjhcfblaaGreat
