/- Part 10 of the proof of InequalityPolys: K5, K6, K1, K3, K7, K8, K10, K11, K12, K13, K14, L11, IA0, FwYK. Own lemmas; no conditions. -/
import Derived.Test.YtikalonaompbdaaGreatInequalityPolysPart9
set_option maxHeartbeats 1000000
set_option linter.all false
set_option maxRecDepth 100000
namespace Go.Proofs.YtikalonaompbdaaGreat
open Go.Proofs.Tryz
open Go Go.FW
variable{E K T:Nat}{p q:List Tm}
def wX(hp:PQ T K E p)(hq:PQ T K E q)(hT:T<=2^30)(hK:K+2<=2^31)(hE:E<=2^38):AC 95 [PV.aC p,PV.aC q] (· =PV.aC (bX p q)):=
 Q87 (K:=K+2) (hp.mono (Kag _) Oz (Kag _)).b (hq.mono (Kag _) Oz (Kag _)).b hq.n.z Oz Oz hE (by have:=hp.l;omega) (by have:=hq.l;omega)
def HW(hp:PQ T K E p)(hq:PQ T K E q)(hT:T<=2^30)(hK:K<=2^32)(hE:E<=2^38):AC 45 [PV.aC p,PV.aC q] (· =PV.aC (Qp p q)):=
 Gr hp.b hq.b hK hE (by have:=hp.l;omega) (by have:=hq.l;omega)
def KQ(hp:PQ T K E p)(hq:PQ T K E q)(hT:T<=2^15)(hK:T*(K+K)+(K+K)<=2^32)(hE:E<=2^37):AC 176 [PV.aC p,PV.aC q] (· =PV.aC (dD p q)):=by
 have h1:=hp.l;have h2:=hq.l;have h3:q.length*p.length<=2^15*2^15:=KaZ Oz Oz;have h4:q.length*(K+K)<=T*(K+K):=Kap _ h2;have:=VM hp.b hq.b hp.n.z hq.n.z hE Oz Oz Oz Oz
 rwa[Rg hp.n hq.n]at this
def DD(hp:PQ T K E p)(hq:PQ T K E q)(hT:T<=2^30)(hK:K+2<=2^31)(hE:E<=2^38):AC 36 [PV.aC p,PV.aC q] (· =PV.aC (bX p q)):=
 afy (K:=K+2) (hp.mono (Kag _) Oz (Kag _)).b (hq.mono (Kag _) Oz (Kag _)).b Oz Oz hE (by have:=hp.l;omega) (by have:=hq.l;omega)
def tV(hp:PQ T K E p)(hq:PQ T K E q)(hT:T<=2^30)(hK:K<=2^32)(hE:E<=2^38):AC 40 [PV.aC p,PV.aC q] (· =PV.aC (Qp p q)):=
 Gu hp.b hq.b Oz hE (by have:=hp.l;omega) (by have:=hq.l;omega)
def KR(hp:PQ T K E p)(hq:PQ T K E q)(hT:T<=2^15)(hK:T*(K+K)+(K+K)<=2^32)(hE:E<=2^37):AC 151 [PV.aC p,PV.aC q] (· =PV.aC (dD p q)):=by have h1:=hp.l;have h2:=hq.l;have h3:p.length*q.length<=2^15*2^15:=KaZ Oz Oz;have h4:min p.length q.length*(K+K)<=T*(K+K):=Kap _ Oz;exact Wp hp.b hq.b hE Oz Oz Oz Oz Oz
def gD(p q r:List Tm):List Tm:=Qp p (bX q r)
def sC(a b:Cd)(m:List Tm):Cd:=(Qp a.1 (dD m (bX b.1 a.1)),Qp a.2 (dD m (bX b.2 a.2)))
def jP(a b c d:Cd):List Tm:=Qp (dD (bX b.1 a.1) (bX d.1 c.1)) (dD (bX b.2 a.2) (bX d.2 c.2))
structure CQ(T K E:Nat)(c:Cd):Prop where
 x:PQ T K E c.1
 y:PQ T K E c.2
def CQ.mono{T K E T' K' E':Nat}{c:Cd}(h:CQ T K E c)(h1:T<=T')(h2:K<=K')(h3:E<=E'):CQ T' K' E' c:=⟨h.x.mono h1 h2 h3,h.y.mono h1 h2 h3⟩
def HX{r:List Tm}(hp:PQ T K E p)(hq:PQ T K E q)(hr:PQ T K E r)(hT:T<=2^20)(hK:K<=2^28)(hE:E<=2^20):AC 164 [PV.aC p,PV.aC q,PV.aC r] (· =PV.aC (gD p q r)):=by have h1:=wX hq hr Oz Oz Oz;have h2:=HW (T:=T+T) (K:=K+(K+2)) (hp.mono Oz Oz (Kag _)) (hq.sub hr) Oz Oz Oz;refine aF Qd func164 an2 λC hP=>?_;refine ay hP h1 ?_;refine ay hP h2 ?_;exact cf
def SX{a b:Cd}{m:List Tm}(ha:CQ T K E a)(hb:CQ T K E b)(hm:PQ 1 K E m)(hT:T<=256)(hT1:1<=T)(hK:K<=2^18)(hE:E<=2^20):AC 162 [PV.bj a,PV.bj b,PV.aC m] (· =PV.bj (sC a b m)):=by
 have hmul:∀ {p q:List Tm},PQ T K E p->PQ T K E q->AC 176 [PV.aC m,PV.aC (bX p q)] (· =PV.aC (dD m (bX p q))):=λhp hq=>by have h4:(T+T)*(K+(K+2)+(K+(K+2)))<=512*(2^21):=KaZ Oz Oz;exact KQ (T:=T+T) (K:=K+(K+2)) (hm.mono Oz Oz (Kag _)) (hp.sub hq) Oz Oz Oz
 have bI:∀ {p q r:List Tm},PQ T K E p->PQ T K E q->PQ T K E r->AC 45 [PV.aC r,PV.aC (dD m (bX p q))] (· =PV.aC (Qp r (dD m (bX p q)))):=λhp hq hr=>by have h4:min 1 (T+T)*(K+(K+(K+2)))<=1*2^26:=KaZ Oz Oz;exact HW (T:=1*(T+T)) (K:=2^26) (E:=E+E) (hr.mono Oz Oz Oz) ((hm.mul (hp.sub hq)).mono Oz Oz Oz) Oz Oz Oz
 have s1:=wX hb.x ha.x Oz Oz Oz;have s2:=wX hb.y ha.y Oz Oz Oz;have m1:=hmul hb.x ha.x;have m2:=hmul hb.y ha.y;have a1:=bI hb.x ha.x ha.x;have a2:=bI hb.y ha.y ha.y;refine aF Qd func162 an3 λC hP=>?_;refine ay hP s1 ?_;refine ay hP m1 ?_;refine ay hP a1 ?_;refine ay hP s2 ?_;refine ay hP m2 ?_;refine ay hP a2 ?_;refine Sz0 ?_;refine cx ?_;exact Qb rfl rfl
variable{a:Cd}
def jh(hp:PQ 256 (2^17) 100 p)(hq:PQ 256 (2^17) 100 q):PQ 512 (2^18+2) 100 (bX p q):=(hp.sub hq).mono Oz Oz Oz
def Bk(hp:PQ 512 (2^18+2) 100 p)(hq:PQ 512 (2^18+2) 100 q):PQ 262144 (2^28+2048) 200 (dD p q):=(hp.mul hq).mono Oz Oz Oz
abbrev CB(c:Cd):Prop:=CQ 256 (2^17) 100 c
def HG{b c d:Cd}(ha:CB a)(hb:CB b)(hc:CB c)(hd:CB d):PQ 524288 (2^29+4098) 200 (jP a b c d):=
 ((Bk (jh hb.x ha.x) (jh hd.x hc.x)).add (Bk (jh hb.y ha.y) (jh hd.y hc.y))).mono Oz Oz Oz
def SY{b c d:Cd}(ha:CB a)(hb:CB b)(hc:CB c)(hd:CB d):AC 96 [PV.bj a,PV.bj b,PV.bj c,PV.bj d] (· =PV.aC (jP a b c d)):=by have s1:=wX hb.x ha.x Oz Oz Oz;have s2:=wX hb.y ha.y Oz Oz Oz;have s3:=wX hd.x hc.x Oz Oz Oz;have s4:=wX hd.y hc.y Oz Oz Oz;have m1:=KQ (jh hb.x ha.x) (jh hd.x hc.x) Oz Oz Oz;have m2:=KQ (jh hb.y ha.y) (jh hd.y hc.y) Oz Oz Oz;have f:=HW (Bk (jh hb.x ha.x) (jh hd.x hc.x)) (Bk (jh hb.y ha.y) (jh hd.y hc.y)) Oz Oz Oz;refine aF Qd func96 ac5 λC hP=>?_;refine ay hP s1 ?_;refine ay hP s3 ?_;refine ay hP m1 ?_;refine ay hP s2 ?_;refine ay hP s4 ?_;refine ay hP m2 ?_;refine ay hP f ?_;exact cf
def P7{b:Cd}(ha:CB a)(hb:CB b):AC 79 [PV.bj a,PV.bj b] (· =PV.bj (bX b.1 a.1,bX b.2 a.2)):=by have s1:=DD hb.x ha.x Oz Oz Oz;have s2:=DD hb.y ha.y Oz Oz Oz;refine aF Qd func79 ac3 λC hP=>?_;refine ay hP s1 ?_;refine ay hP s2 ?_;refine Sz0 ?_;refine cx ?_;exact Qb rfl rfl
def aem{u v:Cd}(hu:CQ 512 (2^18+2) 100 u)(hv:CQ 512 (2^18+2) 100 v):AC 78 [PV.bj u,PV.bj v] (· =PV.aC (Qp (dD u.1 v.1) (dD u.2 v.2))):=by have m1:=KR hu.x hv.x Oz Oz Oz;have m2:=KR hu.y hv.y Oz Oz Oz;have f:=tV (Bk hu.x hv.x) (Bk hu.y hv.y) Oz Oz Oz;refine aF Qd func78 ac4 λC hP=>?_;refine ay hP m1 ?_;refine ay hP m2 ?_;refine ay hP f ?_;exact cf
def aen{b c d:Cd}(ha:CB a)(hb:CB b)(hc:CB c)(hd:CB d):AC 33 [PV.bj a,PV.bj b,PV.bj c,PV.bj d] (· =PV.aC (jP a b c d)):=by have b1:=P7 ha hb;have b2:=P7 hc hd;have b3:=aem (u:=(bX b.1 a.1,bX b.2 a.2)) (v:=(bX d.1 c.1,bX d.2 c.2)) ⟨jh hb.x ha.x,jh hb.y ha.y⟩ ⟨jh hd.x hc.x,jh hd.y hc.y⟩;refine aF Qd func33 ac2 λC hP=>?_;refine ay hP b1 ?_;refine ay hP b2 ?_;refine ay hP b3 ?_;exact cf
variable{a:List Nat}{k:Nat}{n:Bool}
structure bB where
 k:Int
 args:List Int
 n:Bool
 a:List Nat
 d:List Nat
abbrev PV.dJ(f:bB):PV:=.agg [.int .i64 f.k,PV.mono f.args,.bool f.n,PV.nat f.a,PV.nat f.d]
def m6(k:Int):Int:=if k=1\/k=5 then 3 else if k=2\/k=3\/k=4\/k=6\/k=9 then 4 else if k=7 then 8 else if k=8 then 2 else 0
def lN(n:Bool)(a d:List Nat):Bool:= !n&&(decide (a.length=0)&&decide (d.length=0))
def lg(f:bB)(n:Int):Int:=
 if m6 f.k=0 then 8 else if(f.args.length:Int)≠m6 f.k then 1 else if(f.args.any λi=>decide (i<0\/n<=i))=true then 2 else
  if(if f.k=9 then fL f.n f.a f.d else lN f.n f.a f.d)=true then 0 else 1
def P8(k:Int):(k=1\/k=2\/k=3\/k=4\/k=5\/k=6\/k=7\/k=8\/k=9)\/(k≠1/\k≠2/\k≠3/\k≠4/\k≠5/\k≠6/\k≠7/\k≠8/\k≠9):=Oz
def ahT{k:Int}:AC 136 [.int .i64 k] (· = .int .i64 (m6 k)):=by
 rcases P8 k with h|⟨h1,h2,h3,h4,h5,h6,h7,h8,h9⟩
 .rcases h with rfl|rfl|rfl|rfl|rfl|rfl|rfl|rfl|rfl
  all_goals
   refine aF Qd func136 SU λC hP=>?_;exact cf
 .have e:m6 k=0:=by simp[m6,h1,h2,h3,h4,h5,h6,h7,h8,h9]
  rw[e];have d1:decide (k=1)=false:=decide_eq_false h1;have d2:decide (k=2)=false:=decide_eq_false h2;have d3:decide (k=3)=false:=decide_eq_false h3;have d4:decide (k=4)=false:=decide_eq_false h4;have d5:decide (k=5)=false:=decide_eq_false h5;have d6:decide (k=6)=false:=decide_eq_false h6;have d7:decide (k=7)=false:=decide_eq_false h7;have d8:decide (k=8)=false:=decide_eq_false h8;have d9:decide (k=9)=false:=decide_eq_false h9;refine aF Qd func136 SU λC hP=>?_;refine Sz9 d1 d2 d3 d4 d5 d6 d7 d8 d9 ?_;exact Qb rfl rfl
def aj9{k:Int}:AC 262 [.int .i64 k] (· = .int .i64 (m6 k)):=by
 rcases P8 k with h|⟨h1,h2,h3,h4,h5,h6,h7,h8,h9⟩
 .rcases h with rfl|rfl|rfl|rfl|rfl|rfl|rfl|rfl|rfl
  all_goals
   refine aF Qd func262 SV λC hP=>?_;exact cf
 .have e:m6 k=0:=by simp[m6,h1,h2,h3,h4,h5,h6,h7,h8,h9]
  rw[e];have d1:decide (k=1)=false:=decide_eq_false h1;have d2:decide (k=2)=false:=decide_eq_false h2;have d3:decide (k=3)=false:=decide_eq_false h3;have d4:decide (k=4)=false:=decide_eq_false h4;have d5:decide (k=5)=false:=decide_eq_false h5;have d6:decide (k=6)=false:=decide_eq_false h6;have d7:decide (k=7)=false:=decide_eq_false h7;have d8:decide (k=8)=false:=decide_eq_false h8;have d9:decide (k=9)=false:=decide_eq_false h9;refine aF Qd func262 SV λC hP=>?_;refine Sz9 d1 d2 d3 d4 d5 d6 d7 d8 d9 ?_;exact Qb rfl rfl
def aka{d:List Nat}(hb:Raw k n a d):AC 137 [PV.rr n a d] (· = .bool (lN n a d)):=by
 refine aF Qd func137 anT λC hP=>?_;refine Sz0 ?_;cases n
 .refine Sz0 ?_;refine fJ (λh=>?_) (λh=>?_)
  .refine Sz0 ?_;exact Qb (by simp[lN,show a.length=0 by omega]) rfl
  .refine Sz0 ?_;exact Qb (by simp[lN,show ¬a.length=0 by omega]) rfl
 .exact cf
def an6{d:List Nat}(hb:Raw k n a d):AC 263 [PV.rr n a d] (· = .bool (lN n a d)):=by
 refine aF Qd func263 anU λC hP=>?_;refine Sz0 ?_;cases n
 .refine Sz0 ?_;refine fJ (λh=>?_) (λh=>?_)
  .refine Sz0 ?_;exact Qb (by simp[lN,show a.length=0 by omega]) rfl
  .refine Sz0 ?_;exact Qb (by simp[lN,show ¬a.length=0 by omega]) rfl
 .exact cf
def akb{d:List Nat}(hb:Raw k n a d):AC 134 [PV.rr n a d] (· = .bool (lN n a d)):=by
 refine aF Qd func134 anW λC hP=>?_;refine Sz0 ?_;cases n
 .refine Sz0 ?_;refine fJ (λh=>?_) (λh=>?_)
  .refine Sz0 ?_;exact Qb (by simp[lN,show a.length=0 by omega]) rfl
  .refine Sz0 ?_;exact Qb (by simp[lN,show ¬a.length=0 by omega]) rfl
 .exact cf
variable{f:bB}{i:Nat}{n:Int}
structure iA(f:bB):Prop where
 l:f.args.length<2^40
 r:Raw 1048576 f.n f.a f.d
def UA(h0:¬m6 f.k=0)(hl:(f.args.length:Int)=m6 f.k)(hi:i<f.args.length)(h:f.args[i]<0\/n<=f.args[i]):lg f n=2:=by unfold lg;rw[if_neg h0,if_neg (by simpa using hl),if_pos];exact KaJ.2 ⟨_,Kad hi,decide_eq_true h⟩
def UB(h0:¬m6 f.k=0)(hl:(f.args.length:Int)=m6 f.k)(h:∀j (h:j<f.args.length),0<=f.args[j]/\f.args[j]<n):lg f n=if(if f.k=9 then fL f.n f.a f.d else lN f.n f.a f.d)=true then 0 else 1:=by unfold lg;rw[if_neg h0,if_neg (by simpa using hl),if_neg];intro hq;obtain⟨x,hx,hd⟩:=KaJ.1 hq;obtain⟨j,hj,rfl⟩:=KaH hx;have:=of_decide_eq_true hd;have:=h j hj;omega
def ahU(hf:iA f):AC 72 [PV.dJ f,.int .i64 n] (· = .int .i64 (lg f n)):=by
 have hr:=Cs hf.r Oz;have hz:=aka hf.r;have jU:=hf.l;obtain⟨k,args,n0,a,d⟩:=f;simp only at hr hz jU;have hA:=ahT (k:=k);refine aF Qd func72 acY λC hP=>?_;refine ay hP hA ?_;refine bD (λh0=>?_) (λh0=>?_)
 .refine Sz0 ?_;exact Qb (by simp[lg,h0]) rfl
 refine ay hP hA ?_;refine bD (λhl=>?_) (λhl=>?_)
 .refine Sz0 ?_;exact Qb (by simp[lg,h0,hl]) rfl
 replace hl:(args.length:Int)=m6 k:=by omega
 refine Sz0 ?_;refine Qh okB [(4,4),(6,6),(21,32)] [] (λm J hp=>∃i,m=args.length-i/\i<=args.length/\(∀j (h:j<args.length),j<i->0<=args[j]/\args[j]<n)/\J 21= .int .i64 (i:Nat)/\hp 2=some ⟨5,65,[PV.dJ ⟨k,args,n0,a,d⟩],false⟩) args.length ?_ ?_
 .refine⟨0,rfl,Oz,Oz,?_⟩;refine Sz0 ?_;rfl
 rintro _ J h ⟨i,rfl,hi,h1,gJ,hb2⟩;refine aZ gJ (λhg=>?_) (λhg=>?_)
 .have au:i<args.length:=Oz;have h2:(args[i]<0\/n<=args[i])->lg ⟨k,args,n0,a,d⟩ n=2:=λh=>UA (f:=⟨k,args,n0,a,d⟩) h0 hl au h
  have bI:0<=args[i]/\args[i]<n->∀j (h:j<args.length),j<i+1->0<=args[j]/\args[j]<n:=λh j hj fP=>by
   by_cases e:j=i
   .subst e;exact h
   .exact h1 j hj Oz
  generalize hx:args[i]=x at *
  refine Sz2 gJ hx ?_;refine Qo (λh3=>?_) (λh3=>?_)
  .refine Sz0 ?_;exact Qb (by rw[h2 (.inl h3)]) rfl
  refine bD (λh4=>?_) (λh4=>?_)
  .refine Sz0 ?_;exact Qb (by rw[h2 (.inr h4)]) rfl
  refine Sz1 gJ ?_;refine Qe (args.length-(i+1)) Oz ⟨i+1,rfl,Oz,bI ⟨by omega,Oz⟩,?_⟩;exact Tz1 hb2
 obtain rfl:i=args.length:=by omega
 have cX:=UB (f:=⟨k,args,n0,a,d⟩) (n:=n) h0 hl (λj hj=>h1 j hj hj);refine Sz1 hb2 ?_;by_cases h9:k=9
 .subst h9;refine gE hb2 hP hr ?_;cases hq:fL n0 a d
  .refine Sz1 hb2 ?_;exact Qb (by rw[cX];simp[hq]) rfl
  .refine Sz1 hb2 ?_;exact Qb (by rw[cX];simp[hq]) rfl
 .have d9:decide (k=9)=false:=decide_eq_false h9;have qy:decide (¬k=9)=true:=decide_eq_true h9;refine eL hb2 d9 qy hP hz ?_;cases hq:lN n0 a d
  .refine Sz1 hb2 ?_;exact Qb (by rw[cX];simp[hq,h9]) rfl
  .refine Sz1 hb2 ?_;exact Qb (by rw[cX];simp[hq,h9]) rfl
variable{K:Qf}{cs:List Cd}{d e ty γ:Nat}{fr:Fr}{fz:Bool}{hp:HP}
structure bR where
 k:Int
 name:ByteArray
 args:List Int
 n:Bool
 a:List Nat
 d:List Nat
abbrev PV.gK(s:bR):PV:=.agg [.int .i64 s.k,.str s.name,PV.mono s.args,.bool s.n,PV.nat s.a,PV.nat s.d]
abbrev PV.cn(S:List bR)(G:List bB):PV:=.agg [.sl 6 (S.map PV.gK),.sl 5 (G.map PV.dJ)]
def dn(cs:List Cd)(l:List Int):List Cd:=l.map λa=>cs.getD a.toNat ([],[])
def ix(k i:Int)(b:Nat):List Vr:=if k=1 then mS i b else if k=5 then [(1,i,0)]else if k=6 then [(1,i,0),(2,i,1),(2,i,2)]else if k=2\/k=3\/k=4 then []else [(2,i,0),(2,i,1)]
def gp(k:Int)(q:Rat)(l:List Cd)(n b:Nat):Cd:=
 if k=1 then mT n b else if k=2 then sC (l.getD 0 ([],[])) (l.getD 1 ([],[])) (mc q)else
 if k=3 then(gD (l.getD 0 ([],[])).1 (l.getD 2 ([],[])).1 (l.getD 1 ([],[])).1,gD (l.getD 0 ([],[])).2 (l.getD 2 ([],[])).2 (l.getD 1 ([],[])).2)else
 if k=4 then(gD (l.getD 0 ([],[])).1 (l.getD 1 ([],[])).2 (l.getD 2 ([],[])).2,gD (l.getD 0 ([],[])).2 (l.getD 2 ([],[])).1 (l.getD 1 ([],[])).1)else
 if k=5 then sC (l.getD 0 ([],[])) (l.getD 1 ([],[])) (bJ n)else if k=6 then(bJ (n+1:Nat),bJ (n+2:Nat))else(bJ n,bJ (n+1:Nat))
def eG(k:Int):Int:=if k=1 then 0 else if k=2\/k=5\/k=6\/k=14 then 2 else if k=3\/k=4\/k=7\/k=8\/k=10\/k=11 then 3 else if k=9\/k=12\/k=13 then 4 else -1
def adh(h:i<cs.length):lI (some ⟨2,ty,cs.map PV.bj,fz⟩) 2 true i 0 d fr hp K=K (ae fr d (PV.bj (cs[i]'h))) hp:=by rw[ry (by rw[KaC];exact h) Oz (by simp),Kbc];rfl
def adi(h:i<cs.length):lI (some ⟨2,ty,cs.map PV.bj,fz⟩) 1 false i 0 d fr hp K=K (ae fr d (PV.aC (cs[i]'h).1)) hp:=by rw[ry (by rw[KaC];exact h) Oz (by simp),Kbc];rfl
def adj(h:i<cs.length):lI (some ⟨2,ty,cs.map PV.bj,fz⟩) 1 false i 1 d fr hp K=K (ae fr d (PV.aC (cs[i]'h).2)) hp:=by rw[ry (by rw[KaC];exact h) Oz (by simp),Kbc];rfl
def aeO{σ:Nat->Nat}{cs:List PV}:bF σ (.aH γ e ty [.agg cs])= .aH (σ γ) e ty [eW (cs.map (dh σ))]:=rfl
def acK{bo:Nat}{cs:List PV}(h:bo≠γ):eS γ (.aH bo e ty [.agg cs])= .aH bo e ty [eW (cs.map (gw γ))]:=by simp[eS,h,PV.aV,PV.cells]
def acL{cs:List PV}{nm:Nat->Bool}:lk nm (.aH γ e ty [.agg cs])=if(γ::cs.flatMap PV.dM).any nm then .undef else .aH γ e ty [.agg cs]:=by simp[lk,PV.refs,PV.aO,PV.aV,PV.cells]
attribute [go_sem] adh adi adj aeO acK acL
structure sD(i:Nat)(s:bR):Prop where
 k:0<=eG s.k
 l:(s.args.length:Int)=eG s.k
 r:∀a∈s.args,0<=a/\a<(i:Nat)
 q:if s.k=2 then fL s.n s.a s.d=true else lN s.n s.a s.d=true
def acM{S:List bR}{G:List bB}{b:Nat}{vs:List Vr}(hi:i<S.length)(hS:S.length<=1000)(aT:sD i S[i])(lz:cs.length=i)(hc:∀c∈cs,CB c)(hv:vs.length<60)(hb:b<1000)(hr:S[i].k=2->S[i].a.length<=2/\S[i].d.length<=2/\Raw 1048576 S[i].n S[i].a S[i].d):
  sR 91 cs vs (vs++ix S[i].k (i:Nat) b) [PV.cn S G,.int .i64 (i:Nat),.int .i64 (b:Nat)] (PV.bj (gp S[i].k (rv S[i].n S[i].a S[i].d) (dn cs S[i].args) vs.length b)):=by
 have jU:S[i].args.length<=4:=by
  have:=aT.l;unfold eG at this
  repeat' split at this
  all_goals omega
 obtain⟨s,hs⟩:∃s,S[i]=s:=⟨_,rfl⟩
 rw[hs]at aT hr jU⊢;have Em:(dn cs s.args).length=s.args.length:=by simp[dn]
 have hL:∀c∈dn cs s.args,CB c:=λc hm=>by obtain⟨a,ha,rfl⟩:=KaD.1 hm;have:=aT.r a ha;rw[Kac,Kae (show a.toNat<cs.length by omega)];exact hc _ (Kad _)
 refine jd Qd func91 rfl ac6 Nz λC hP=>?_;simp only[XA];refine cC ?_;refine Sz0 ?_;refine bV (kv 8 2000010 Qw Oz rfl Oz) ?_;refine Sz0 ?_;refine bV (me (γ:=2000010) (e:=2) (ty:=76) (xs:=[.agg [.aa,.aa]]) (fz:=false) Tz0 (by simp) Oz (λx hx=>by rw[Kax.1 hx];rfl)) ?_;refine Sz1 hs ?_;refine kq 11 900 2 81 Oz Tz0 ?_;refine je eO [(4,4),(8,8),(11,11),(13,13),(26,38),(2000010,2000010),(4000004,4000004)] [36,37,900] (λq J hp=>∃j,q=s.args.length-j/\j<=s.args.length/\J 11= .ms 900 j/\J 4= .np 4000004 0 0/\J 8= .np 2000010 0 0/\J 26= .int .i64 (j:Nat)/\J 4000004= .aH 4000004 2 76 [Iq cs.length vs.length]/\J 2000010= .aH 2000010 2 76 [.agg [.aa,.aa]]/\hp 4000004=some ⟨2,76,[],false⟩/\hp 2000010=some ⟨2,76,[],false⟩/\hp 2000011=none/\
   hp 2000000=some (te cs)/\hp 2000001=some (tf vs)/\hp 9=some ⟨2,81,[.agg [.aa,.aa]],false⟩/\hp 10=some ⟨6,68,[PV.gK s],false⟩/\hp 900=some ⟨2,81,((dn cs s.args).take j).map PV.bj,false⟩) s.args.length ?_ ?_
 .refine⟨0,rfl,Oz,?_⟩;refine Sz0 ?_;rfl
 rintro _ J h ⟨j,rfl,hj,iW,j4,j8,Jq,g4,g8,h4,h8,hn,h0,h1,h9,bp,fE⟩;refine aZ Jq (λhg=>?_) (λhg=>?_)
 .have dz:j<s.args.length:=Oz;have N5:j<(dn cs s.args).length:=Oz;obtain⟨m,hm⟩:∃m:Nat,s.args[j]=(m:Int):=⟨s.args[j].toNat,by have:=aT.r _ (Kad dz);omega⟩
  have zH:m<cs.length:=by have:=aT.r _ (Kad dz);omega
  have No:(dn cs s.args)[j]=cs[m]:=by simp only[dn,Kbc,hm,Kbi];rw[Kac,Kae zH];rfl
  have bl:(dn cs s.args).take (j+1)=(dn cs s.args).take j++[cs[m]]:=by rw[<-No];exact Kam N5
  have oM:j=((dn cs s.args).take j).length:=by rw[Kay];omega
  generalize hy:cs[m]=y at *
  refine Sz7 Jq iW j4 g4 h0 hm hy ?_;rw[Qq (f:=PV.bj) (y:=y) (xs:=(dn cs s.args).take j) (ty':=81) (fz:=false) (Tz1 fE) Qw Oz oM Oz Oz];refine zd Jq iW j4 j8 g4 g8 h4 h8 h0 h1 h9 bp ?_;refine gO (s.args.length-(j+1)) Oz ⟨j+1,rfl,Oz,?_⟩;exact Tz14 Jq iW j4 j8 g4 g8 h4 h8 hn h0 h1 h9 bp bl
 obtain rfl:j=s.args.length:=by omega
 rw[Kaf Oz]at fE;obtain⟨L,Nw⟩:∃L,dn cs s.args=L:=⟨_,rfl⟩
 rw[Nw]at fE Em hL⊢;have hlen:=aT.l;have hq:=aT.q;have hk:s.k=1\/s.k=2\/s.k=3\/s.k=4\/s.k=5\/s.k=6\/(7<=s.k/\s.k<=14):=by
  have:=aT.k;unfold eG at this
  repeat' split at this
  all_goals omega
 clear hs aT;generalize s.args=args at *
 obtain⟨k,nm,ar,n0,a0,d0⟩:=s;simp only at *
 refine Sz1 bp ?_;rcases hk with rfl|rfl|rfl|rfl|rfl|rfl|⟨eU,qM⟩
 .have hf:=ac9 (cs:=cs) (vs:=vs) (s:=(i:Nat)) (b:=b) Oz hb;rw[show ix 1 (i:Nat) b=mS (i:Nat) b from rfl,show gp 1 (rv n0 a0 d0) L vs.length b=mT vs.length b from rfl];refine Sz6 j4 j8 g4 g8 h4 h8 ?_;refine sB hP hf (Tz1 h0) (Tz1 h1) rfl rfl rfl (by simp) ?_;refine Sz4 j8 g8 h8 h9 ?_;refine sv (γ:=2000010) (ty:=76) (n:=cs.length) (m:=(vs++mS (i:Nat) b).length) (Tz1 j8) Tz0 (q:=PV.bj (mT vs.length b)) (iQ h9) rfl ⟨rfl,by simp+decide (disch:=try exact D0) only[go_sem],by simp+decide (disch:=try exact D0) only[go_sem]⟩
 .have td:args.length=2:=by have:eG 2=2:=(by decide);omega
  have bW:∀n,n<2->∃c,(∀h:n<L.length,L[n]'h=c)/\L.getD n ([],[])=c/\CB c:=λn hn=>by have wj:n<L.length:=Oz;exact⟨L[n],λ_=>rfl,by rw[Kac,Kae wj];rfl,hL _ (Kad _)⟩
  obtain⟨c0,f0,g0,b0⟩:=bW 0 Oz;obtain⟨c1,f1,g1,b1⟩:=bW 1 Oz;rw[td]at iW;obtain⟨q1,q2,q3⟩:=hr rfl;have hC:=Q3v (k:=1048576) q3 Oz;have cU:rs (rv n0 a0 d0)+1<=2^17:=by have:=(show Raw 2 n0 a0 d0 from⟨q3.la,q3.ld,q1,q2,Oz⟩).rs;omega
  have Np:=SX (m:=mc (rv n0 a0 d0)) b0 b1 ((PQ.const cU).mono (Kag _) (Kag _) Oz) Oz Oz Oz Oz;rw[show ix 2 (i:Nat) b=[]from rfl,show gp 2 (rv n0 a0 d0) L vs.length b=sC (L.getD 0 ([],[])) (L.getD 1 ([],[])) (mc (rv n0 a0 d0))from rfl,g0,g1,Kai];refine Ag j4 j8 iW g4 g8 h4 h8 bp fE f0 f1 ?_;refine Qy hP hC ?_;refine Ag j4 j8 iW g4 g8 h4 h8 bp fE f0 f1 ?_;refine Qy hP Np ?_;refine Sz4 j8 g8 h8 h9 ?_;refine sv (γ:=2000010) (ty:=76) (n:=cs.length) (m:=vs.length) (Tz1 j8) Tz0 (q:=PV.bj (sC c0 c1 (mc (rv n0 a0 d0)))) (iQ h9) rfl ⟨rfl,by simp+decide (disch:=try exact D1 h0) only[go_sem,h0],by simp+decide (disch:=try exact D1 h1) only[go_sem,h1]⟩
 .have td:args.length=3:=by have:eG 3=3:=(by decide);omega
  have bW:∀n,n<3->∃c,(∀h:n<L.length,L[n]'h=c)/\L.getD n ([],[])=c/\CB c:=λn hn=>by have wj:n<L.length:=Oz;exact⟨L[n],λ_=>rfl,by rw[Kac,Kae wj];rfl,hL _ (Kad _)⟩
  obtain⟨c0,f0,g0,zp⟩:=bW 0 Oz;obtain⟨c1,f1,g1,Ek⟩:=bW 1 Oz;obtain⟨c2,f2,g2,El⟩:=bW 2 Oz;rw[td]at iW;have p1:=HX (zp.x) (El.x) (Ek.x) Oz Oz Oz;have p2:=HX (zp.y) (El.y) (Ek.y) Oz Oz Oz;have e2:gp 3 (rv n0 a0 d0) L vs.length b=(gD c0.1 c2.1 c1.1,gD c0.2 c2.2 c1.2):=by rw[<-g0,<-g1,<-g2];rfl
  rw[show ix 3 (i:Nat) b=[]from rfl,e2,Kai];refine zd j4 j8 iW g4 g8 h4 h8 bp fE f0 f1 f2 ?_;refine Qy hP p1 ?_;refine zd j4 j8 iW g4 g8 h4 h8 bp fE f0 f1 f2 ?_;refine Qy hP p2 ?_;refine Sz4 j8 g8 h8 h9 ?_;refine sv (γ:=2000010) (ty:=76) (n:=cs.length) (m:=vs.length) (Tz1 j8) Tz0 (q:=PV.bj (gD c0.1 c2.1 c1.1,gD c0.2 c2.2 c1.2)) (iQ h9) rfl ⟨rfl,by simp+decide (disch:=try exact D1 h0) only[go_sem,h0],by simp+decide (disch:=try exact D1 h1) only[go_sem,h1]⟩
 .have td:args.length=3:=by have:eG 4=3:=(by decide);omega
  have bW:∀n,n<3->∃c,(∀h:n<L.length,L[n]'h=c)/\L.getD n ([],[])=c/\CB c:=λn hn=>by have wj:n<L.length:=Oz;exact⟨L[n],λ_=>rfl,by rw[Kac,Kae wj];rfl,hL _ (Kad _)⟩
  obtain⟨c0,f0,g0,zp⟩:=bW 0 Oz;obtain⟨c1,f1,g1,Ek⟩:=bW 1 Oz;obtain⟨c2,f2,g2,El⟩:=bW 2 Oz;rw[td]at iW;have p1:=HX (zp.x) (Ek.y) (El.y) Oz Oz Oz;have p2:=HX (zp.y) (El.x) (Ek.x) Oz Oz Oz;have e2:gp 4 (rv n0 a0 d0) L vs.length b=(gD c0.1 c1.2 c2.2,gD c0.2 c2.1 c1.1):=by rw[<-g0,<-g1,<-g2];rfl
  rw[show ix 4 (i:Nat) b=[]from rfl,e2,Kai];refine zd j4 j8 iW g4 g8 h4 h8 bp fE f0 f1 f2 ?_;refine Qy hP p1 ?_;refine zd j4 j8 iW g4 g8 h4 h8 bp fE f0 f1 f2 ?_;refine Qy hP p2 ?_;refine Sz4 j8 g8 h8 h9 ?_;refine sv (γ:=2000010) (ty:=76) (n:=cs.length) (m:=vs.length) (Tz1 j8) Tz0 (q:=PV.bj (gD c0.1 c1.2 c2.2,gD c0.2 c2.1 c1.1)) (iQ h9) rfl ⟨rfl,by simp+decide (disch:=try exact D1 h0) only[go_sem,h0],by simp+decide (disch:=try exact D1 h1) only[go_sem,h1]⟩
 .have td:args.length=2:=by have:eG 5=2:=(by decide);omega
  have bW:∀n,n<2->∃c,(∀h:n<L.length,L[n]'h=c)/\L.getD n ([],[])=c/\CB c:=λn hn=>by have wj:n<L.length:=Oz;exact⟨L[n],λ_=>rfl,by rw[Kac,Kae wj];rfl,hL _ (Kad _)⟩
  obtain⟨c0,f0,g0,b0⟩:=bW 0 Oz;obtain⟨c1,f1,g1,b1⟩:=bW 1 Oz;rw[td]at iW;have hf:=AO (cs:=cs) (vs:=vs) (k:=1) (s:=(i:Nat)) (m:=0) Oz;have Np:=SX (m:=bJ vs.length) b0 b1 ((PQ.var).mono (Kag _) Oz Oz) Oz Oz Oz Oz;have e2:gp 5 (rv n0 a0 d0) L vs.length b=sC c0 c1 (bJ vs.length):=by rw[<-g0,<-g1];rfl
  rw[show ix 5 (i:Nat) b=[(1,((i:Nat):Int),0)]from rfl,e2];refine Sz6 j4 j8 g4 g8 h4 h8 ?_;refine sB hP hf (Tz1 h0) (Tz1 h1) rfl rfl rfl (by simp) ?_;refine Sz3 j8 g8 h8 ?_;refine bV (kv 14 2000011 (Tz1 hn) Oz rfl Oz) ?_;refine Sz1 g8 ?_;refine bV (me (γ:=2000011) (e:=2) (ty:=76) (xs:=[.agg [.aa,.aa]]) (fz:=false) Tz0 (by simp) Oz (λx hx=>by rw[Kax.1 hx];rfl)) ?_;refine kN g8 iW fE f0 f1 hP Np ?_;refine Sz4 j8 g8 h8 h9 ?_;refine sv (γ:=2000010) (ty:=76) (n:=cs.length) (m:=(vs++[(1,((i:Nat):Int),0)]).length) (Tz1 j8) Tz0 (q:=PV.bj (sC c0 c1 (bJ vs.length))) (iQ h9) rfl ⟨rfl,by simp+decide (disch:=try exact D0) only[go_sem],by simp+decide (disch:=try exact D0) only[go_sem]⟩
 .have hf:=AO (cs:=cs) (vs:=vs) (k:=1) (s:=(i:Nat)) (m:=0) Oz;have e1:(vs++[(1,((i:Nat):Int),(0:Int))]).length=vs.length+1:=by simp
  have hd:=VP (cs:=cs) (vs:=vs++[(1,((i:Nat):Int),(0:Int))]) (s:=(i:Nat)) (m:=1) (by rw[e1];omega) Oz;have e3:vs++[(1,((i:Nat):Int),(0:Int))]++[(2,((i:Nat):Int),(1:Int)),(2,((i:Nat):Int),(1:Int)+1)]=vs++ix 6 (i:Nat) b:=by rw[Kbr];rfl
  have e4:(vs++ix 6 (i:Nat) b).length=vs.length+3:=by rw[<-e3];simp
  rw[sR,e3,e1,e4]at hd;rw[sR,e1]at hf;rw[show gp 6 (rv n0 a0 d0) L vs.length b=(bJ (vs.length+1:Nat),bJ (vs.length+2:Nat))from rfl,e4];refine Sz6 j4 j8 g4 g8 h4 h8 ?_;refine sB hP hf (Tz1 h0) (Tz1 h1) rfl rfl rfl (by simp) ?_;refine Sz3 j8 g8 h8 ?_;refine bV (kv 16 2000011 (Tz1 hn) Oz rfl Oz) ?_;refine Sz1 g8 ?_;refine bV (me (γ:=2000011) (e:=2) (ty:=76) (xs:=[.agg [.aa,.aa]]) (fz:=false) Tz0 (by simp) Oz (λx hx=>by rw[Kax.1 hx];rfl)) ?_;refine Sz1 g8 ?_;refine sB hP hd Tz0 Tz0 rfl rfl rfl (by simp) ?_;refine Sz4 j8 g8 h8 h9 ?_;refine sv (γ:=2000010) (ty:=76) (n:=cs.length) (m:=vs.length+3) (Tz1 j8) Tz0 (q:=PV.bj (bJ (vs.length+1:Nat),bJ (vs.length+2:Nat))) (iQ h9) rfl ⟨rfl,by simp+decide (disch:=try exact D0) only[go_sem],by simp+decide (disch:=try exact D0) only[go_sem]⟩
 .have hf:=VP (cs:=cs) (vs:=vs) (s:=(i:Nat)) (m:=0) Oz Oz;have d1:decide (k=1)=false:=decide_eq_false Oz;have d2:decide (k=2)=false:=decide_eq_false Oz;have d3:decide (k=3)=false:=decide_eq_false Oz;have d4:decide (k=4)=false:=decide_eq_false Oz;have d5:decide (k=5)=false:=decide_eq_false Oz;have d6:decide (k=6)=false:=decide_eq_false Oz;have e1:ix k (i:Nat) b=[(2,((i:Nat):Int),(0:Int)),(2,((i:Nat):Int),(0:Int)+1)]:=by unfold ix;rw[if_neg Oz,if_neg Oz,if_neg Oz,if_neg Oz];rfl
  have e2:gp k (rv n0 a0 d0) L vs.length b=(bJ vs.length,bJ (vs.length+1:Nat)):=by unfold gp;rw[if_neg Oz,if_neg Oz,if_neg Oz,if_neg Oz,if_neg Oz,if_neg Oz]
  rw[e1,e2];refine zd j4 j8 g4 g8 h4 h8 d1 d2 d3 d4 d5 d6 ?_;refine sB hP hf (Tz1 h0) (Tz1 h1) rfl rfl rfl (by simp) ?_;refine Sz4 j8 g8 h8 h9 ?_;refine sv (γ:=2000010) (ty:=76) (n:=cs.length) (m:=(vs++[(2,((i:Nat):Int),(0:Int)),(2,((i:Nat):Int),(0:Int)+1)]).length) (Tz1 j8) Tz0 (q:=PV.bj (bJ vs.length,bJ (vs.length+1:Nat))) (iQ h9) rfl ⟨rfl,by simp+decide (disch:=try exact D0) only[go_sem],by simp+decide (disch:=try exact D0) only[go_sem]⟩
variable{n:Nat}{s:ByteArray}
def jG(n:Nat):Bool:=(decide (65<=n)&&decide (n<=90))||(decide (97<=n)&&decide (n<=122))
def pA(n:Nat):Bool:=decide (48<=n)&&decide (n<=57)
def af7:AC 250 [.int .u8 n] (· = .bool (jG n)):=by
 refine aF Qd func250 anX λC hP=>?_;refine Sz0 ?_;refine fJ (λh1=>?_) (λh1=>?_)
 .refine Sz0 ?_;refine Qo (λh2=>?_) (λh2=>?_)
  .refine Sz0 ?_;exact Qb (by simp[jG,show 65<=n by omega,show n<=90 by omega]) rfl
  refine Sz0 ?_;refine fJ (λh3=>?_) (λh3=>?_)
  .refine Sz0 ?_;exact Qb (by simp[jG,show ¬n<=90 by omega,show 97<=n by omega];omega) rfl
  .refine Sz0 ?_;exact Qb (by simp[jG,show ¬n<=90 by omega,show ¬97<=n by omega]) rfl
 .refine Sz0 ?_;refine fJ (λh3=>?_) (λh3=>?_)
  .omega
  .refine Sz0 ?_;exact Qb (by simp[jG,show ¬65<=n by omega,show ¬97<=n by omega]) rfl
def ahV:AC 251 [.int .u8 n] (· = .bool (pA n)):=by
 refine aF Qd func251 anY λC hP=>?_;refine Sz0 ?_;refine fJ (λh1=>?_) (λh1=>?_)
 .refine Sz0 ?_;exact Qb (by simp[pA,show 48<=n by omega];omega) rfl
 .refine Sz0 ?_;exact Qb (by simp[pA,show ¬48<=n by omega]) rfl
def iX:List ByteArray:=[⟨#[97,110,103,108,101]⟩,⟨#[97,112,101,120]⟩,⟨#[98,105,115,101,99,116,111,114]⟩,⟨#[99,101,110,116,101,114]⟩,⟨#[99,105,114,99,108,101]⟩,⟨#[99,105,114,99,117,109]⟩,⟨#[99,111,108,108,105,110,101,97,114]⟩,⟨#[99,111,109,109,111,110]⟩,⟨#[99,111,110,99,121,99,108,105,99]⟩,⟨#[99,111,110,103,114,117,101,110,116]⟩,⟨#[99,114,111,115,115]⟩,⟨#[99,117,116]⟩,⟨#[100,105,118,105,100,101]⟩,⟨#[102,111,111,116]⟩,⟨#[108,105,110,101]⟩,⟨#[109,101,101,116]⟩,⟨#[109,105,100,112,111,105,110,116]⟩,⟨#[109,105,114,114,111,114]⟩,⟨#[111,110]⟩,⟨#[111,116,104,101,114]⟩,⟨#[112,97,114,97,108,108,101,108]⟩,⟨#[112,101,114,112,101,110,100,105,99,117,108,97,114]⟩,⟨#[112,111,105,110,116,115]⟩,⟨#[112,114,111,118,101]⟩,⟨#[114,97,116,105,111]⟩,⟨#[114,101,102,108,101,99,116]⟩,⟨#[115,97,109,101]⟩,⟨#[115,104,105,102,116]⟩,⟨#[116,117,114,110]⟩]
def jl(s:ByteArray):Nat->Nat
 |0=>0
 |n+1=>if jl s n<s.size then jl s n+(Utf8.decode s (jl s n)).2 else jl s n
def P9{s:ByteArray}{n:Nat}(h:¬jl s n<s.size):∀k,jl s (n+k)=jl s n
 |0=>rfl
 |k+1=>by have e:=P9 h k;rw[<-Nat.add_assoc,jl,e,if_neg h]
structure Nq(s:ByteArray):Prop where
 p:0<s.size
 l:s.size<=20
 f:∀h:0<s.size,jG (s[0]'h).toNat=true
 a:∀n (h:jl s n<s.size),jG (s[jl s n]'h).toNat=true\/pA (s[jl s n]'h).toNat=true
 k:∀k∈iX,s≠k
noncomputable def B8 (s : ByteArray) : Bool := @decide (Nq s) (Classical.propDecidable _)
def Dq:B8 s=true↔Nq s:= @decide_eq_true_iff (Nq s) (Classical.propDecidable _)
def acN{b:Bool}(h:b=true↔Nq s):b=B8 s:=Bool.eq_iff_iff.2 (h.trans Dq.symm)
def Q6w:AC 252 [] (· = .sl 1 (iX.map PV.str)):=by
 refine aF Qd func252 anZ λC hP=>?_;refine Sz0 ?_;rw[yK rfl (λp hp=>by
  have:∀p∈iX.map PV.str,p.cells.length=1:=λp hp=>by obtain⟨b,_,rfl⟩:=KaD.1 hp;rfl
  exact this p hp) Oz]
 refine Sz0 ?_;exact vj (e:=1) (ty:=9) (xs:=iX.map PV.str) (fz:=false) rfl rfl
structure lX(s:bR):Prop where
 n:s.name.size<2^40
 l:s.args.length<2^40
 r:Raw 1048576 s.n s.a s.d
def vg:Prop:=∀s:ByteArray,s.size<2^40->AC 135 [PV.str s] (· = .bool (B8 s))
structure HY(S:List bR)(i:Nat)(s:bR):Prop where
 ok:sD i s
 n:s.name= .empty\/(Nq s.name/\∀j (h:j<S.length),j<i->S[j].name≠s.name)
def pS{e:Int}{P:Prop}(h:e≠0)(h2:P->False):e=0↔P:=⟨λq=>absurd q h,λp=>(h2 p).elim⟩
def P'(k:Int):(k=1\/k=2\/k=3\/k=4\/k=5\/k=6\/k=7\/k=8\/k=9\/k=10\/k=11\/k=12\/k=13\/k=14)\/(k≠1/\k≠2/\k≠3/\k≠4/\k≠5/\k≠6/\k≠7/\k≠8/\k≠9/\k≠10/\k≠11/\k≠12/\k≠13/\k≠14):=Oz
def ahW{k:Int}:AC 133 [.int .i64 k] (· = .int .i64 (eG k)):=by
 rcases P' k with h|⟨h1,h2,h3,h4,h5,h6,h7,h8,h9,bp,cE,eX,dN,fD⟩
 .rcases h with rfl|rfl|rfl|rfl|rfl|rfl|rfl|rfl|rfl|rfl|rfl|rfl|rfl|rfl
  all_goals
   refine aF Qd func133 SW λC hP=>?_;exact cf
 .have e:eG k= -1:=by simp[eG,h1,h2,h3,h4,h5,h6,h7,h8,h9,bp,cE,eX,dN,fD]
  rw[e];have d1:decide (k=1)=false:=decide_eq_false h1;have d2:decide (k=2)=false:=decide_eq_false h2;have d3:decide (k=3)=false:=decide_eq_false h3;have d4:decide (k=4)=false:=decide_eq_false h4;have d5:decide (k=5)=false:=decide_eq_false h5;have d6:decide (k=6)=false:=decide_eq_false h6;have d7:decide (k=7)=false:=decide_eq_false h7;have d8:decide (k=8)=false:=decide_eq_false h8;have d9:decide (k=9)=false:=decide_eq_false h9;have d10:decide (k=10)=false:=decide_eq_false bp;have d11:decide (k=11)=false:=decide_eq_false cE;have d12:decide (k=12)=false:=decide_eq_false eX;have d13:decide (k=13)=false:=decide_eq_false dN;have d14:decide (k=14)=false:=decide_eq_false fD;have dd:decide (k=1)=false/\decide (k=2)=false/\decide (k=3)=false/\decide (k=4)=false/\decide (k=5)=false/\decide (k=6)=false/\decide (k=7)=false/\decide (k=8)=false/\decide (k=9)=false/\decide (k=10)=false/\decide (k=11)=false/\decide (k=12)=false/\decide (k=13)=false/\decide (k=14)=false:=⟨d1,d2,d3,d4,d5,d6,d7,d8,d9,d10,d11,d12,d13,d14⟩
  refine aF Qd func133 SW λC hP=>?_;refine Sz1 dd ?_;exact Qb rfl rfl
def ez{p:PV}{R:PV->Prop}(h:R p)(hd:p.aJ=true):za R p:=⟨hd,p,Qi _,h⟩
def ahX(hN:vg){S:List bR}(hS:S.length<2^40)(hb:∀s∈S,lX s)(hi:i<S.length):AC 71 [.sl 6 (S.map PV.gK),.int .i64 (i:Nat)] (λr=>∃e:Int,r= .int .i64 e/\(e=0↔HY S i S[i])):=by
 have qF:=hb _ (Kad hi);have hA:∀k,AC 133 [.int .i64 k] (· = .int .i64 (eG k)):=λk=>ahW
 obtain⟨s,hs⟩:∃s,S[i]=s:=⟨_,rfl⟩
 rw[hs]at qF⊢;have hr:=Cs qF.r Oz;have hz:=akb qF.r;have fQ:=hN s.name qF.n;have jU:=qF.l;refine aF Qd func71 ac1 λC hP=>?_;refine gE hs hP (hA _) ?_;refine bD (λh0=>?_) (λh0=>?_)
 .refine Sz0 ?_;exact ez ⟨8,rfl,pS (by decide) λq=>absurd q.ok.k Oz⟩ rfl
 refine ay hP (hA _) ?_;refine bD (λhl=>?_) (λhl=>?_)
 .refine Sz0 ?_;exact ez ⟨1,rfl,pS (by decide) λq=>absurd q.ok.l Oz⟩ rfl
 replace hl:(s.args.length:Int)=eG s.k:=by omega
 refine Sz0 ?_;refine Qh okB [(4,4),(7,7),(28,39)] [] (λm J hp=>∃j,m=s.args.length-j/\j<=s.args.length/\(∀n (h:n<s.args.length),n<j->0<=s.args[n]/\s.args[n]<(i:Nat))/\J 28= .int .i64 (j:Nat)/\hp 5=some ⟨6,68,[PV.gK s],false⟩) s.args.length ?_ ?_
 .refine⟨0,rfl,Oz,Oz,?_⟩;refine Sz0 ?_;rfl
 rintro _ J h ⟨j,rfl,hj,zQ,OR,gf⟩;refine aZ OR (λhg=>?_) (λhg=>?_)
 .have dz:j<s.args.length:=Oz;have bI:0<=s.args[j]/\s.args[j]<(i:Nat)->∀n (h:n<s.args.length),n<j+1->0<=s.args[n]/\s.args[n]<(i:Nat):=λh n hn Oh=>by
   by_cases e:n=j
   .subst e;exact h
   .exact zQ n hn Oz
  have X2:=Kad dz;generalize hx:s.args[j]=x at *
  refine Sz2 OR hx ?_;refine Qo (λh3=>?_) (λh3=>?_)
  .refine Sz0 ?_;exact ez ⟨2,rfl,pS (by decide) λq=>by have:=q.ok.r x X2;omega⟩ rfl
  refine bD (λh4=>?_) (λh4=>?_)
  .refine Sz0 ?_;exact ez ⟨2,rfl,pS (by decide) λq=>by have:=q.ok.r x X2;omega⟩ rfl
  refine Sz1 OR ?_;refine Qe (s.args.length-(j+1)) Oz ⟨j+1,rfl,Oz,bI ⟨by omega,Oz⟩,?_⟩;exact Tz1 gf
 obtain rfl:j=s.args.length:=by omega
 have ZT:∀a∈s.args,0<=a/\a<(i:Nat):=λa ha=>by obtain⟨n,hn,rfl⟩:=KaH ha;exact zQ n hn hn
 refine Sz1 gf ?_;by_cases h2:s.k=2
 .have d2:decide (s.k=2)=true:=decide_eq_true h2;have qx:decide (¬s.k=2)=false:=by simp[h2]
  refine eL gf d2 qx hP hr ?_;cases hq:fL s.n s.a s.d
  .refine Sz3 gf d2 qx ?_;exact ez ⟨1,rfl,pS (by decide) λq=>by have:=q.ok.q;rw[if_pos h2,hq]at this;cases this⟩ rfl
  have cX:sD i s:=⟨by omega,hl,ZT,by rw[if_pos h2];exact hq⟩
  refine Sz3 gf d2 qx ?_;have bl:(S.take i).length<=S.length:=by rw[Kay];omega
  refine Qm (λlB=>?_) (λlB=>?_)
  .refine Sz1 gf ?_;exact ez ⟨0,rfl,λ_=>⟨cX,.inl lB⟩,λ_=>rfl⟩ rfl
  refine gE gf hP fQ ?_;cases v9:B8 s.name
  .refine Sz1 gf ?_;exact ez ⟨6,rfl,pS (by decide) λq=>by rcases q.n with q|q;exact absurd q lB;exact absurd (Dq.2 q.1) (by rw[v9];decide)⟩ rfl
  refine Sz1 gf ?_;refine Qh okB [(4,4),(9,9),(71,80)] [9] (λm J hp=>∃j,m=(S.take i).length-j/\j<=(S.take i).length/\(∀n (h:n<(S.take i).length),n<j->(S.take i)[n].name≠s.name)/\J 71= .int .i64 (j:Nat)/\hp 5=some ⟨6,68,[PV.gK s],false⟩) (S.take i).length ?_ ?_
  .refine⟨0,rfl,Oz,Oz,?_⟩;refine Sz1 gf ?_;rfl
  rintro _ J2 h2 ⟨j,rfl,hj,aS,zZ,gf⟩;refine aZ zZ (λhg=>?_) (λhg=>?_)
  .have dz:j<(S.take i).length:=Oz;have ES:(∀j (h:j<S.length),j<i->S[j].name≠s.name)->(S.take i)[j].name≠s.name:=λq=>by rw[Kca];exact q j (by rw[Kay]at dz;omega) (by rw[Kay]at dz;omega)
   have bI:(S.take i)[j].name≠s.name->∀n (h:n<(S.take i).length),n<j+1->(S.take i)[n].name≠s.name:=λhh n hn Oh=>by
    by_cases e:n=j
    .subst e;exact hh
    .exact aS n hn Oz
   generalize hx:(S.take i)[j]=x at *
   refine iq zZ hx gf (λhe=>?_) (λhe=>?_)
   .refine Sz1 gf ?_;exact ez ⟨7,rfl,pS (by decide) λq=>by rcases q.n with q|q;exact absurd q lB;exact absurd he (ES q.2)⟩ rfl
   refine Sz1 zZ ?_;refine Qe ((S.take i).length-(j+1)) Oz ⟨j+1,rfl,Oz,bI he,?_⟩;exact Tz1 gf
  obtain rfl:j=(S.take i).length:=by omega
  refine Sz0 ?_;exact ez ⟨0,rfl,λ_=>⟨cX,.inr ⟨Dq.1 v9,λj hj fP=>by
   have h3:j<(S.take i).length:=by rw[Kay];omega
   have:=aS j h3 h3
   rwa[Kca]at this⟩⟩,λ_=>rfl⟩ rfl
 .have d2:decide (s.k=2)=false:=decide_eq_false h2;have qx:decide (¬s.k=2)=true:=by simp[h2]
  refine eL gf d2 qx hP hz ?_;cases hq:lN s.n s.a s.d
  .refine Sz3 gf d2 qx ?_;exact ez ⟨1,rfl,pS (by decide) λq=>by have:=q.ok.q;rw[if_neg h2,hq]at this;cases this⟩ rfl
  have cX:sD i s:=⟨by omega,hl,ZT,by rw[if_neg h2];exact hq⟩
  refine Sz3 gf d2 qx ?_;have bl:(S.take i).length<=S.length:=by rw[Kay];omega
  refine Qm (λlB=>?_) (λlB=>?_)
  .refine Sz1 gf ?_;exact ez ⟨0,rfl,λ_=>⟨cX,.inl lB⟩,λ_=>rfl⟩ rfl
  refine gE gf hP fQ ?_;cases v9:B8 s.name
  .refine Sz1 gf ?_;exact ez ⟨6,rfl,pS (by decide) λq=>by rcases q.n with q|q;exact absurd q lB;exact absurd (Dq.2 q.1) (by rw[v9];decide)⟩ rfl
  refine Sz1 gf ?_;refine Qh okB [(4,4),(9,9),(71,80)] [9] (λm J hp=>∃j,m=(S.take i).length-j/\j<=(S.take i).length/\(∀n (h:n<(S.take i).length),n<j->(S.take i)[n].name≠s.name)/\J 71= .int .i64 (j:Nat)/\hp 5=some ⟨6,68,[PV.gK s],false⟩) (S.take i).length ?_ ?_
  .refine⟨0,rfl,Oz,Oz,?_⟩;refine Sz1 gf ?_;rfl
  rintro _ J2 h2 ⟨j,rfl,hj,aS,zZ,gf⟩;refine aZ zZ (λhg=>?_) (λhg=>?_)
  .have dz:j<(S.take i).length:=Oz;have ES:(∀j (h:j<S.length),j<i->S[j].name≠s.name)->(S.take i)[j].name≠s.name:=λq=>by rw[Kca];exact q j (by rw[Kay]at dz;omega) (by rw[Kay]at dz;omega)
   have bI:(S.take i)[j].name≠s.name->∀n (h:n<(S.take i).length),n<j+1->(S.take i)[n].name≠s.name:=λhh n hn Oh=>by
    by_cases e:n=j
    .subst e;exact hh
    .exact aS n hn Oz
   generalize hx:(S.take i)[j]=x at *
   refine iq zZ hx gf (λhe=>?_) (λhe=>?_)
   .refine Sz1 gf ?_;exact ez ⟨7,rfl,pS (by decide) λq=>by rcases q.n with q|q;exact absurd q lB;exact absurd he (ES q.2)⟩ rfl
   refine Sz1 zZ ?_;refine Qe ((S.take i).length-(j+1)) Oz ⟨j+1,rfl,Oz,bI he,?_⟩;exact Tz1 gf
  obtain rfl:j=(S.take i).length:=by omega
  refine Sz0 ?_;exact ez ⟨0,rfl,λ_=>⟨cX,.inr ⟨Dq.1 v9,λj hj fP=>by
   have h3:j<(S.take i).length:=by rw[Kay];omega
   have:=aS j h3 h3
   rwa[Kca]at this⟩⟩,λ_=>rfl⟩ rfl
structure DN(S:List bR)(G:List bB):Prop where
 s:∀i (h:i<S.length),sD i S[i]
 g:∀g∈G,lg g S.length=0
 l:S.length<=40
structure HH(S:List bR)(G:List bB):Prop where
 ok:DN S G
 s:∀i (h:i<S.length),HY S i S[i]
 gl:G.length<=8
def Mo(hN:vg){S:List bR}{G:List bB}(hS:S.length<2^40)(hG:G.length<2^40)(hb:∀s∈S,lX s)(hg:∀g∈G,iA g):
  AC 26 [PV.cn S G] (λr=>∃e:Int,r= .int .i64 e/\(e=0↔HH S G)):=by
 refine aF Qd func26 ac0 λC hP=>?_;refine Sz0 ?_;refine Qo (λuw=>?_) (λuw=>?_)
 .refine Sz0 ?_;exact ez ⟨4,rfl,pS (by decide) λq=>absurd q.ok.l Oz⟩ rfl
 refine bD (λh8=>?_) (λh8=>?_)
 .refine Sz0 ?_;exact ez ⟨4,rfl,pS (by decide) λq=>absurd q.gl Oz⟩ rfl
 refine Sz0 ?_;refine Qh okB [(2,4),(21,31)] [] (λm J hp=>∃i,m=S.length-i/\i<=S.length/\(∀n (h:n<S.length),n<i->HY S n S[n])/\J 21= .int .i64 (i:Nat)/\hp 1=some ⟨2,25,[PV.cn S G],false⟩) S.length ?_ ?_
 .refine⟨0,rfl,Oz,Oz,?_⟩;refine Sz0 ?_;rfl
 rintro _ J h ⟨i,rfl,hi,a9,gJ,hb1⟩;refine aZ gJ (λhc=>?_) (λhc=>?_)
 .have au:i<S.length:=Oz;have hr:=ahX hN hS hb au;refine Sz2 gJ hb1 ?_;refine kG hP hr rfl rfl rfl ?_;rintro _ ⟨e,rfl,he⟩;by_cases h0:e=0
  .subst h0;have aT:=he.1 rfl;refine Sz2 gJ hb1 ?_;refine Qe (S.length-(i+1)) Oz ⟨i+1,rfl,Oz,λn hn zK=>?_,?_⟩
   .by_cases e:n=i
    .subst e;exact aT
    .exact a9 n hn Oz
   exact Tz1 hb1
  .have d:decide (¬e=0)=true:=decide_eq_true h0;refine Sz3 gJ hb1 d ?_;exact ez ⟨e,rfl,pS h0 λq=>absurd (he.2 (q.s i au)) h0⟩ rfl
 obtain rfl:i=S.length:=by omega
 refine Sz1 hb1 ?_;refine Qh okB [(2,2),(6,7),(35,47)] [6] (λm J hp=>∃i,m=G.length-i/\i<=G.length/\(∀n (h:n<G.length),n<i->lg G[n] S.length=0)/\J 35= .int .i64 (i:Nat)/\hp 1=some ⟨2,25,[PV.cn S G],false⟩) G.length ?_ ?_
 .refine⟨0,rfl,Oz,Oz,?_⟩;refine Sz1 hb1 ?_;rfl
 rintro _ J2 h2 ⟨i,rfl,jW,rT,Jr,hb1⟩;refine aZ Jr (λhc=>?_) (λhc=>?_)
 .have au:i<G.length:=Oz;have hr:=ahU (n:=S.length) (hg _ (Kad au));have bI:lg G[i] S.length=0->∀n (h:n<G.length),n<i+1->lg G[n] S.length=0:=λh n hn zK=>by
   by_cases e:n=i
   .subst e;exact h
   .exact rT n hn Oz
  have IS:=Kad au;generalize hx:G[i]=x at *
  refine eL Jr hb1 hx hP hr ?_;by_cases h0:lg x S.length=0
  .have d:decide (¬lg x S.length=0)=false:=by simp[h0]
   refine Sz3 Jr hb1 d ?_;refine Qe (G.length-(i+1)) Oz ⟨i+1,rfl,Oz,bI h0,?_⟩;exact Tz1 hb1
  .have d:decide (¬lg x S.length=0)=true:=decide_eq_true h0;refine Sz3 Jr hb1 d ?_;exact ez ⟨_,rfl,pS h0 λq=>absurd (q.ok.g x IS) h0⟩ rfl
 obtain rfl:i=G.length:=by omega
 refine Sz0 ?_;refine ez ⟨0,rfl,λ_=>⟨⟨λi h=>(a9 i h h).ok,λg hm=>?_,Oz⟩,λi h=>a9 i h h,Oz⟩,λ_=>rfl⟩ rfl;obtain⟨n,hn,rfl⟩:=KaH hm;exact rT n hn hn
variable{α:Type}
def pk(w l:List Int)(n:Nat):Int:=w.getD (l.getD n 0).toNat 0
def kF(w:List Int)(k:Int)(l:List Int):Int:=if k=2 then pk w l 0+pk w l 1 else if k=3\/k=4 then pk w l 0+pk w l 1+pk w l 2 else if k=5 then 2*pk w l 0+pk w l 1 else 1
def fY:bR:=⟨0,.empty,[],false,[],[]⟩
def fh(S:List bR):Nat->List Int
 |0=>[]
 |i+1=>fh S i++[kF (fh S i) (S.getD i fY).k (S.getD i fY).args]
def tJ(S:List bR):∀n,(fh S n).length=n
 |0=>rfl
 |n+1=>by rw[fh,Kaz,tJ S n];rfl
def an7{w l:List Int}{B:Int}(h:∀x∈w,0<=x/\x<=B)(hB:0<=B)(n:Nat):0<=pk w l n/\pk w l n<=B:=by
 unfold pk;rw[Kac];cases hq:w[(l.getD n 0).toNat]? with
 |none=>exact⟨Kc6 _,hB⟩
 |some x=>exact h x (Kaj hq)
def TX(S:List bR):∀n,∀x∈fh S n,0<=x/\x<=(4^n:Nat)
 |0,x,h=>by cases h
 | n+1,x,h=>by
  have ih:=TX S n;have h4:4^(n+1)=4*4^n:=by rw[KbA,KaU]
  have hp:1<=4^n:=Nat.one_le_pow _ _ Oz;rw[fh]at h;rcases KaN.1 h with h|h
  .have:=ih x h;omega
  .obtain rfl:x=kF (fh S n) (S.getD n fY).k (S.getD n fY).args:=by simpa using h
   have b:=λm=>an7 (l:=(S.getD n fY).args) ih Oz m
   have b0:=b 0;have b1:=b 1;have b2:=b 2;unfold kF
   repeat' split
   all_goals omega
def akc{f:α->PV}{k:IntKind}{xs:List α}(h:2<xs.length):ej e (.sl e (xs.map f)) (.int k 2) d fr hp K=K (ae fr d (.pt (f (xs[2]'h)).cells)) hp:=by rw[yJ Oz Oz];rfl
attribute [go_sem] akc
def Q9b{S:List bR}{G:List bB}(hf:DN S G)(XT:S.length<=8):AC 253 [PV.cn S G] (· =PV.mono (fh S S.length)):=by
 refine aF Qd func253 an1 λC hP=>?_;refine Sz0 ?_;refine kq 3 900 1 3 Oz Tz0 ?_;refine Qh okB [(3,83)] [82,83,900] (λm J hp=>∃i,m=S.length-i/\i<=S.length/\J 3= .ms 900 i/\J 4= .int .i64 (i:Nat)/\hp 1=some ⟨2,25,[PV.cn S G],false⟩/\hp 900=some ⟨1,3,nL (fh S i),false⟩) S.length ?_ ?_
 .refine⟨0,rfl,Oz,?_⟩;refine Sz0 ?_;exact⟨rfl,rfl⟩
 rintro _ J h ⟨i,rfl,hi,j3,j4,hb1,fE⟩;refine cH j4 hb1 (λhc=>?_) (λhc=>?_)
 .have au:i<S.length:=Oz;have aT:=hf.s i au;have hd:S.getD i fY=S[i]:=by rw[Kac,Kae au];rfl
  have qO:fh S (i+1)=fh S i++[kF (fh S i) S[i].k S[i].args]:=by rw[fh,hd]
  have nk:=tJ S i;have IL:=TX S i;generalize hx:S[i]=s at *
  have h48:4^i<=4^8:=KbG Oz Oz;have bW:∀n,n<s.args.length->∃(m:Nat)(v:Int),m<i/\(∀h:n<s.args.length,s.args[n]'h=(m:Int))/\(∀h:m<(fh S i).length,(fh S i)[m]'h=v)/\pk (fh S i) s.args n=v/\0<=v/\v<=65536:=λn hn=>by have hr:=aT.r _ (Kad hn);have qN:s.args[n].toNat<(fh S i).length:=Oz;have hv:=IL _ (Kad qN);refine⟨s.args[n].toNat,(fh S i)[s.args[n].toNat],Oz,λ_=>by omega,λ_=>rfl,?_,hv.1,Oz⟩;unfold pk;rw[Kac,Kac,Kae hn];simp only[Kbl];rw[Kae qN];rfl
  have hlen:=aT.l;generalize fh S i=w at *
  clear aT IL;by_cases k2:s.k=2
  .have jr:s.args.length=2:=by rw[k2]at hlen;have:eG 2=2:=(by decide);omega
   obtain⟨m0,v0,a0,a1,a2,a3,a4,a5⟩:=bW 0 Oz;obtain⟨m1,v1,b0,b1,b2,b3,b4,b5⟩:=bW 1 Oz;rw[show kF w s.k s.args=v0+v1 by rw[kF,if_pos k2,a3,b3]]at qO;have d2:decide (s.k=2)=true:=decide_eq_true k2;refine xo j3 j4 fE hb1 hx d2 a1 a2 b1 b2 ?_;rw[Qq (f:=PV.int .i64) (y:=(v0+v1)) (xs:=w) (ty':=3) (fz:=false) (iQ fE) Qw Oz nk.symm Oz Oz];refine Sz2 j4 hb1 ?_;refine Qe (S.length-(i+1)) Oz ⟨i+1,rfl,Oz,?_⟩;exact Tz3 j4 hb1 qO
  by_cases k3:s.k=3\/s.k=4
  .have jr:s.args.length=3:=by
    rcases k3 with k3|k3
    .rw[k3]at hlen;have:eG 3=3:=by decide
     omega
    .rw[k3]at hlen;have:eG 4=3:=by decide
     omega
   obtain⟨m0,v0,a0,a1,a2,a3,a4,a5⟩:=bW 0 Oz;obtain⟨m1,v1,b0,b1,b2,b3,b4,b5⟩:=bW 1 Oz;obtain⟨m2,v2,c0,c1,c2,c3,c4,c5⟩:=bW 2 Oz;rw[show kF w s.k s.args=v0+v1+v2 by rw[kF,if_neg k2,if_pos k3,a3,b3,c3]]at qO;have d2:decide (s.k=2)=false:=decide_eq_false k2;rcases k3 with k3|k3
   .have d3:decide (s.k=3)=true:=decide_eq_true k3;refine Ci j3 j4 fE hb1 hx d2 d3 a1 a2 b1 b2 c1 c2 ?_;rw[Qq (f:=PV.int .i64) (y:=(v0+v1+v2)) (xs:=w) (ty':=3) (fz:=false) (iQ fE) Qw Oz nk.symm Oz Oz];refine Sz2 j4 hb1 ?_;refine Qe (S.length-(i+1)) Oz ⟨i+1,rfl,Oz,?_⟩;exact Tz3 j4 hb1 qO
   .have d3:decide (s.k=3)=false:=decide_eq_false Oz;have d4:decide (s.k=4)=true:=decide_eq_true k3;have dd:decide (s.k=2)=false/\decide (s.k=3)=false/\decide (s.k=4)=true:=⟨d2,d3,d4⟩
    refine zd j3 j4 fE hb1 hx dd a1 a2 b1 b2 c1 c2 ?_;rw[Qq (f:=PV.int .i64) (y:=(v0+v1+v2)) (xs:=w) (ty':=3) (fz:=false) (iQ fE) Qw Oz nk.symm Oz Oz];refine Sz2 j4 hb1 ?_;refine Qe (S.length-(i+1)) Oz ⟨i+1,rfl,Oz,?_⟩;exact Tz3 j4 hb1 qO
  have dd:decide (s.k=2)=false/\decide (s.k=3)=false/\decide (s.k=4)=false:=⟨decide_eq_false k2,decide_eq_false Oz,decide_eq_false Oz⟩
  by_cases k5:s.k=5
  .have jr:s.args.length=2:=by rw[k5]at hlen;have:eG 5=2:=(by decide);omega
   obtain⟨m0,v0,a0,a1,a2,a3,a4,a5⟩:=bW 0 Oz;obtain⟨m1,v1,b0,b1,b2,b3,b4,b5⟩:=bW 1 Oz;rw[show kF w s.k s.args=2*v0+v1 by rw[kF,if_neg k2,if_neg k3,if_pos k5,a3,b3]]at qO;have d5:decide (s.k=5)=true:=decide_eq_true k5;refine Ag j3 j4 fE hb1 hx dd d5 a1 a2 b1 b2 ?_;rw[Qq (f:=PV.int .i64) (y:=(2*v0+v1)) (xs:=w) (ty':=3) (fz:=false) (iQ fE) Qw Oz nk.symm Oz Oz];refine Sz2 j4 hb1 ?_;refine Qe (S.length-(i+1)) Oz ⟨i+1,rfl,Oz,?_⟩;exact Tz3 j4 hb1 qO
  .rw[show kF w s.k s.args=1 by rw[kF,if_neg k2,if_neg k3,if_neg k5]]at qO;have d5:decide (s.k=5)=false:=decide_eq_false k5;refine Sz7 j3 j4 fE hb1 hx dd d5 ?_;rw[Qq (f:=PV.int .i64) (y:=1) (xs:=w) (ty':=3) (fz:=false) (iQ fE) Qw Oz nk.symm Oz Oz];refine Sz2 j4 hb1 ?_;refine Qe (S.length-(i+1)) Oz ⟨i+1,rfl,Oz,?_⟩;exact Tz3 j4 hb1 qO
 obtain rfl:i=S.length:=by omega
 refine Sz1 j3 ?_;exact vj (e:=1) (ty:=3) (xs:=nL (fh S S.length)) (fz:=false) fE (by rw[Kaf (by simp[tJ])])
structure TY(S:List bR)(G:List bB):Prop where
 w:∀x∈fh S S.length,x<=8
 g:∀g∈G,g.k=6\/g.k=7->∀a∈g.args,(fh S S.length).getD a.toNat 0<=3
def acO{g:bB}{n:Int}(h:lg g n=0):m6 g.k≠0/\(g.args.length:Int)=m6 g.k/\(∀a∈g.args,0<=a/\a<n)/\(if g.k=9 then fL g.n g.a g.d else lN g.n g.a g.d)=true:=by
 unfold lg at h;split at h
 .cases h
 split at h
 .cases h
 split at h
 .cases h
 rename_i h1 h2 h3;by_cases h4:(if g.k=9 then fL g.n g.a g.d else lN g.n g.a g.d)=true
 .refine⟨h1,Oz,λa ha=>?_,h4⟩;have:¬(a<0\/n<=a):=λhq=>h3 (KaJ.2 ⟨a,ha,decide_eq_true hq⟩)
  omega
 .rw[if_neg h4]at h;cases h
def akd{S:List bR}{G:List bB}(hf:DN S G)(XT:S.length<=8)(hG:G.length<2^40):AC 138 [PV.cn S G] (λr=>∃b,r= .bool b/\(b=true->TY S G)):=by
 have hw:=Q9b hf XT;have nk:(fh S S.length).length=S.length:=tJ S _;have eV:∀x∈fh S S.length,x=x:=λ_ _=>rfl
 refine aF Qd func138 an0 λC hP=>?_;refine ay hP hw ?_;obtain⟨w,Jh⟩:∃w,fh S S.length=w:=⟨_,rfl⟩
 rw[Jh]at nk⊢;refine Sz0 ?_;refine Qh okB [(2,2),(4,4),(10,20)] [] (λm J hp=>∃i,m=w.length-i/\i<=w.length/\(∀n (h:n<w.length),n<i->w[n]<=8)/\J 4= .int .i64 (i:Nat)/\hp 1=some ⟨2,25,[PV.cn S G],false⟩) w.length ?_ ?_
 .refine⟨0,rfl,Oz,Oz,?_⟩;refine Sz0 ?_;rfl
 rintro _ J h ⟨i,rfl,hi,h8,j4,hb1⟩;refine aZ j4 (λhc=>?_) (λhc=>?_)
 .have au:i<w.length:=Oz;have bI:w[i]<=8->∀n (h:n<w.length),n<i+1->w[n]<=8:=λh n hn zK=>by
   by_cases e:n=i
   .subst e;exact h
   .exact h8 n hn Oz
  generalize hx:w[i]=x at *
  refine cH j4 hx (λhq=>?_) (λhq=>?_)
  .refine Sz0 ?_;exact ez ⟨false,rfl,λh=>by cases h⟩ rfl
  refine Sz1 j4 ?_;refine Qe (w.length-(i+1)) Oz ⟨i+1,rfl,Oz,bI Oz,?_⟩;exact Tz1 hb1
 obtain rfl:i=w.length:=by omega
 have bY:∀x∈w,x<=8:=λx hx=>by obtain⟨n,hn,rfl⟩:=KaH hx;exact h8 n hn hn
 refine Sz1 hb1 ?_;refine Qh okB [(2,2),(5,7),(21,58)] [6] (λm J hp=>∃i,m=G.length-i/\i<=G.length/\(∀n (h:n<G.length),n<i->G[n].k=6\/G[n].k=7->∀a∈G[n].args,w.getD a.toNat 0<=3)/\J 5= .int .i64 (i:Nat)/\hp 1=some ⟨2,25,[PV.cn S G],false⟩) G.length ?_ ?_
 .refine⟨0,rfl,Oz,Oz,?_⟩;refine Sz1 hb1 ?_;rfl
 rintro _ J2 h2 ⟨i,rfl,jW,rT,j5,hb1⟩;refine cH j5 hb1 (λhc=>?_) (λhc=>?_)
 .have au:i<G.length:=Oz;obtain⟨_,XZ,zQ,_⟩:=acO (hf.g _ (Kad au));have bI:(G[i].k=6\/G[i].k=7->∀a∈G[i].args,w.getD a.toNat 0<=3)->∀n (h:n<G.length),n<i+1->G[n].k=6\/G[n].k=7->∀a∈G[n].args,w.getD a.toNat 0<=3:=λh n hn zK=>by
   by_cases e:n=i
   .subst e;exact h
   .exact rT n hn Oz
  generalize hx:G[i]=g at *
  refine Sz3 j5 hb1 hx ?_;have xQ:g.args.length<=8:=by
   unfold m6 at XZ
   repeat' split at XZ
   all_goals omega
  refine Qh okB [(2,2),(7,7),(33,58)] [] (λm J hp=>∃j,m=g.args.length-j/\j<=g.args.length/\(∀n (h:n<g.args.length),n<j->g.k=6\/g.k=7->w.getD g.args[n].toNat 0<=3)/\J 7= .int .i64 (j:Nat)/\hp 1=some ⟨2,25,[PV.cn S G],false⟩/\hp 6=some ⟨5,65,[PV.dJ g],false⟩) g.args.length ?_ ?_
  .refine⟨0,rfl,Oz,Oz,?_⟩;refine Sz1 hb1 ?_;rfl
  rintro _ J3 h3 ⟨j,rfl,hj,Zy,j7,hb1,lZ⟩;refine cH j7 lZ (λik=>?_) (λik=>?_)
  .have dz:j<g.args.length:=Oz;have Ow:=zQ _ (Kad dz);have qE:(g.k=6\/g.k=7->w.getD g.args[j].toNat 0<=3)->∀n (h:n<g.args.length),n<j+1->g.k=6\/g.k=7->w.getD g.args[n].toNat 0<=3:=λh n hn zK=>by
    by_cases e:n=j
    .subst e;exact h
    .exact Zy n hn Oz
   obtain⟨m,hm⟩:∃m:Nat,g.args[j]=(m:Int):=⟨g.args[j].toNat,Oz⟩
   have hmw:m<w.length:=Oz;rw[hm,Kbi,Kac,Kae hmw]at qE;simp only[Kbl]at qE;generalize hy:w[m]=y at *
   by_cases k6:g.k=6
   .have d6:decide (g.k=6)=true:=decide_eq_true k6;refine Sz5 j7 lZ d6 hm hy ?_;refine Qm (λhq=>?_) (λhq=>?_)
    .refine Sz0 ?_;exact ez ⟨false,rfl,λh=>by cases h⟩ rfl
    refine Sz1 j7 ?_;refine Qe (g.args.length-(j+1)) Oz ⟨j+1,rfl,Oz,qE (λ_=>by omega),?_⟩;exact Tz2 hb1 lZ
   have d6:decide (g.k=6)=false:=decide_eq_false k6;by_cases k7:g.k=7
   .have d7:decide (g.k=6)=false/\decide (g.k=7)=true:=⟨d6,decide_eq_true k7⟩
    refine Sz5 j7 lZ d7 hm hy ?_;refine Qm (λhq=>?_) (λhq=>?_)
    .refine Sz0 ?_;exact ez ⟨false,rfl,λh=>by cases h⟩ rfl
    refine Sz1 j7 ?_;refine Qe (g.args.length-(j+1)) Oz ⟨j+1,rfl,Oz,qE (λ_=>by omega),?_⟩;exact Tz2 hb1 lZ
   .have d7:decide (g.k=6)=false/\decide (g.k=7)=false:=⟨d6,decide_eq_false k7⟩
    refine Sz4 j7 lZ d7 hm ?_;refine Qe (g.args.length-(j+1)) Oz ⟨j+1,rfl,Oz,qE (λhk=>by omega),?_⟩;exact Tz2 hb1 lZ
  obtain rfl:j=g.args.length:=by omega
  refine Sz1 j5 ?_;simp (disch:=decide) only[iM,gY];refine Qe (G.length-(i+1)) Oz ⟨i+1,rfl,Oz,bI (λhk a ha=>?_),?_⟩
  .obtain⟨n,hn,rfl⟩:=KaH ha;exact Zy n hn hn hk
  exact Tz1 hb1
 obtain rfl:i=G.length:=by omega
 refine Sz0 ?_;refine ez ⟨true,rfl,λ_=>⟨by rw[Jh];exact bY,λg hm=>?_⟩⟩ rfl;rw[Jh];obtain⟨n,hn,rfl⟩:=KaH hm;exact rT n hn hn
structure qj(S:List bR)(G:List bB):Prop where
 f:DN S G
 l:S.length<=8
 gl:G.length<=3
 t:TY S G
 s:∀s∈S,s.a.length<=2/\s.d.length<=2
 g:∀g∈G,g.a.length<=2/\g.d.length<=2
 o:HH S G
def an8(hN:vg){S:List bR}{G:List bB}(hS:S.length<2^40)(hG:G.length<2^40)(hb:∀s∈S,lX s)(hg:∀g∈G,iA g):
  AC 73 [PV.cn S G] (λr=>∃b,r= .bool b/\(b=true->qj S G)):=by
 have hR:=Mo hN hS hG hb hg;refine aF Qd func73 acZ λC hP=>?_;refine Sz0 ?_;refine Qo (λh8=>?_) (λh8=>?_)
 .refine Sz0 ?_;exact ez ⟨false,rfl,λh=>by cases h⟩ rfl
 refine Sz0 ?_;refine Qo (λh3=>?_) (λh3=>?_)
 .refine Sz0 ?_;exact ez ⟨false,rfl,λh=>by cases h⟩ rfl
 refine Sz0 ?_;refine kG hP hR rfl rfl rfl ?_;rintro _ ⟨e,rfl,he⟩;by_cases h0:¬e=0
 .have d:decide (¬e=0)=true:=decide_eq_true h0;refine Sz1 d ?_;exact ez ⟨false,rfl,λh=>by cases h⟩ rfl
 obtain rfl:e=0:=by omega
 have ho:=he.1 rfl;have hf:=ho.ok;have hT:=akd hf Oz hG;refine Sz0 ?_;refine kG hP hT rfl rfl rfl ?_;rintro _ ⟨b,rfl,ht⟩;cases b
 .refine Sz0 ?_;exact ez ⟨false,rfl,λh=>by cases h⟩ rfl
 replace ht:=ht rfl;refine Sz0 ?_;refine Qh okB [(2,3),(25,52)] [] (λm J hp=>∃i,m=S.length-i/\i<=S.length/\(∀n (h:n<S.length),n<i->S[n].a.length<=2/\S[n].d.length<=2)/\J 3= .int .i64 (i:Nat)/\hp 1=some ⟨2,25,[PV.cn S G],false⟩) S.length ?_ ?_
 .refine⟨0,rfl,Oz,Oz,?_⟩;refine Sz0 ?_;rfl
 rintro _ J h ⟨i,rfl,hi,a9,j3,hb1⟩;refine cH j3 hb1 (λhc=>?_) (λhc=>?_)
 .have au:i<S.length:=Oz;have bI:S[i].a.length<=2/\S[i].d.length<=2->∀n (h:n<S.length),n<i+1->S[n].a.length<=2/\S[n].d.length<=2:=λh n hn zK=>by
   by_cases e:n=i
   .subst e;exact h
   .exact a9 n hn Oz
  generalize hx:S[i]=s at *
  refine Sz3 j3 hb1 hx ?_;refine Qo (λq1=>?_) (λq1=>?_)
  .refine Sz0 ?_;exact ez ⟨false,rfl,λh=>by cases h⟩ rfl
  refine iq j3 hb1 hx (λq2=>?_) (λq2=>?_)
  .refine Sz0 ?_;exact ez ⟨false,rfl,λh=>by cases h⟩ rfl
  refine Sz1 j3 ?_;refine Qe (S.length-(i+1)) Oz ⟨i+1,rfl,Oz,bI ⟨by omega,Oz⟩,?_⟩;exact Tz1 hb1
 obtain rfl:i=S.length:=by omega
 refine Sz1 hb1 ?_;refine Qh okB [(2,2),(4,4),(53,80)] [] (λm J hp=>∃i,m=G.length-i/\i<=G.length/\(∀n (h:n<G.length),n<i->G[n].a.length<=2/\G[n].d.length<=2)/\J 4= .int .i64 (i:Nat)/\hp 1=some ⟨2,25,[PV.cn S G],false⟩) G.length ?_ ?_
 .refine⟨0,rfl,Oz,Oz,?_⟩;refine Sz1 hb1 ?_;rfl
 rintro _ J2 h2 ⟨i,rfl,jW,rT,j4,hb1⟩;refine cH j4 hb1 (λhc=>?_) (λhc=>?_)
 .have au:i<G.length:=Oz;have bI:G[i].a.length<=2/\G[i].d.length<=2->∀n (h:n<G.length),n<i+1->G[n].a.length<=2/\G[n].d.length<=2:=λh n hn zK=>by
   by_cases e:n=i
   .subst e;exact h
   .exact rT n hn Oz
  generalize hx:G[i]=g at *
  refine Sz3 j4 hb1 hx ?_;refine Qo (λq1=>?_) (λq1=>?_)
  .refine Sz0 ?_;exact ez ⟨false,rfl,λh=>by cases h⟩ rfl
  refine iq j4 hb1 hx (λq2=>?_) (λq2=>?_)
  .refine Sz0 ?_;exact ez ⟨false,rfl,λh=>by cases h⟩ rfl
  refine Sz1 j4 ?_;refine Qe (G.length-(i+1)) Oz ⟨i+1,rfl,Oz,bI ⟨by omega,Oz⟩,?_⟩;exact Tz1 hb1
 obtain rfl:i=G.length:=by omega
 refine Sz0 ?_;refine ez ⟨true,rfl,λ_=>⟨hf,Oz,Oz,ht,λs hm=>?_,λg hm=>?_,ho⟩⟩ rfl
 .obtain⟨n,hn,rfl⟩:=KaH hm;exact a9 n hn hn
 .obtain⟨n,hn,rfl⟩:=KaH hm;exact rT n hn hn
open Go Go.FW Go.ChangeShapes Go.WideShapes Go.ChangeAt Go.RowKit
variable {H : Type} {enc : TypeId × Value -> H}
def DO(l:List Int):Prop:=l.length<=1048576/\∀x∈l,-9223372036854775808<=x/\x<=9223372036854775807
def SZ:Rd enc 63 λps=>∃l:List Int,ps=[PV.mono l]/\DO l:=by refine(yz (α:=Int) (f:=λ(x:Int)=>.int .i64 x) cV Tryz.underlying63 (by rw[CG];omega) (GL Tryz.underlying3)).mono ?_;rintro ps ⟨l,rfl,h1,h2⟩;exact⟨l,by rw[CG],h1,h2⟩
instance : Inhabited bB := ⟨⟨0, [], false, [], []⟩⟩
instance : Inhabited bR := ⟨⟨0, .empty, [], false, [], []⟩⟩
def FI(f:bB):Prop:=DO f.args/\Raw 1048576 f.n f.a f.d
def an9:Rd enc 65 λps=>∃f:bB,ps=(PV.dJ f).cells/\FI f:=by refine(Lr (Qs:=[λps=>∃n:Int,ps=[.int .i64 n]/\ -9223372036854775808<=n/\n<=9223372036854775807,λps=>∃l:List Int,ps=[PV.mono l]/\DO l,λps=>∃(n:Bool)(a d:List Nat),ps=[.bool n,PV.nat a,PV.nat d]/\Raw 1048576 n a d]) cV Tryz.underlying65 (by kernel_rfl) ⟨rfl,GL Tryz.underlying3,rfl,SZ,rfl,H3,trivial⟩).mono ?_;rintro ps ⟨p,q,rfl,⟨k,rfl,h0⟩,p1,q1,rfl,⟨l,rfl,h1⟩,p2,q2,rfl,⟨n,a,d,rfl,h2⟩,rfl⟩;exact⟨⟨k,l,n,a,d⟩,rfl,h1,h2⟩
def DE(s:bR):Prop:=s.name.size<=1048576/\DO s.args/\Raw 1048576 s.n s.a s.d
def ake{l:List UInt8}:l.length<=Rows.uptoBulk (H:=H) (.lit (.string l)):=by simp[Rows.uptoBulk]
def aoa:Rd enc 68 λps=>∃s:bR,ps=(PV.gK s).cells/\DE s:=by refine(Lr (Qs:=[λps=>∃n:Int,ps=[.int .i64 n]/\ -9223372036854775808<=n/\n<=9223372036854775807,λps=>∃s:ByteArray,ps=[.str s]/\s.size<=1048576,λps=>∃l:List Int,ps=[PV.mono l]/\DO l,λps=>∃(n:Bool)(a d:List Nat),ps=[.bool n,PV.nat a,PV.nat d]/\Raw 1048576 n a d]) cV Tryz.underlying68 (by kernel_rfl) ⟨rfl,GL Tryz.underlying3,rfl,Q6f Tryz.underlying9 (λl=>ake),rfl,SZ,rfl,H3,trivial⟩).mono ?_;rintro ps ⟨p,q,rfl,⟨k,rfl,h0⟩,p3,q3,rfl,⟨s,rfl,h3⟩,p1,q1,rfl,⟨l,rfl,h1⟩,p2,q2,rfl,⟨n,a,d,rfl,h2⟩,rfl⟩;exact⟨⟨k,s,l,n,a,d⟩,rfl,h3,h1,h2⟩
def WS:Tryz.prog.cellsOf 65=5:=by kernel_rfl
def WU:Tryz.prog.cellsOf 68=6:=by kernel_rfl
def DF(G:List bB):Prop:=G.length<=1048576/\∀g∈G,FI g
def J7(S:List bR)(G:List bB):Prop:=(S.length<=1048576/\∀s∈S,DE s)/\DF G
def RS:Rd enc 23 λps=>∃G:List bB,ps=[.sl 5 (G.map PV.dJ)]/\DF G:=by refine(yz (α:=bB) (f:=PV.dJ) (G:=FI) cV Tryz.underlying23 (by rw[WS];omega) an9).mono ?_;rintro ps ⟨l,rfl,h1,h2⟩;exact⟨l,by rw[WS],h1,h2⟩
def ahz:Rd enc 25 λps=>∃(S:List bR)(G:List bB),ps=(PV.cn S G).cells/\J7 S G:=by
 refine(Lr (Qs:=[λps=>∃l:List bR,ps=[.sl 6 (l.map PV.gK)]/\l.length<=1048576/\∀s∈l,DE s,λps=>∃G:List bB,ps=[.sl 5 (G.map PV.dJ)]/\DF G]) cV Tryz.underlying25 (by kernel_rfl) ⟨rfl,?_,rfl,RS,trivial⟩).mono ?_
 .refine(yz (α:=bR) (f:=PV.gK) (G:=DE) cV Tryz.underlying22 (by rw[WU];omega) aoa).mono ?_;rintro ps ⟨l,rfl,h1,h2⟩;exact⟨l,by rw[WU],h1,h2⟩
 rintro ps ⟨p,q,rfl,⟨S,rfl,h1⟩,p2,q2,rfl,⟨G,rfl,h2⟩,rfl⟩;exact⟨S,G,rfl,h1,h2⟩
variable {w : World} {base : Nat} {spare : Nat -> Bool} {held : Bool} {r : Reach} {b0 : Nat} {v : Value} {d : DataW H} {ps : List MemPlace}
def af8(fW:Value.okWide Tryz.prog w r b0 25 v)(hd:DataW.Trod enc Tryz.prog w base spare held 25 v d ps)(hn:Rows.uptoBulk d<=1048576):∃S G,bS w di (PV.cn S G) v/\J7 S G:=by obtain⟨p,⟨S,G,rfl,h⟩,h2⟩:=afL Tryz.underlying25 fW ahz hd hn;exact⟨S,G,h2,h⟩
def TN(h:FI f):iA f:=⟨by have:=h.1.1;omega,h.2⟩
def acP{s:bR}(h:DE s):lX s:=⟨by have:=h.1;omega,by have:=h.2.1.1;omega,h.2.2⟩
end Go.Proofs.YtikalonaompbdaaGreat
namespace Go.Proofs.YtikalonaompbdaaGreat
open Go.Proofs.Tryz
open Go Go.FW
def auA:ax:=⟨52,[.t 2],Zr (Yf 2 0)<| .seq (.block 0<|Zr (Zm 4 0<|Zo (.bin 5 .eql false (.t 4) (.c (.int .u8 32)))<|YE 6 5 0<|Zg 6 false (.bin 8 .eql false (.t 7) (.c (.int .u8 9)))<|Yk 9 6 8<|YE 10 9 0<|Zg 10 false (.bin 12 .eql false (.t 11) (.c (.int .u8 13)))<|Yk 13 10 12<|YE 14 13 0<|Zg 14 false (.bin 16 .eql false (.t 15) (.c (.int .u8 10)))<|Yk 17 14 16<|Yc 3 17)<| .cond (.t 3) (Zr (Yf 2 1) .ret) (Zr (jR 19 97 122<|YE 25 24 0<|Zg 25 false (.bin 27 .geq false (.t 26) (.c (.int .u8 65)))<|Zg 25 false (.mv 28 (.t 27))<|Zg 28 true (.mv 29 (.t 0))<|Zg 28 true (.bin 30 .leq false (.t 29) (.c (.int .u8 90)))<|Zg 25 false (.pick 31 (.t 28) (.t 30) (.c (.bool false)))<|Yk 32 25 31<|Yc 18 32)<| .cond (.t 18) (Zr (Yf 2 2) .ret) (Zr (jR 34 48 57<|Zm 33 39 .nil)<| .cond (.t 33) (Zr (Yf 2 3) .ret) .skip)))<| .seq (Zr (Yc 40 0)<| .block 1<| .seq (Zr (vP 42 40 41)<| .cond (.t 41) .skip (Zr (vP 43 41 41)<| .cond (.t 41) .skip (Zr (vP 44 44 41)<| .cond (.t 41) .skip (Zr (vP 45 59 41)<| .cond (.t 41) .skip (Zr (vP 46 47 41)<| .cond (.t 41) .skip (.rg (vP 47 45 41)))))))<| .cond (.t 41) (Zr (Yf 2 4) .ret) (Zr (vP 49 58 48)<| .cond (.t 48) (Zr (Yf 2 5) .ret) (Zr (vP 51 35 50)<| .cond (.t 50) (Zr (Yf 2 6) .ret) .skip)))<|Zr (Yf 2 0) .ret⟩
def J8:Qc Tryz.prog f340=some auA:=by kernel_rfl
def auB:ax:=⟨31,[.t 6],Zr (Yf 6 0)<| .seq (.block 0<| .loop<| .seq (Zr (Yh 7 1 0<|Zo (.ym 9 (.t 8))<|Zb 10 .lss 7 9<|YO 11 10 0<|Zg 11 true (.mv 13 (.t 1))<|Zg 11 true (.yl 14 (.t 12) (.t 13))<|Zg 11 true (.call (some 15) false (.c (.fn 340 [] [])) [.t 14])<|Zg 11 true (.bin 16 .eql false (.t 15) (.c (Zz 3)))<|Zg 11 true (.mv 17 (.t 16))<|Zg 17 false (.mv 18 (.t 2))<|Zg 17 false (.mv 19 (.t 18))<|Zg 19 true (.mv 20 (.t 0))<|Zg 19 true (.mv 21 (.t 1))<|Zg 19 true (.yl 22 (.t 20) (.t 21))<|Zg 19 true (.call (some 23) false (.c (.fn 340 [] [])) [.t 22])<|Zg 19 true (.bin 24 .eql false (.t 23) (.c (Zz 2)))<|Zg 17 false (.pick 25 (.t 19) (.t 24) (.c (.bool false)))<|Zg 11 true (.pick 26 (.t 17) (.c (.bool true)) (.t 25))<|Ym 27 11 26 .nil)<| .cond (.t 27) .skip (.exit 0))<| .block 1<| .rg (fO 28 1))<|Zr (MZ 30 1 6) .ret⟩
def aob:Qc Tryz.prog f341=some auB:=by kernel_rfl
def auC:ax:=⟨2,[.t 0],Zr (YI 0)<|Zr (Zo (.bs 1 1 9 [.c (.str ⟨#[0x61,0x6e,0x67,0x6c,0x65]⟩),.c (.str ⟨#[0x61,0x70,0x65,0x78]⟩),.c (.str ⟨#[0x62,0x69,0x73,0x65,0x63,0x74,0x6f,0x72]⟩),.c (.str ⟨#[0x63,0x65,0x6e,0x74,0x65,0x72]⟩),.c (.str ⟨#[0x63,0x69,0x72,0x63,0x6c,0x65]⟩),.c (.str ⟨#[0x63,0x69,0x72,0x63,0x75,0x6d]⟩),.c (.str ⟨#[0x63,0x6f,0x6c,0x6c,0x69,0x6e,0x65,0x61,0x72]⟩),.c (.str ⟨#[0x63,0x6f,0x6d,0x6d,0x6f,0x6e]⟩),.c (.str ⟨#[0x63,0x6f,0x6e,0x63,0x79,0x63,0x6c,0x69,0x63]⟩),.c (.str ⟨#[0x63,0x6f,0x6e,0x67,0x72,0x75,0x65,0x6e,0x74]⟩),.c (.str ⟨#[0x63,0x72,0x6f,0x73,0x73]⟩),.c (.str ⟨#[0x63,0x75,0x74]⟩),.c (.str ⟨#[0x64,0x69,0x76,0x69,0x64,0x65]⟩),.c (.str ⟨#[0x66,0x6f,0x6f,0x74]⟩),.c (.str ⟨#[0x6c,0x69,0x6e,0x65]⟩),.c (.str ⟨#[0x6d,0x65,0x65,0x74]⟩),.c (.str ⟨#[0x6d,0x69,0x64,0x70,0x6f,0x69,0x6e,0x74]⟩),.c (.str ⟨#[0x6d,0x69,0x72,0x72,0x6f,0x72]⟩),.c (.str ⟨#[0x6f,0x6e]⟩),.c (.str ⟨#[0x6f,0x74,0x68,0x65,0x72]⟩),.c (.str ⟨#[0x70,0x61,0x72,0x61,0x6c,0x6c,0x65,0x6c]⟩),.c (.str ⟨#[0x70,0x65,0x72,0x70,0x65,0x6e,0x64,0x69,0x63,0x75,0x6c,0x61,0x72]⟩),.c (.str ⟨#[0x70,0x6f,0x69,0x6e,0x74,0x73]⟩),.c (.str ⟨#[0x70,0x72,0x6f,0x76,0x65]⟩),.c (.str ⟨#[0x72,0x61,0x74,0x69,0x6f]⟩),.c (.str ⟨#[0x72,0x65,0x66,0x6c,0x65,0x63,0x74]⟩),.c (.str ⟨#[0x73,0x61,0x6d,0x65]⟩),.c (.str ⟨#[0x73,0x68,0x69,0x66,0x74]⟩),.c (.str ⟨#[0x74,0x75,0x72,0x6e]⟩)])<|Zm 0 1 .nil) .ret⟩
def aoc:Qc Tryz.prog f342=some auC:=by kernel_rfl
def atK:ax:=⟨35,[.t 2],Zr (Yl 2)<| .seq (Zr (Zm 5 0<|Zo (.gj 6 false (.t 5) (.c (.str ⟨#[]⟩)))<|YE 7 6 0<|Zg 7 false (.ym 9 (.t 8))<|Zg 7 false (.bin 10 .gtr false (.t 9) (.c (Zz 20)))<|Yk 11 7 10<|YE 12 11 0<|Zg 12 false (.yl 14 (.t 13) (.c (Zz 0)))<|Zg 12 false (.call (some 15) false (.c (.fn 340 [] [])) [.t 14])<|Zg 12 false (.bin 16 .neq false (.t 15) (.c (Zz 2)))<|Yk 17 12 16<|YE 18 17 0<|Zg 18 false (.call (some 20) false (.c (.fn 341 [] [])) [.t 19,.c (Zz 0),.c (.bool true)])<|Zg 18 false (.mv 21 (.t 0))<|Zg 18 false (.ym 22 (.t 21))<|Zg 18 false (.bin 23 .lss false (.t 20) (.t 22))<|xy 24 18 23)<| .cond (.t 24) (Zr (Yl 2) .ret) .skip)<| .seq (Zr (Zq 25 false 342 []<|Zn 26 25<|Yf 27 0)<| .block 0<| .loop<|Zr (Yu 28 27 26)<| .seq (.cond (.t 28) .skip (.exit 0))<| .seq (.block 1<|Zr (Yw 29 25 27<|Yc 4 30)<|Zr (Yh 31 4 0<|Zo (.gj 33 false (.t 31) (.t 32)) .nil)<| .cond (.t 33) (Zr (Yl 2) .ret) .skip)<| .rg (YH 34 27 27))<|Zr (By 2) .ret⟩
def aod:Qc Tryz.prog f259=some atK:=by kernel_rfl
def atG:ax:=⟨22,[.t 2],Zr (Yf 2 0)<| .seq (Zr (Yc 3 0)<| .block 0<|Zr (Yq 5 3 1 4)<| .cond (.t 4) (Zr (Yf 2 0) .ret) (.seq (Zr (Yq 7 3 2 6)<| .cond (.t 6) .skip (Zr (Yq 8 3 5 6)<| .cond (.t 6) .skip (Zr (Yq 9 3 6 6)<| .cond (.t 6) .skip (.rg (Yq 10 3 14 6)))))<| .cond (.t 6) (Zr (Yf 2 2) .ret) (.seq (Zr (Yq 12 3 3 11)<| .cond (.t 11) .skip (Zr (Yq 13 3 4 11)<| .cond (.t 11) .skip (Zr (Yq 14 3 7 11)<| .cond (.t 11) .skip (Zr (Yq 15 3 8 11)<| .cond (.t 11) .skip (Zr (Yq 16 3 10 11)<| .cond (.t 11) .skip (.rg (Yq 17 3 11 11)))))))<| .cond (.t 11) (Zr (Yf 2 3) .ret) (.seq (Zr (Yq 19 3 9 18)<| .cond (.t 18) .skip (Zr (Yq 20 3 12 18)<| .cond (.t 18) .skip (.rg (Yq 21 3 13 18))))<| .cond (.t 18) (Zr (Yf 2 4) .ret) .skip))))<|Zr (uq 2) .ret⟩
def aoe:Qc Tryz.prog f255=some atG:=by kernel_rfl
def atJ:ax:=⟨20,[.t 2],Zr (jA 1 49 0<|Yl 2)<|Zr (Zf 3 0 1<|Ya 4 0 3<|Zu 6 5<|iD 7) .ret⟩
def anF:Qc Tryz.prog f258=some atJ:=by kernel_rfl
def asz:ax:=⟨62,[.t 4],Zr (Zo (.box 3 1 3 (.t 1))<|Yf 4 0)<|Zr (Zm 7 0<|Zl 8 1 3<|ew 9 7 8 5<|Zs 6 5 10 .nil)<|Zr (Ya 11 0 5<|Yn 13 255 12<|Zm 6 13 .nil)<| .seq (.block 0<|Zr (BC 15 6<|Zm 14 16 .nil)<| .cond (.t 14) (Zr (Yf 4 8) .ret) (Zr (YT 18 2 5<|Zm 21 6<|Zb 22 .neq 20 21<|Zm 17 22 .nil)<| .cond (.t 17) (Zr (Yf 4 1) .ret) (Zr (Ya 24 2 5<|Zo (.fn 26 257 [] [.t 3])<|Yp 27 256 25 26<|Zm 23 27 .nil)<| .cond (.t 23) (Zr (Yf 4 2) .ret) (.seq (Zr (xw 29 5 2 3 77<|Zm 28 37 .nil)<| .cond (.t 28) .skip (.rg (Ya 38 0 5<|Zk 40 .neq 39 2<|Zm 41 40<|YB 41 3 5 258<|Ym 46 41 45<|Yc 28 46)))<| .cond (.t 28) (Zr (Yf 4 1) .ret) (Zr (Ya 48 1 5<|Zo (.gj 50 false (.t 49) (.c (.str ⟨#[]⟩)))<|Zm 47 50 .nil)<| .cond (.t 47) (Zr (Yf 4 0) .ret) (Zr (Ya 52 1 5<|Yn 54 259 53<|Zu 55 54<|Zm 51 55 .nil)<| .cond (.t 51) (Zr (Yf 4 6) .ret) (Zr (Zm 57 0<|Zl 58 1 3<|BD 59 6 57 58<|Zo (.fn 60 261 [] [.t 5])<|Yp 61 260 59 60<|Zm 56 61 .nil)<| .cond (.t 56) (Zr (Yf 4 7) .ret) .skip)))))))<|Zr (Yf 4 0) .ret⟩
def anG:Qc Tryz.prog f140=some asz:=by kernel_rfl
def atI:ax:=⟨11,[.t 3],Zr (Yl 3)<|Zr (BC 4 0<|YE 6 5 0<|Zg 6 false (.ld 8 1 false (.t 1))<|Zg 6 false (.bin 9 .geq false (.t 7) (.t 8))<|Yk 10 6 9<|Zm 3 10 .nil) .ret⟩
def anH:Qc Tryz.prog f257=some atI:=by kernel_rfl
def atN:ax:=⟨9,[.t 3],Zr (Zo (.box 2 6 68 (.t 0))<|Yl 3)<|Zr (dW 4 1 2 1 1<|Zo (.gj 8 false (.t 5) (.t 7))<|Zm 3 8 .nil) .ret⟩
def anI:Qc Tryz.prog f261=some atN:=by kernel_rfl
def c75:ax:=⟨48,[.t 2],Zr (uu 1 25 0<|Yf 2 0)<| .seq (Zr (YT 8 0 1<|Zk 11 .gtr 10 40<|Yx 12 11 1 1<|YV 12 8 .nil)<| .cond (.t 17) (Zr (Yf 2 4) .ret) .skip)<| .seq (Zr (YT 18 0 1<|Yf 21 0)<| .block 0<| .loop<|Zr (Yu 22 21 20)<| .seq (.cond (.t 22) .skip (.exit 0))<| .seq (.block 1<|Zr (MZ 23 21 3)<|Zr (eF 24 0 1 3<|Yp 27 140 25 26<|Yc 4 27)<|Zr (YQ 28 4)<| .cond (.t 29) (Zr (MZ 30 4 2) .ret) .skip)<| .rg (YH 31 21 21))<| .seq (Zr (YT 32 1 1<|Yf 35 0)<| .block 2<| .loop<|Zr (Yu 36 35 34)<| .seq (.cond (.t 36) .skip (.exit 2))<| .seq (.block 3<|Zr (jS 37 33 35 6)<|Zr (Zh 39 5 6<|YT 40 0 1<|Yp 43 141 39 42<|Yc 7 43)<|Zr (YQ 44 7)<| .cond (.t 45) (Zr (MZ 46 7 2) .ret) .skip)<| .rg (YH 47 35 35))<|Zr (Yf 2 0) .ret⟩
def acQ:Qc Tryz.prog f75=some c75:=by kernel_rfl
def atH:ax:=⟨9,[.t 4],Zr (Yl 4)<|Zr (YZ 5 0 1 339<|Zk 8 .geq 7 0<|Zm 4 8 .nil) .ret⟩
def anJ:Qc Tryz.prog f256=some atH:=by kernel_rfl
def auy:ax:=⟨19,[.t 4],Zr (Yf 4 0)<| .seq (Zr (dS 6 0)<| .block 0<| .loop<|Zr (Yu 9 8 7)<| .seq (.cond (.t 9) .skip (.exit 0))<| .seq (.block 1<|Zr (kO 10 8 5)<|Zr (dq 11 1 0 5<|Yw 14 12 13<|Zo (.call (some 16) false (.t 11) [.t 15]) .nil)<| .cond (.t 16) (Zr (MZ 17 5 4) .ret) .skip)<| .rg (YH 18 8 8))<|Zr (uq 4) .ret⟩
def anK:Qc Tryz.prog f339=some auy:=by kernel_rfl
def atM:ax:=⟨9,[.t 4],Zr (Yl 4)<|Zr (YZ 5 0 1 343<|Zk 8 .geq 7 0<|Zm 4 8 .nil) .ret⟩
def anL:Qc Tryz.prog f260=some atM:=by kernel_rfl
def auD:ax:=⟨19,[.t 4],Zr (Yf 4 0)<| .seq (Zr (dS 6 0)<| .block 0<| .loop<|Zr (Yu 9 8 7)<| .seq (.cond (.t 9) .skip (.exit 0))<| .seq (.block 1<|Zr (kO 10 8 5)<|Zr (dq 11 1 0 5<|YG 14 6 12 13<|Zo (.call (some 16) false (.t 11) [.t 15]) .nil)<| .cond (.t 16) (Zr (MZ 17 5 4) .ret) .skip)<| .rg (YH 18 8 8))<|Zr (uq 4) .ret⟩
def anM:Qc Tryz.prog f343=some auD:=by kernel_rfl
def asC:ax:=⟨20,[.cell 6 2 true],Zr (dH 3 2 122 0<|dH 4 2 122 1<|Yr 6 122 .nil)<|Zr (Zm 7 2<|iS 8 3 0<|iS 10 4 0<|Zm 13 2<|iS 14 3 1<|iS 16 4 1<|Zo (.call (some 12) true (.t 7) [.t 9,.t 11])<|Zo (.call (some 18) true (.t 13) [.t 15,.t 17])<|rN 19 12 18<|Zs 2 6 19 .nil) .ret⟩
def anN:Qc Tryz.prog f145=some asC:=by kernel_rfl
def asD:ax:=⟨8,[.cell 2 2 true],Zr (uu 1 81 0<|Zo (.alloc 2 2 122 (.agg [.aa,.aa])) .nil)<|Zr (dW 3 0 1 1 1<|rN 7 4 6<|Zs 2 2 7 .nil) .ret⟩
def anO:Qc Tryz.prog f146=some asD:=by kernel_rfl
def asB:ax:=⟨10,[.cell 4 2 true],Zr (my 2 81 0<|dH 3 2 81 1<|Yr 4 122 .nil)<|Zr (Zh 5 2 3<|Zh 7 2 2<|nQ 6 146 5<|nQ 8 146 7<|Zq 9 true 145 [.t 6,.t 8,.c (.fn 36 [] [])]<|Zs 2 4 9 .nil) .ret⟩
def aop:Qc Tryz.prog f144=some asB:=by kernel_rfl
def atd:ax:=⟨23,[.t 2],Zr (uu 1 76 0<|YI 2)<|Zr (YI 3)<| .seq (Zr (YT 6 1 1<|Yf 9 0)<| .block 0<| .loop<|Zr (Yu 10 9 8)<| .seq (.cond (.t 10) .skip (.exit 0))<| .seq (.block 1<|Zr (Zm 11 9<|YG 12 3 7 9<|Zo (.alloc 5 3 253 (.agg [Zz 0,Zz 0,Zz 0]))<|Zm 4 11<|Zs 3 5 13 .nil)<|Zr (Ya 14 0 5<|BA 16 15 1)<| .cond (.t 16) (.rg (Yh 17 3 4<|YA 19 1 3 18 8 17<|Yc 3 20)) .skip)<| .rg (YH 21 9 9))<|Zr (MZ 22 3 2) .ret⟩
def aoq:Qc Tryz.prog f190=some atd:=by kernel_rfl
def c30:ax:=⟨21,[.t 2],Zr (uu 1 25 0<|Yl 2)<| .seq (Zr (YT 5 0 1<|Yf 8 0)<| .block 0<| .loop<|Zr (Yu 9 8 7)<| .seq (.cond (.t 9) .skip (.exit 0))<| .seq (.block 1<|Zr (ew 10 6 8 4<|Zs 6 4 11 .nil)<|Zr (Ya 12 0 4 .nil)<| .block 2<| .seq (Zr (Yq 15 13 1 14)<| .cond (.t 14) .skip (Zr (Yq 16 13 2 14)<| .cond (.t 14) .skip (Zr (Yq 17 13 3 14)<| .cond (.t 14) .skip (Zr (Yq 18 13 4 14)<| .cond (.t 14) .skip (.rg (Yq 19 13 5 14))))))<| .cond (.t 14) .skip (Zr (Yl 2) .ret))<| .rg (YH 20 8 8))<|Zr (By 2) .ret⟩
def acR:Qc Tryz.prog f30=some c30:=by kernel_rfl
def c31:ax:=⟨43,[.t 4],Zr (Zo (.box 2 5 65 (.t 0))<|Yf 4 0)<| .seq (Zr (Ya 7 0 2<|Zk 9 .neq 8 4<|Zm 10 9<|YK 10 0 2<|Zg 10 true (.bin 13 .neq false (.t 12) (.c (Zz 9)))<|Ym 14 10 13 .nil)<| .cond (.t 14) (Zr (Yf 4 8) .ret) .skip)<| .seq (Zr (YT 15 1 2<|Zk 18 .neq 17 4 .nil)<| .cond (.t 18) (Zr (Yf 4 1) .ret) .skip)<| .seq (Zr (YT 19 1 2<|Yf 22 0)<| .block 0<| .loop<|Zr (Yu 23 22 21)<| .seq (.cond (.t 23) .skip (.exit 0))<| .seq (.block 1<|Zr (Yw 24 20 22<|Yc 6 25)<|Zr (pz 26 6)<| .cond (.t 32) (Zr (Yf 4 2) .ret) .skip)<| .rg (YH 33 22 22))<| .seq (Zr (xw 34 2 9 2 77 .nil)<| .cond (.t 42) (Zr (Yf 4 1) .ret) .skip)<|Zr (Yf 4 0) .ret⟩
def TO:Qc Tryz.prog f31=some c31:=by kernel_rfl
def c41:ax:=⟨10,[.t 2],Zr (Yl 2)<|Zr (Yv 3 0<|Zk 5 .gtr 4 4000<|YE 6 5 0<|Zg 6 false (.call (some 8) false (.c (.fn 87 [] [])) [.t 7,.c (.fn 88 [] [])])<|Yk 9 6 8<|Zm 2 9 .nil) .ret⟩
def acS:Qc Tryz.prog f41=some c41:=by kernel_rfl
def c88:ax:=⟨6,[.t 2],Zr (Zo (.box 1 4 114 (.t 0))<|Yl 2)<|Zr (Zf 3 3 1<|Zl 4 1 3<|Zq 5 false 89 [.t 4,.c (.fn 90 [] [])]<|Zm 2 5 .nil) .ret⟩
def acT:Qc Tryz.prog f88=some c88:=by kernel_rfl
def c90:ax:=⟨5,[.t 2],Zr (Yl 2)<|Zr (Zm 3 0<|Zk 4 .gtr 3 1048576<|Zm 2 4 .nil) .ret⟩
def adv:Qc Tryz.prog f90=some c90:=by kernel_rfl
def c10:ax:=⟨47,[.t 4,.t 5],Zr (my 2 25 0<|dH 3 1 23 1<|gz 4 0)<|Zr (iB 14 2 2 29<|Zm 13 15<|Yd 16 13<|Yr 6 76<|Zs 2 6 16<|Zm 7 17 .nil)<| .seq (Zr (YQ 18 7)<| .cond (.t 19) (Zr (Zm 20 7<|Yi 4<|Yc 5 20) .ret) .skip)<| .seq (Zr (Zh 21 2 2<|Zq 22 false 30 [.t 21]<|Zu 23 22 .nil)<| .cond (.t 23) (Zr (gz 4 8) .ret) .skip)<| .seq (Zr (Zl 24 1 3<|Zn 25 24<|Yf 26 0)<| .block 0<| .loop<|Zr (Yu 27 26 25)<| .seq (.cond (.t 27) .skip (.exit 0))<| .seq (.block 1<|Zr (jS 28 24 26 9)<|Zr (Zh 30 5 9<|YT 31 0 2<|Yp 34 31 30 33<|Yc 10 34)<|Zr (YQ 35 10)<| .cond (.t 36) (Zr (Zm 37 10<|Yi 4<|Yc 5 37) .ret) .skip)<| .rg (YH 38 26 26))<|Zr (Zo (.fn 39 32 [] [.t 6])<|Zo (.alloc 11 1 83 .nf)<|Zs 1 11 39 .nil)<|Zr (Zo (.fn 40 34 [] [.t 3,.t 11])<|Yc 12 40)<|Zr (Zl 41 1 3<|Zn 42 41<|Zm 43 12<|Zq 44 false 38 [.t 42,.c .aa,.t 43,.c (.fn 39 [] [])]<|Yd 45 44<|ic 4 45 46) .ret⟩
def adw:Qc Tryz.prog f10=some c10:=by kernel_rfl
def c32:ax:=⟨23,[.t 5],Zr (YI 5)<|Zr (eF 8 0 2 0<|YG 11 2 9 10<|Zf 13 0 2<|Zm 15 1<| .br (Zl 14 1 13<|Zi 16 2 14 15<| .br (Zh 17 2 16<| .br (Yr 6 81<|Yr 7 81<|Zs 2 6 12<|iR 2 17) (Yr 7 81<|Yr 6 81<|Zs 2 6 12<|iR 2 17)) (.br (Yr 6 81<| .br (Zh 17 2 16<|Yr 7 81<|Zs 2 6 12<|iR 2 17) (Yr 7 81<| .br (Zh 17 2 16<|Zs 2 6 12<|iR 2 17) (Zs 2 6 12<|Zh 17 2 16<|iR 2 17))) (Yr 7 81<| .br (Zh 17 2 16<|Yr 6 81<|Zs 2 6 12<|iR 2 17) (Yr 6 81<| .br (Zh 17 2 16<|Zs 2 6 12<|iR 2 17) (Zs 2 6 12<|Zh 17 2 16<|iR 2 17))))) (.br (Yr 6 81<| .br (Zl 14 1 13<|Zi 16 2 14 15<| .br (Zh 17 2 16<|Yr 7 81<|Zs 2 6 12<|iR 2 17) (Yr 7 81<| .br (Zh 17 2 16<|Zs 2 6 12<|iR 2 17) (Zs 2 6 12<|Zh 17 2 16<|iR 2 17))) (Yr 7 81<| .br (Zl 14 1 13<|Zi 16 2 14 15<| .br (Zh 17 2 16<|Zs 2 6 12<|iR 2 17) (Zs 2 6 12<|Zh 17 2 16<|iR 2 17)) (Zs 2 6 12<|Zl 14 1 13<|YG 16 2 14 15<|iR 2 17))) (Yr 7 81<| .br (Zl 14 1 13<|Zi 16 2 14 15<| .br (Zh 17 2 16<|Yr 6 81<|Zs 2 6 12<|iR 2 17) (Yr 6 81<| .br (Zh 17 2 16<|Zs 2 6 12<|iR 2 17) (Zs 2 6 12<|Zh 17 2 16<|iR 2 17))) (Yr 6 81<| .br (Zl 14 1 13<|Zi 16 2 14 15<| .br (Zh 17 2 16<|Zs 2 6 12<|iR 2 17) (Zs 2 6 12<|Zh 17 2 16<|iR 2 17)) (Zs 2 6 12<|Zl 14 1 13<|YG 16 2 14 15<|iR 2 17)))))<|Zr (Zh 18 2 6<|Zh 19 2 7<|Zh 20 2 6<|Zh 21 2 7<|Zq 22 false 33 [.t 18,.t 19,.t 20,.t 21]<|Yc 5 22) .ret⟩
def adx:Qc Tryz.prog f32=some c32:=by kernel_rfl
def c34:ax:=⟨43,[.t 4],Zr (YI 4)<|Zr (Zl 7 1 1<|Zm 8 0<|Zi 9 5 7 8<|Ya 10 1 9<|Zm 5 11 .nil)<|Zr (Zq 12 false 35 [.c (Zz 1)]<|Ye 6<|Zs 3 6 12 .nil)<| .seq (Zr (Zl 13 1 1<|Zm 14 0<|Zi 15 5 13 14<|Ya 16 0 15<|BA 18 17 9)<| .cond (.t 18) (.rg (Zl 19 1 1<|Zm 20 0<|Zi 21 5 19 20<|cM 22 2 21 3<|Zs 3 6 23 .nil)) .skip)<|Zr (Zl 24 1 2<|Yo 25 5 1 0<|Zl 27 1 26<|Yo 28 5 1 1<|Zl 30 1 29<|Zl 32 1 2<|Yo 33 5 1 2<|Zl 35 1 34<|Yo 36 5 1 3<|Zl 38 1 37<|Zh 40 3 6<|Zo (.call (some 31) true (.t 24) [.t 27,.t 30])<|Zo (.call (some 39) true (.t 32) [.t 35,.t 38])<|Ys 41 37 39 40<|Ys 42 36 31 41<|Yc 4 42) .ret⟩
def ady:Qc Tryz.prog f34=some c34:=by kernel_rfl
def c39:ax:=⟨13,[.t 4,.t 5],Zr (gz 4 0)<|Zr (YZ 7 0 1 40<|Zm 6 9 .nil)<| .seq (Zr (YJ 10 6 41 .nil)<| .cond (.t 11) (Zr (gz 4 4) .ret) .skip)<|Zr (Zm 12 6<|Zm 4 12<|Yf 5 0) .ret⟩
def adz:Qc Tryz.prog f39=some c39:=by kernel_rfl
def c38:ax:=⟨35,[.t 8,.t 9],Zr (gz 8 0)<|Zr (kO 14 1 10)<| .seq (Zr (Zm 15 0<|Yf 16 0)<| .block 0<| .loop<|Zr (Yu 17 16 15)<| .seq (.cond (.t 17) .skip (.exit 0))<| .seq (.block 1<|Zr (kO 18 16 11)<|Zr (Yh 20 3 10<|Yh 22 2 11<|Zo (.call (some 24) false (.t 22) [.t 23])<|Zo (.call (some 25) false (.t 20) [.t 21,.t 24])<|Zm 19 25<|Yd 26 19<|ic 12 26 27)<| .seq (Zr (YQ 28 13)<| .cond (.t 29) (Zr (Yh 30 1 13<|ic 8 30 31) .ret) .skip)<| .rg (MZ 32 12 10))<| .rg (YC 33 16 16))<|Zr (Zm 34 10<|Zm 8 34<|Yf 9 0) .ret⟩
def adA:Qc Tryz.prog f38=some c38:=by kernel_rfl
def c43:ax:=⟨36,[.t 2],Zr (uu 1 25 0<|Yl 2)<| .seq (Zr (Yf 3 0)<| .block 0<| .loop<| .seq (Zr (Zm 5 3<|YT 6 0 1<|Yu 9 5 8)<| .cond (.t 9) .skip (.exit 0))<| .seq (.block 1<|Zr (eF 12 0 1 3<|Zi 15 6 13 14<|Ya 16 0 15<|Yc 4 17)<|Zr (Zm 18 4<|Zk 19 .neq 18 1<|YO 20 19 4<|Zg 20 true (.bin 22 .neq false (.t 21) (.c (Zz 2)))<|Ym 23 20 22<|YO 24 23 4<|Zg 24 true (.bin 26 .neq false (.t 25) (.c (Zz 3)))<|Ym 27 24 26<|YO 28 27 4<|Zg 28 true (.bin 30 .neq false (.t 29) (.c (Zz 4)))<|Ym 31 28 30<|YO 32 31 4<|Zg 32 true (.bin 34 .neq false (.t 33) (.c (Zz 5)))<|Ym 35 32 34 .nil)<| .cond (.t 35) (Zr (Yl 2) .ret) .skip)<| .rg (Zm 10 3<|YH 11 10 3))<|Zr (By 2) .ret⟩
def adB:Qc Tryz.prog f43=some c43:=by kernel_rfl
def c44:ax:=⟨48,[.t 4],Zr (my 2 25 0<|jA 3 65 1<|Yf 4 0)<| .seq (Zr (Ya 6 0 3<|Zk 8 .neq 7 4<|Zm 9 8<|YK 9 0 3<|Zg 9 true (.bin 12 .neq false (.t 11) (.c (Zz 9)))<|Ym 13 9 12 .nil)<| .cond (.t 13) (Zr (Yf 4 8) .ret) .skip)<| .seq (Zr (YT 14 1 3<|Zk 17 .neq 16 4 .nil)<| .cond (.t 17) (Zr (Yf 4 1) .ret) .skip)<| .seq (Zr (Yf 5 0)<| .block 0<| .loop<| .seq (Zr (Zm 18 5<|Zk 19 .lss 18 4 .nil)<| .cond (.t 19) .skip (.exit 0))<| .seq (.block 1<|Zr (eF 22 1 3 5<|Yw 25 23 24<|Zk 27 .lss 26 0<|Yx 28 27 1 3<|Zg 28 false (.mv 31 (.t 5))<|Zg 28 false (.idx 32 1 (.t 30) (.t 31))<|Zg 28 false (.ld 33 1 false (.t 32))<|Zg 28 false (.dI 34 0 (.t 2))<|Zg 28 false (.ld 35 1 false (.t 34))<|Zg 28 false (.len 36 (.t 35))<|Zg 28 false (.bin 37 .geq false (.t 33) (.t 36))<|xy 38 28 37)<| .cond (.t 38) (Zr (Yf 4 2) .ret) .skip)<| .rg (fO 20 5))<| .seq (Zr (xw 39 3 9 2 16 .nil)<| .cond (.t 47) (Zr (Yf 4 1) .ret) .skip)<|Zr (Yf 4 0) .ret⟩
def TP:Qc Tryz.prog f44=some c44:=by kernel_rfl
end Go.Proofs.YtikalonaompbdaaGreat
namespace Go.FW
open Go
variable {C : Ctx} {ρ : Nat -> Option Nat} {fr aG : Fr} {hp hp' : HP} {w w' : World} {K R : Qf}
variable{A:HB}{D p v x:PV}{P:Program}{aQ args cap first xs:List PV}{ag ng pr z:Bool}{fn:Func}{k:Int}{sf:ax}{sk:List It}
def Ba{s γ bb:Nat}{q:HB}(h:fr s= .jB bb 0)(hf:C.fx γ=some bb)(hy:aP γ=true)(hq:hp γ=some q):DU C fr hp (ae fr s (.np γ 0 0)) hp:=by
 rintro tmps w ⟨ρ,hs⟩;refine⟨ρ,hs.sz,hs.ext,hs.fG,hs.own,hs.inj,λi=>?_⟩;unfold ae;split
 .rename_i hi;subst hi;have bm:=hs.cQ i;rw[h]at bm;have e:Qn w (aM C ρ hp) (.jB bb 0) (tmps.getD i undef):=bm;obtain⟨v,hv⟩:∃v,v=tmps.getD i undef:=⟨_,rfl⟩
  rw[<-hv]at e⊢;cases e;exact⟨by simp[aP]at hy;simp[bN];omega,bb,q,by rw[(hs.own γ q hq).fix hy];exact hf,hq,by simp⟩
 .exact hs.cQ i
def aor{γ i o d:Nat}:yR (.np γ i o) (some d) fr hp K=K (ae fr d (.np γ i o)) hp:=rfl
def akf{γ i o:Nat}:yR (.np γ i o) none fr hp K=K fr hp:=rfl
def aos{ty b o d:Nat}:fM 1 ty (.jB b o) d fr hp K=K (ae (cI d fr) d (.mp d 0 0)) (Qg hp d ⟨1,ty,[.jB b o],false⟩):=by
 have e:FW.Qu hp []=hp:=by funext O;simp[FW.Qu]
 simp[fM,Qr,cA,PV.aJ,PV.cells,PV.refs,e]
def adC{ty d:Nat}:fM 1 ty .nf d fr hp K=K (ae (cI d fr) d (.mp d 0 0)) (Qg hp d ⟨1,ty,[.nf],false⟩):=by
 have e:FW.Qu hp []=hp:=by funext O;simp[FW.Qu]
 simp[fM,Qr,cA,PV.aJ,PV.cells,PV.refs,e]
def aot{d:Nat}:ue ng .aa d fr hp K=K (ae fr d (.bool (!ng))) hp:=rfl
def akg{e d:Nat}:ue ng (.sl e (x::xs)) d fr hp K=K (ae fr d (.bool ng)) hp:=by simp[ue]
def adD{e d:Nat}:ue ng (.sl e xs) d fr hp K=((xs=[]->K (ae fr d (.bool (!ng))) hp)/\K (ae fr d (.bool ng)) hp):=rfl
attribute [go_sem] aot akg
attribute [go_sem] aor akf aos adC
def AP{H:HP}{O e ty:Nat}(h:H O=some ⟨e,ty,[x],z⟩)(hy:aP O=false):cA H (.mp O 0 0)= .pt x.cells:=by simp[cA,hy,h]
def yL{f β1 β2 γ e1 e2 t1 t2 ty:Nat}{x1 x2:PV}{z1 z2:Bool}(h0:hp γ=some ⟨1,ty,[v],false⟩)(h1:hp β1=some ⟨e1,t1,[x1],z1⟩)(h2:hp β2=some ⟨e2,t2,[x2],z2⟩)(n1:γ≠β1)(n2:γ≠β2)(y1:aP β1=false)(y2:aP β2=false):
  FW.stM (FW.Qu hp (PV.fn f [] [.mp β1 0 0,.mp β2 0 0]).refs γ) γ 1 0 0 (Qr hp (.fn f [] [.mp β1 0 0,.mp β2 0 0])) fr (FW.Qu hp (PV.fn f [] [.mp β1 0 0,.mp β2 0 0]).refs) K=K fr (Qg (FW.Qu hp [β1,β2]) γ ⟨1,ty,[.fn f [] [.pt x1.cells,.pt x2.cells]],false⟩):=by
 have es:Qr hp (.fn f [] [.mp β1 0 0,.mp β2 0 0])= .fn f [] [.pt x1.cells,.pt x2.cells]:=by simp only[Qr,Kbs,Ka3,AP h1 y1,AP h2 y2]
 have ef:FW.Qu hp [β1,β2] γ=some ⟨1,ty,[v],false⟩:=by simp[FW.Qu,n1,n2,h0]
 rw[es,show(PV.fn f [] [.mp β1 0 0,.mp β2 0 0]).refs=[β1,β2]from rfl,ef];rw[va (n:=1) (xs:=[v]) (Kce 0) rfl rfl];rfl
def H4{r:RT}(s:Nat){f O e ty:Nat}(h:fr s= .fn f [] [.mp O 0 0])(hb:hp O=some ⟨e,ty,[x],z⟩)(hy:aP O=false)(hv:vc C R (.o r::sk) (ae fr s (.fn f [] [.pt x.cells])) (FW.Qu hp [O])):vc C R (.o (.wk r)::sk) fr hp:=by
 have es:Qr hp (fr s)= .fn f [] [.pt x.cells]:=by rw[h];simp only[Qr,Kbs,Ka3,AP hb hy]
 have h2:=vm (fr:=fr) (hp:=hp) s (by rw[es];rfl);rw[es,h]at h2;exact bV h2 hv
def AL.np{P:Program}{f:FuncId}{args:List PV}{G:Fr}{aN:PV->Fr->HP->Prop}(h:∀bb,AL (λfx=>fx 1000000=some bb) P f (.jB bb 0::args) G hp aN):jc P f (.np 1000000 0 0::args) G hp aN:=by
 refine⟨(h 0).1,λC ρ aL w hP hw hN hs=>?_⟩;have h0:=hs.cQ 0;obtain⟨_,b,q,k1,k2,k3⟩:dy C ρ hp w (.np 1000000 0 0) (aL.getD 0 undef):=h0;have hf:C.fx 1000000=some b:=by rw[<-(hs.own _ q k2).fix (by decide)];exact k1
 refine(h b).2 C ρ aL w hP hw hN hf ⟨hs.sz,hs.ext,hs.fG,hs.own,hs.inj,λi=>?_⟩;have bm:=hs.cQ i;cases i with
 |zero=>show Qn w (aM C ρ hp) (.jB b 0) (aL.getD 0 undef);rw[k3];simpa using Qn.jB b 0
 |succ i=>unfold rK at bm⊢;simpa using bm
def yA  {f : FuncId}    {G : Fr} {aB : HP} {aN : PV -> Fr -> HP -> Prop} (hm : P.follows .mixedOrders = true) (hf : P.funcs[f]? = some fn) (nd : (fn.name != "runtime.NumGoroutine") = true) (hc : Qc P fn = some sf.strip) (hn : args.length + 1 <= sf.n /\ sf.n <= 1000000)
  (hv:∀(C:Ctx)(bb:Nat),C.P=P->C.fx 1000000=some bb->vc C (lW sf.rs aN) [.c sf.body] (rK (.jB bb 0::args) G) aB):jc P f (.np 1000000 0 0::args) G aB aN:=
 AL.np λbb=>GP hm hf nd hc hn λC h1 h2=>hv C bb h1 h2
def eE(p:PV):Bool:=match p with
 |.int .. | .bool _| .aa| .sl .. | .agg _| .pt _| .str _| .jB .. =>true
 |.fn _ first cap=>(first++cap).all λx=>match x with| .int .. | .bool _| .aa| .sl .. | .pt _| .jB .. =>true|_=>false
 |_=>false
def AA(h:eE p=true):p.refs=[]/\p.aO=[]/\∀σ,bF σ p=p:=by
 cases p with
 | fn f first cap=>
  have key:∀l:List PV,(l.all λx=>match x with| .int .. | .bool _| .aa| .sl .. | .pt _| .jB .. =>true|_=>false)=true->l.flatMap PV.cm=[]/\l.flatMap PV.fu=[]/\∀σ,l.map (dh σ)=l:=λl hl=>by
   rw[Kas]at hl;refine⟨Kcw.2 λx hx=>?_,Kcw.2 λx hx=>?_,λσ=>?_⟩
   .have:=hl x hx;cases x<;>first|rfl|simp at this
   .have:=hl x hx;cases x<;>first|rfl|simp at this
   .conv=>rhs;rw[<-List.map_id l]
    exact KaF λx hx=>by have:=hl x hx;cases x<;>first|rfl|simp at this
  simp only[eE,List.all_append,Kav]at h;obtain⟨a1,a2,a3⟩:=key _ h.1;obtain⟨b1,b2,b3⟩:=key _ h.2;exact⟨by simp only[PV.refs,a1,b1,Kai],by simp only[PV.aO,a2,b2,Kai],λσ=>by simp only[bF,a3,b3]⟩
 |_=>first|exact⟨rfl,rfl,λ_=>rfl⟩|simp[eE]at h
def TQ{v:Value}(hf:∀f a b,p≠ .fn f a b)(h:eE p=true)(hr:dy C ρ hp w p v):Qj C ρ hp w p v:=by
 cases p with
 |fn f a b=>exact absurd rfl (hf f a b)
 |agg cs=>have h':Qn w (aM C ρ hp) (.agg cs) v:=hr;cases h'
 |_=>first|exact hr|simp[eE]at h
def S'(hP:C.P=P){g:FuncId}{d:Option Nat}{G:Fr}{aB:HP}{aN:PV->Fr->HP->Prop}{Q:(Nat->Option Nat)->Prop}(h:AL Q P g aQ G aB aN)(gv:Nat->Option Nat)(τ:Nat->Nat)
  (hQ:∀(ρ:Nat->Option Nat)(tmps:Array Value)(w:World),Qt C ρ fr hp tmps w->Q (λO=>if aP O=true then(gv O).bind ρ else none))
  (hR:∀O γ,gv O=some γ->eB O=true/\∃hb,hp γ=some hb/\aB O=some ⟨hb.e,hb.ty,hb.xs,true⟩) (ha:∀O,aB O≠none->∃γ,gv O=some γ) (hi:∀O bq γ,gv O=some γ->gv bq=some γ->O=bq)
  (jZ:∀O γ,gv O=some γ->τ γ=O) (cF:first++args++cap=aQ) (gG:∀x∈aQ,eE x=true) (rV:∀x∈first++cap,∀f a b,x≠ .fn f a b)
  (hG:∀s,1000000<=s->G s= .undef\/∃s',1000000<=s'/\G s=bF τ (fr s')/\∀γ∈(fr s').refs++(fr s').aO,∃O,gv O=some γ) (bx:aQ.length<=1000000)
  (hK:∀r F H,aN r F H->lU r/\K (dj fr d r) hp):eI C pr (.fn g first cap) args d fr hp K:=by
 have g0:∀O,gn gv O=none:=λO=>by
  unfold gn;split
  .rfl
  .rename_i hr;cases hq:gv O with
   |none=>rfl
   |some γ=>exact absurd (hR O γ hq).1 hr
 have tB:∀γ:Nat,¬∃O,gn gv O=some γ:=λγ ⟨O,ao⟩=>by rw[g0 O]at ao;cases ao
 have hh:uh C hp aB gv:=⟨λO γ hq=>by obtain⟨h1,hb,h2,h3⟩:=hR O γ hq;refine⟨hb,h2,?_,λ_=>h3,λh=>by rw[h1]at h;cases h⟩;simp[eB]at h1;simp[bN];omega,ha,hi⟩
 subst hP;subst cF;refine⟨h.1,λρ tmps w fv cv av qI hs h1 h2 h3 pM jX oJ=>?_⟩;have NH:∀(i:Nat)(x:PV),(first++args++cap)[i]? =some x->Qj C ρ hp w x ((fv++av++cv).getD i undef):=λi x hx=>by
  have eV:∀ {l:List PV} {j:Nat},l[j]? =some x->x∈l:=λhx=>Kaj hx
  rw[lP,lP];simp only[Kb4];rw[KaV]at hx;split at hx
  .rename_i hl;rw[Kaz]at hl;rw[if_pos Oz];rw[KaV]at hx;split at hx
   .rename_i jr;rw[if_pos Oz];exact TQ (rV x (KbF _ (eV hx))) (gG x (KbF _ (KbF _ (eV hx)))) (pM i x hx)
   .rename_i jr;rw[if_neg Oz,h1];exact oJ _ x hx
  .rename_i hl;rw[Kaz]at hl;rw[if_neg Oz];rw[Kaz]at hx;rw[h1,h3];exact TQ (rV x (Kbd _ (eV hx))) (gG x (Kbd _ (eV hx))) (jX _ x hx)
 have a9:=Wv (τ:=τ) (G:=G) hs hh jZ (av:=fv++av++cv) (args:=first++args++cap) (by simp;omega) (by
  conv=>rhs;rw[<-List.map_id (first++args++cap)]
  exact KaF λx hx=>(AA (gG x hx)).2.2 τ) NH (λx hx γ ak=>by rw[(AA (gG x hx)).1,(AA (gG x hx)).2.1]at ak;cases ak) hG bx
 refine(h.2 (vK C ρ fr hp aB tmps w gv hs hh _ bx) _ (fv++av++cv) w rfl rfl rfl (hQ ρ tmps w hs) a9).mono ?_;rintro e w' ⟨v,ρ',r,F,H,rfl,dA,dY⟩;obtain⟨⟨⟨p1,p2⟩,p3⟩,hk⟩:=hK r F H dY;refine⟨v,dj fr d r,hp,rfl,PT (eo:=λ_=>none) (σ:=id) hs hh dA qI (λ_ _ h=>by cases h) (λO γ h=>by rw[g0 O]at h;cases h) (λ_ _ h=>by cases h) (λγ _ h=>absurd h (tB γ)) (λ_ _ _=>rfl) (λs=>?_),λ_=>PU hs hh dA g0,hk⟩;cases d with
 |none=>exact .inr (.inl ⟨(by simp),rfl,λγ _=>.inl (tB γ),λγ _ _ _ _=>tB γ⟩)
 | some d=>
  by_cases e:s=d
  .subst e;refine .inr (.inr (.inl ⟨rfl,?_,λO ao=>by rw[p1,p2]at ao;cases ao⟩));rw[p3];simp[dj,ae]
  .exact .inr (.inl ⟨by simp;exact λh=>e h.symm,by simp[dj,ae,e],λγ _=>.inl (tB γ),λγ _ _ _ _=>tB γ⟩)
abbrev uv(γ ty n m:Nat)(k:Int):PV:=.aH γ 3 ty [.aU [.ms 2000000 n,.ms 2000001 m,.int .i64 k]]
abbrev bdG(γ ty n m:Nat)(k:Int):Fr:=ae (λ_=>.undef) γ (uv γ ty n m k)
abbrev bdH(ty:Nat)(A B:HB):HP:=Qg (Qg (Qg aB 1000000 ⟨3,ty,[],false⟩) 2000000 A) 2000001 B
abbrev DY(ty n m:Nat)(k:Int):PV:=.aH 1500000 3 ty [.aU [.ms 1500001 n,.ms 1500002 m,.int .i64 k]]
abbrev arV(ty:Nat)(A B:HB):HP:=Qg (Qg (Qg aB 1500000 ⟨3,ty,[],true⟩) 1500001 { A with fz:=true }) 1500002 { B with fz:=true }
abbrev J9(P:Program)(f:FuncId)(bb:Nat)(args:List PV)(ty n m:Nat)(k:Int)(A B:HB)(D:PV):Prop:=
 AL (λfx=>fx 1500000=some bb) P f args (ae (λ_=>.undef) 1500000 (DY ty n m k)) (arV ty A B) λr _ _=>r=D
def aeP{τ:Nat->Nat}{γ ty n m:Nat}(h:τ γ=1500000)(h0:τ 2000000=1500001)(h1:τ 2000001=1500002):bF τ (uv γ ty n m k)=DY ty n m k:=by simp[bF,PV.aV,dh,eW,lR,PV.kC,h,h0,h1]
def adE{ty n m:Nat}:bF id (DY ty n m k)=DY ty n m k:=by simp[bF,PV.aV,dh,eW,lR,PV.kC]
def Mp{γ ty n m:Nat}{x:Nat}(h:x∈(uv γ ty n m k).refs++(uv γ ty n m k).aO):x=γ\/x=2000000\/x=2000001:=by simpa[PV.refs,PV.aO,PV.aV,PV.dM]using h
def wV(hP:C.P=P){g bb ty n m:Nat}{B:HB}{d:Option Nat}(h:J9 P g bb aQ ty n m k A B D)(hf:C.fx 1000000=some bb)
  (hg:fr 1000000=uv 1000000 ty n m k) (h0:hp 1000000=some ⟨3,ty,[],false⟩) (hA:hp 2000000=some A) (hB:hp 2000001=some B)
  (cF:first++args++cap=aQ) (gG:∀x∈aQ,eE x=true) (rV:∀x∈first++cap,∀f a b,x≠ .fn f a b) (bx:aQ.length<=1000000) (hD:lU D)
  (hK:K (dj fr d D) hp):eI C pr (.fn g first cap) args d fr hp K:=by
 obtain⟨gv,gA⟩:∃f:Nat->Option Nat,f=λx=>if x=1500000 then some 1000000 else if x=1500001 then some 2000000 else if x=1500002 then some 2000001 else none:=⟨_,rfl⟩
 obtain⟨τ,jZ⟩:∃f:Nat->Nat,f=λx=>if x=1000000 then 1500000 else if x=2000000 then 1500001 else if x=2000001 then 1500002 else x:=⟨_,rfl⟩
 have ga:∀O γ,gv O=some γ->(O=1500000/\γ=1000000)\/(O=1500001/\γ=2000000)\/(O=1500002/\γ=2000001):=λO γ hq=>by
  rw[gA]at hq;simp only at hq;split at hq
  .cases hq;rename_i e;exact .inl ⟨e,rfl⟩
  .split at hq
   .cases hq;rename_i e;exact .inr (.inl ⟨e,rfl⟩)
   .split at hq
    .cases hq;rename_i e;exact .inr (.inr ⟨e,rfl⟩)
    .cases hq
 have g0:gv 1500000=some 1000000:=by rw[gA];simp
 have g1:gv 1500001=some 2000000:=by rw[gA];simp
 have g2:gv 1500002=some 2000001:=by rw[gA];simp
 have t0:τ 1000000=1500000:=by rw[jZ];simp
 have t1:τ 2000000=1500001:=by rw[jZ];simp
 have t2:τ 2000001=1500002:=by rw[jZ];simp
 refine S' hP h gv τ (λρ tmps w hs=>?_) (λO γ hq=>?_) (λO hq=>?_) (λO bq γ q1 q2=>?_) (λO γ hq=>?_) cF gG rV (λs hs=>?_) bx (λr F H hr=>by subst hr;exact⟨hD,hK⟩)
 .show(if aP 1500000=true then(gv 1500000).bind ρ else none)=some bb;rw[if_pos (by decide),g0];show ρ 1000000=some bb;rw[(hs.own _ _ h0).fix (by decide)];exact hf
 .rcases ga O γ hq with⟨rfl,rfl⟩|⟨rfl,rfl⟩|⟨rfl,rfl⟩
  .exact⟨by decide,_,h0,by simp[Qg]⟩
  .exact⟨by decide,_,hA,by simp[Qg]⟩
  .exact⟨by decide,_,hB,by simp[Qg]⟩
 .by_cases e0:O=1500000
  .subst e0;exact⟨_,g0⟩
  .by_cases e1:O=1500001
   .subst e1;exact⟨_,g1⟩
   .by_cases e2:O=1500002
    .subst e2;exact⟨_,g2⟩
    .simp[Qg,FW.aB,e0,e1,e2]at hq
 .rcases ga O γ q1 with⟨rfl,rfl⟩|⟨rfl,rfl⟩|⟨rfl,rfl⟩<;>rcases ga bq _ q2 with⟨rfl,e⟩|⟨rfl,e⟩|⟨rfl,e⟩<;>first|rfl|(exact absurd e (by decide))
 .rcases ga O γ hq with⟨rfl,rfl⟩|⟨rfl,rfl⟩|⟨rfl,rfl⟩
  .exact t0
  .exact t1
  .exact t2
 .by_cases e:s=1500000
  .subst e;refine .inr ⟨1000000,Oz,?_,λγ ak=>?_⟩
   .rw[hg,aeP t0 t1 t2];simp[ae]
   .rw[hg]at ak;rcases Mp ak with rfl|rfl|rfl
    .exact⟨_,g0⟩
    .exact⟨_,g1⟩
    .exact⟨_,g2⟩
  .left;simp[ae,e]
def RU(hP:C.P=P){g bb ty n m:Nat}{B:HB}{d:Option Nat}(h:J9 P g bb aQ ty n m k A B D)(hf:C.fx 1500000=some bb)
  (hg:fr 1500000=DY ty n m k) (h0:hp 1500000=some ⟨3,ty,[],true⟩) (hA:hp 1500001=some { A with fz:=true }) (hB:hp 1500002=some { B with fz:=true })
  (cF:first++args++cap=aQ) (gG:∀x∈aQ,eE x=true) (rV:∀x∈first++cap,∀f a b,x≠ .fn f a b) (bx:aQ.length<=1000000) (hD:lU D)
  (hK:K (dj fr d D) hp):eI C pr (.fn g first cap) args d fr hp K:=by
 obtain⟨gv,gA⟩:∃f:Nat->Option Nat,f=λx=>if x=1500000\/x=1500001\/x=1500002 then some x else none:=⟨_,rfl⟩
 have ga:∀O γ,gv O=some γ->O=γ/\(O=1500000\/O=1500001\/O=1500002):=λO γ hq=>by
  rw[gA]at hq;simp only at hq;split at hq
  .cases hq;rename_i e;exact⟨rfl,e⟩
  .cases hq
 have gb:∀O,(O=1500000\/O=1500001\/O=1500002)->gv O=some O:=λO h=>by rw[gA];simp[h]
 refine S' hP h gv id (λρ tmps w hs=>?_) (λO γ hq=>?_) (λO hq=>?_) (λO bq γ q1 q2=>?_) (λO γ hq=>(ga O γ hq).1.symm) cF gG rV (λs hs=>?_) bx (λr F H hr=>by subst hr;exact⟨hD,hK⟩)
 .show(if aP 1500000=true then(gv 1500000).bind ρ else none)=some bb;rw[if_pos (by decide),gb _ (.inl rfl)];show ρ 1500000=some bb;rw[(hs.own _ _ h0).fix (by decide)];exact hf
 .obtain⟨rfl,rfl|rfl|rfl⟩:=ga O γ hq
  .exact⟨by decide,_,h0,by simp[Qg]⟩
  .exact⟨by decide,_,hA,by simp[Qg]⟩
  .exact⟨by decide,_,hB,by simp[Qg]⟩
 .by_cases e0:O=1500000
  .exact⟨_,gb _ (.inl e0)⟩
  .by_cases e1:O=1500001
   .exact⟨_,gb _ (.inr (.inl e1))⟩
   .by_cases e2:O=1500002
    .exact⟨_,gb _ (.inr (.inr e2))⟩
    .simp[Qg,FW.aB,e0,e1,e2]at hq
 .rw[(ga O γ q1).1,(ga bq γ q2).1]
 .by_cases e:s=1500000
  .subst e;refine .inr ⟨1500000,Oz,?_,λγ ak=>?_⟩
   .rw[hg,adE];simp[ae]
   .rw[hg]at ak;simp[PV.refs,PV.aO,PV.aV,PV.dM]at ak;exact⟨γ,gb γ ak⟩
  .left;simp[ae,e]
def ob{s n:Nat}{aN:PV->Fr->HP->Prop}(h:gv fr hp (.cell s n ag)=D)(hd:D.aJ=true)(dY:aN D fr hp):lW [.cell s n ag] aN fr hp:=by subst h;obtain⟨g1,g2⟩:=tX hd;refine rp ⟨g1,_,(by rw[g2];exact Qi _),?_⟩;show aN _ fr (Qu hp []);rw[vd];exact dY
def WV{s n:Nat}{D':PV}{aN:PV->Fr->HP->Prop}(h:gv fr hp (.cell s n ag)=D')(hd:D'.aJ=true)(hle:PV.le D' D)(dY:aN D fr hp):lW [.cell s n ag] aN fr hp:=by subst h;obtain⟨g1,g2⟩:=tX hd;refine rp ⟨g1,D,(by rw[g2];exact hle),?_⟩;show aN _ fr (Qu hp []);rw[vd];exact dY
abbrev Ta(P:Program)(f:FuncId)(args:List PV)(ty n m:Nat)(k:Int)(A B:HB)(n' m':Nat)(k':Int)(A' B':HB)(D:PV):Prop:=
 jc P f (.np 1000000 0 0::args) (bdG 1000000 ty n m k) (bdH ty A B) λr F H=>r=D/\F 1000000=uv 1000000 ty n' m' k'/\H 1000000=some ⟨3,ty,[],false⟩/\H 2000000=some A'/\H 2000001=some B'
def sE  (hP:C.P=P) {g ty n m n' m' γ d:Nat} {k':Int} {B A' B':HB}   (h:Ta P g args ty n m k A B n' m' k' A' B' D) (ak:γ=1000000\/γ=2000010)
  (hg:fr γ=uv γ ty n m k) (h0:hp γ=some ⟨3,ty,[],false⟩) (hA:hp 2000000=some A) (hB:hp 2000001=some B) (fA:A.fz=false) (fB:B.fz=false)
  (gG:∀x∈args,eE x=true) (bx:args.length+1<=1000000) (hD:lU D)
  (hK:K (ae (ae (ep lJ (gC γ fr)) γ (uv γ ty n' m' k')) d D) (Qg (Qg (Qg hp γ ⟨3,ty,[],false⟩) 2000000 A') 2000001 B')):eI C false (.fn g [] []) (.np γ 0 0::args) (some d) fr hp K:=by
 have Fy:bN γ=true:=by rcases ak with rfl|rfl<;>decide
 have tE:γ≠2000000:=by rcases ak with rfl|rfl<;>decide
 have γ1:γ≠2000001:=by rcases ak with rfl|rfl<;>decide
 have O7:1000000<=γ:=by rcases ak with rfl|rfl<;>decide
 obtain⟨gv,gA⟩:∃f:Nat->Option Nat,f=λx=>if x=1000000 then some γ else if x=2000000 then some 2000000 else if x=2000001 then some 2000001 else none:=⟨_,rfl⟩
 obtain⟨τ,jZ⟩:∃f:Nat->Nat,f=λx=>if x=γ then 1000000 else x:=⟨_,rfl⟩
 have ga:∀O δ,gv O=some δ->(O=1000000/\δ=γ)\/(O=2000000/\δ=2000000)\/(O=2000001/\δ=2000001):=λO δ hq=>by
  rw[gA]at hq;simp only at hq;split at hq
  .cases hq;rename_i e;exact .inl ⟨e,rfl⟩
  .split at hq
   .cases hq;rename_i e;exact .inr (.inl ⟨e,rfl⟩)
   .split at hq
    .cases hq;rename_i e;exact .inr (.inr ⟨e,rfl⟩)
    .cases hq
 have g0:gv 1000000=some γ:=by rw[gA];simp
 have g1:gv 2000000=some 2000000:=by rw[gA];simp
 have g2:gv 2000001=some 2000001:=by rw[gA];simp
 have t0:τ γ=1000000:=by rw[jZ];simp
 have t1:τ 2000000=2000000:=by rw[jZ];simp[Ne.symm tE]
 have t2:τ 2000001=2000001:=by rw[jZ];simp[Ne.symm γ1]
 have gr:∀O δ,gv O=some δ->eB O=false:=λO δ hq=>by rcases ga O δ hq with⟨rfl,_⟩|⟨rfl,_⟩|⟨rfl,_⟩<;>decide
 have gN:∀δ,(∃O,gv O=some δ)->δ=γ\/δ=2000000\/δ=2000001:=λδ ⟨O,ao⟩=>by rcases ga O δ ao with⟨_,rfl⟩|⟨_,rfl⟩|⟨_,rfl⟩<;>simp
 have names:∀x∈args,x.refs=[]/\x.aO=[]/\∀σ,bF σ x=x:=λx hx=>AA (gG x hx)
 refine AY hP h gv τ ⟨λO δ hq=>?_,λO hq=>?_,λO bq δ q1 q2=>?_⟩ (λO δ hq=>?_) ?_ (λx hx δ fq=>?_) (λs hs=>?_) (by simpa using bx) (λh=>by cases h) (λρ tmps w hs r F H dY _=>?_)
 .rcases ga O δ hq with⟨rfl,rfl⟩|⟨rfl,rfl⟩|⟨rfl,rfl⟩
  .exact⟨_,h0,by decide,(λh=>by cases h),λ_=>⟨by simp[Qg],rfl,Fy,λh=>by cases h⟩⟩
  .exact⟨_,hA,by decide,(λh=>by cases h),λ_=>⟨by simp[Qg],fA,by decide,λ_=>by decide⟩⟩
  .exact⟨_,hB,by decide,(λh=>by cases h),λ_=>⟨by simp[Qg],fB,by decide,λ_=>by decide⟩⟩
 .by_cases e0:O=1000000
  .subst e0;exact⟨_,g0⟩
  .by_cases e1:O=2000000
   .subst e1;exact⟨_,g1⟩
   .by_cases e2:O=2000001
    .subst e2;exact⟨_,g2⟩
    .simp[Qg,FW.aB,e0,e1,e2]at hq
 .rcases ga O δ q1 with⟨rfl,rfl⟩|⟨rfl,rfl⟩|⟨rfl,rfl⟩<;>rcases ga bq _ q2 with⟨rfl,e⟩|⟨rfl,e⟩|⟨rfl,e⟩<;>first|rfl|exact absurd e tE|exact absurd e γ1|exact absurd e.symm tE|exact absurd e.symm γ1|(exact absurd e (by decide))
 .rcases ga O δ hq with⟨rfl,rfl⟩|⟨rfl,rfl⟩|⟨rfl,rfl⟩
  .exact t0
  .exact t1
  .exact t2
 .simp only[Ka3];congr 1
  .simp[bF,dh,t0]
  .conv=>rhs;rw[<-List.map_id args]
   exact KaF λx hx=>(names x hx).2.2 τ
 .rcases KaA.1 hx with rfl|hx
  .simp[PV.refs,PV.aO]at fq;subst fq;exact⟨_,g0⟩
  .rw[(names x hx).1,(names x hx).2.1]at fq;cases fq
 .by_cases e:s=1000000
  .subst e;refine .inr ⟨γ,O7,?_,λδ fq=>?_⟩
   .rw[hg];simp[ae,bF,PV.aV,dh,eW,lR,PV.kC,t0,t1,t2]
   .rw[hg]at fq;rcases Mp fq with rfl|rfl|rfl
    .exact⟨_,g0⟩
    .exact⟨_,g1⟩
    .exact⟨_,g2⟩
  .left;simp[ae,e]
 .rw [HZ gr];obtain⟨rfl,k1,k2,k3,k4⟩:=dY;obtain⟨⟨p1,p2⟩,p3⟩:=hD;obtain⟨eo,jV⟩:∃f:Nat->Option Nat,f=λx=>if x=γ then some 1000000 else if x=2000000 then some 2000000 else if x=2000001 then some 2000001 else none:=⟨_,rfl⟩
  obtain⟨σ,lH⟩:∃f:Nat->Nat,f=λx=>if x=1000000 then γ else x:=⟨_,rfl⟩
  have s0:σ 1000000=γ:=by rw[lH];simp
  have s1:σ 2000000=2000000:=by rw[lH];simp
  have s2:σ 2000001=2000001:=by rw[lH];simp
  have ea:∀x O,eo x=some O->(x=γ/\O=1000000)\/(x=2000000/\O=2000000)\/(x=2000001/\O=2000001):=λx O hq=>by
   rw[jV]at hq;simp only at hq;split at hq
   .cases hq;rename_i e;exact .inl ⟨e,rfl⟩
   .split at hq
    .cases hq;rename_i e;exact .inr (.inl ⟨e,rfl⟩)
    .split at hq
     .cases hq;rename_i e;exact .inr (.inr ⟨e,rfl⟩)
     .cases hq
  have e0:eo γ=some 1000000:=by rw[jV];simp
  have e1:eo 2000000=some 2000000:=by rw[jV];simp[Ne.symm tE]
  have e2:eo 2000001=some 2000001:=by rw[jV];simp[Ne.symm γ1]
  have en:∀x,eo x=none->x≠γ/\x≠2000000/\x≠2000001:=λx hx=>⟨(λe=>by rw[e,e0]at hx;cases hx),(λe=>by rw[e,e1]at hx;cases hx),(λe=>by rw[e,e2]at hx;cases hx)⟩
  refine⟨eo,σ,_,_,λx O hq=>?_,λO δ hq hy=>?_,λx O hq=>?_,λx hq hx=>?_,λx hq _=>?_,λs=>?_,hK⟩
  .rcases ea x O hq with⟨rfl,rfl⟩|⟨rfl,rfl⟩|⟨rfl,rfl⟩
   .exact⟨by rw[k2];simp,s0,Fy,.inl ⟨by decide,g0⟩⟩
   .exact⟨by rw[k3];simp,s1,by decide,.inr ⟨by decide,by decide,.inr ⟨_,g1⟩⟩⟩
   .exact⟨by rw[k4];simp,s2,by decide,.inr ⟨by decide,by decide,.inr ⟨_,g2⟩⟩⟩
  .rcases ga O δ hq with⟨rfl,rfl⟩|⟨rfl,rfl⟩|⟨rfl,rfl⟩
   .exact e0
   .cases hy
   .cases hy
  .rcases ea x O hq with⟨rfl,rfl⟩|⟨rfl,rfl⟩|⟨rfl,rfl⟩
   .rw[k2];simp[Qg,tE,γ1]
   .rw[k3];simp[Qg]
   .rw[k4];simp[Qg]
  .obtain⟨n1,n2,n3⟩:=en x hq;rcases gN x hx with h|h|h
   .exact absurd h n1
   .exact absurd h n2
   .exact absurd h n3
  .obtain⟨n1,n2,n3⟩:=en x hq;simp[Qg,n1,n2,n3]
  .by_cases es:s=d
   .subst es;refine .inr (.inr (.inl ⟨rfl,?_,λO ao=>by rw[p1,p2]at ao;cases ao⟩));rw[p3];simp[ae]
   .by_cases eg:s=γ
    .subst eg;refine .inr (.inr (.inr ⟨1000000,Oz,⟨_,_,_,_,k1⟩,?_,λO ao=>?_⟩))
     .rw[k1];simp[ae,es,bF,PV.aV,dh,eW,lR,PV.kC,s0,s1,s2]
     .rw[k1]at ao;rcases Mp ao with rfl|rfl|rfl
      .rw[s0];exact e0
      .rw[s1];exact e1
      .rw[s2];exact e2
    .have ev:ae (ae (ep lJ (gC γ fr)) γ (uv γ ty n' m' k')) d r s=lk lJ (fj γ (fr s)):=by simp[ae,es,eg,ep,gC]
     rw[ev];unfold lk;split
     .exact .inl rfl
     .rename_i rW;by_cases hn:∃e' ty' ys,fr s= .aH γ e' ty' ys
      .obtain⟨e',ty',ys,hq⟩:=hn;left;rw[hq];simp[fj]
      .have Nh:fj γ (fr s)=fr s:=by
        cases hq:fr s with
        |aH bo e' ty' ys=>simp only[fj];rw[if_neg];intro h;subst h;exact hn ⟨_,_,_,hq⟩
        |_=>rfl
       rw[Nh]at rW⊢;refine .inr (.inl ⟨λh=>es (Kbn h).symm,rfl,λδ fq=>?_,λδ e ty xs hq=>?_⟩)
       .by_cases ed:δ=γ
        .subst ed;exact .inr ⟨1000000,_,_,g0,by decide,h0,k2,rfl,Kag _⟩
        .left;intro hx;rcases gN δ hx with h|h|h
         .exact ed h
         .exact rW (KaJ.2 ⟨δ,fq,sA.2 (.inl h)⟩)
         .exact rW (KaJ.2 ⟨δ,fq,sA.2 (.inr h)⟩)
       .intro hx;have hm:δ∈(fr s).refs++(fr s).aO:=by rw[hq];simp[PV.aO]
        rcases gN δ hx with h|h|h
        .subst h;exact hn ⟨_,_,_,hq⟩
        .exact rW (KaJ.2 ⟨δ,hm,sA.2 (.inl h)⟩)
        .exact rW (KaJ.2 ⟨δ,hm,sA.2 (.inr h)⟩)
end Go.FW
