/- Part 10 of the proof of CertcheckChecks: K5, K6, K1, K3, K7, K8, K10, K11, K12, K13, K14, L11, CJ, CK, J0, K15, FwYE. Own lemmas; no conditions. -/
import Derived.Test.YtccppnepkfbpkaaGreatCertcheckChecksPart9
set_option maxHeartbeats 1000000
set_option linter.unusedSimpArgs false
set_option linter.unusedVariables false
set_option linter.unnecessarySimpa false
set_option maxRecDepth 100000
namespace Go.Proofs.YtccppnepkfbpkaaGreat
open Go Go.FW
theorem iW{p q:List Tm}{T K E:Nat}(hp:PQ T K E p)(hq:PQ T K E q)(hT:T<=2^30)(hK:K+2<=2^31)(hE:E<=2^38):Qd Tryz.prog 137 [PV.ao p,PV.ao q] (· =PV.ao (bK p q)):=
 UT (K:=K+2) (hp.mono (Kae _) (by omega) (Kae _)).b (hq.mono (Kae _) (by omega) (Kae _)).b hq.n.z (by omega) (by omega) hE (by have:=hp.l;omega) (by have:=hq.l;omega)
theorem qR{p q:List Tm}{T K E:Nat}(hp:PQ T K E p)(hq:PQ T K E q)(hT:T<=2^30)(hK:K<=2^32)(hE:E<=2^38):Qd Tryz.prog 46 [PV.ao p,PV.ao q] (· =PV.ao (Qq p q)):=
 CJ hp.b hq.b hK hE (by have:=hp.l;omega) (by have:=hq.l;omega)
theorem sv{p q:List Tm}{T K E:Nat}(hp:PQ T K E p)(hq:PQ T K E q)(hT:T<=2^15)(hK:T*(K+K)+(K+K)<=2^32)(hE:E<=2^37):Qd Tryz.prog 19 [PV.ao p,PV.ao q] (· =PV.ao (Q8 p q)):=by
 have h1:=hp.l;have h2:=hq.l;have h3:q.length*p.length<=2^15*2^15:=KbO (by omega) (by omega);have h4:q.length*(K+K)<=T*(K+K):=Kam _ h2;have:=GV hp.b hq.b hp.n.z hq.n.z hE (by omega) (by omega) (by omega) (by omega)
 rwa[Hy hp.n hq.n]at this
def mU(p q r:List Tm):List Tm:=Qq p (bK q r)
def vk(a b:Cd)(m:List Tm):Cd:=(Qq a.1 (Q8 m (bK b.1 a.1)),Qq a.2 (Q8 m (bK b.2 a.2)))
def ks(a b c d:Cd):List Tm:=bK (Q8 (bK b.1 a.1) (bK d.2 c.2)) (Q8 (bK b.2 a.2) (bK d.1 c.1))
def dC(a b c d:Cd):List Tm:=Qq (Q8 (bK b.1 a.1) (bK d.1 c.1)) (Q8 (bK b.2 a.2) (bK d.2 c.2))
structure CQ(T K E:Nat)(c:Cd):Prop where
 x:PQ T K E c.1
 y:PQ T K E c.2
theorem CQ.mono{T K E T' K' E':Nat}{c:Cd}(h:CQ T K E c)(h1:T<=T')(h2:K<=K')(h3:E<=E'):CQ T' K' E' c:=⟨h.x.mono h1 h2 h3,h.y.mono h1 h2 h3⟩
theorem DY{p q r:List Tm}{T K E:Nat}(hp:PQ T K E p)(hq:PQ T K E q)(hr:PQ T K E r)(hT:T<=2^20)(hK:K<=2^28)(hE:E<=2^20):Qd Tryz.prog 132 [PV.ao p,PV.ao q,PV.ao r] (· =PV.ao (mU p q r)):=by have h1:=iW hq hr (by omega) (by omega) (by omega);have h2:=qR (T:=T+T) (K:=K+(K+2)) (hp.mono (by omega) (by omega) (Kae _)) (hq.sub hr) (by omega) (by omega) (by omega);refine aB Qh Tryz.func132 ae0 fun C hP=>?_;refine Sz0 ?_;refine Qa hP h1 rfl rfl rfl ?_;refine Sz0 ?_;refine Qa hP h2 rfl rfl rfl ?_;refine Sz0 ?_;exact Qc rfl rfl
theorem LQ{a b:Cd}{m:List Tm}{T K E:Nat}(ha:CQ T K E a)(hb:CQ T K E b)(hm:PQ 1 K E m)(hT:T<=256)(hT1:1<=T)(hK:K<=2^18)(hE:E<=2^20):Qd Tryz.prog 131 [PV.aC a,PV.aC b,PV.ao m] (· =PV.aC (vk a b m)):=by
 have hmul:∀ {p q:List Tm},PQ T K E p->PQ T K E q->Qd Tryz.prog 19 [PV.ao m,PV.ao (bK p q)] (· =PV.ao (Q8 m (bK p q))):=fun hp hq=>by have h4:(T+T)*(K+(K+2)+(K+(K+2)))<=512*(2^21):=KbO (by omega) (by omega);exact sv (T:=T+T) (K:=K+(K+2)) (hm.mono (by omega) (by omega) (Kae _)) (hp.sub hq) (by omega) (by omega) (by omega)
 have bn:∀ {p q r:List Tm},PQ T K E p->PQ T K E q->PQ T K E r->Qd Tryz.prog 46 [PV.ao r,PV.ao (Q8 m (bK p q))] (· =PV.ao (Qq r (Q8 m (bK p q)))):=fun hp hq hr=>by have h4:min 1 (T+T)*(K+(K+(K+2)))<=1*2^26:=KbO (by omega) (by omega);exact qR (T:=1*(T+T)) (K:=2^26) (E:=E+E) (hr.mono (by omega) (by omega) (by omega)) ((hm.mul (hp.sub hq)).mono (by omega) (by omega) (by omega)) (by omega) (by omega) (by omega)
 have s1:=iW hb.x ha.x (by omega) (by omega) (by omega);have s2:=iW hb.y ha.y (by omega) (by omega) (by omega);have m1:=hmul hb.x ha.x;have m2:=hmul hb.y ha.y;have a1:=bn hb.x ha.x ha.x;have a2:=bn hb.y ha.y ha.y;refine aB Qh Tryz.func131 ae1 fun C hP=>?_;refine Sz0 ?_;refine Qa hP s1 rfl rfl rfl ?_;refine Sz0 ?_;refine Qa hP m1 rfl rfl rfl ?_;refine Sz0 ?_;refine Qa hP a1 rfl rfl rfl ?_;refine Sz0 ?_;refine Qa hP s2 rfl rfl rfl ?_;refine Sz0 ?_;refine Qa hP m2 rfl rfl rfl ?_;refine Sz0 ?_;refine Qa hP a2 rfl rfl rfl ?_;refine Sz0 ?_;refine cY ?_;exact Qc rfl rfl
theorem iZ{p q:List Tm}(hp:PQ 256 (2^17) 100 p)(hq:PQ 256 (2^17) 100 q):PQ 512 (2^18+2) 100 (bK p q):=(hp.sub hq).mono (by omega) (by omega) (by omega)
theorem xG{p q:List Tm}(hp:PQ 512 (2^18+2) 100 p)(hq:PQ 512 (2^18+2) 100 q):PQ 262144 (2^28+2048) 200 (Q8 p q):=(hp.mul hq).mono (by omega) (by omega) (by omega)
abbrev CB(c:Cd):Prop:=CQ 256 (2^17) 100 c
theorem zY{a b c d:Cd}(ha:CB a)(hb:CB b)(hc:CB c)(hd:CB d):PQ 524288 (2^29+4098) 200 (dC a b c d):=
 ((xG (iZ hb.x ha.x) (iZ hd.x hc.x)).add (xG (iZ hb.y ha.y) (iZ hd.y hc.y))).mono (by omega) (by omega) (by omega)
theorem mN{a b c d:Cd}(ha:CB a)(hb:CB b)(hc:CB c)(hd:CB d):Qd Tryz.prog 84 [PV.aC a,PV.aC b,PV.aC c,PV.aC d] (· =PV.ao (ks a b c d)):=by have s1:=iW hb.x ha.x (by omega) (by omega) (by omega);have s2:=iW hb.y ha.y (by omega) (by omega) (by omega);have s3:=iW hd.x hc.x (by omega) (by omega) (by omega);have s4:=iW hd.y hc.y (by omega) (by omega) (by omega);have m1:=sv (iZ hb.x ha.x) (iZ hd.y hc.y) (by omega) (by omega) (by omega);have m2:=sv (iZ hb.y ha.y) (iZ hd.x hc.x) (by omega) (by omega) (by omega);have f:=iW (xG (iZ hb.x ha.x) (iZ hd.y hc.y)) (xG (iZ hb.y ha.y) (iZ hd.x hc.x)) (by omega) (by omega) (by omega);refine aB Qh Tryz.func84 ahF fun C hP=>?_;refine Sz0 ?_;refine Qa hP s1 rfl rfl rfl ?_;refine Sz0 ?_;refine Qa hP s4 rfl rfl rfl ?_;refine Sz0 ?_;refine Qa hP m1 rfl rfl rfl ?_;refine Sz0 ?_;refine Qa hP s2 rfl rfl rfl ?_;refine Sz0 ?_;refine Qa hP s3 rfl rfl rfl ?_;refine Sz0 ?_;refine Qa hP m2 rfl rfl rfl ?_;refine Sz0 ?_;refine Qa hP f rfl rfl rfl ?_;refine Sz0 ?_;exact Qc rfl rfl
theorem sr{a b c d:Cd}(ha:CB a)(hb:CB b)(hc:CB c)(hd:CB d):Qd Tryz.prog 136 [PV.aC a,PV.aC b,PV.aC c,PV.aC d] (· =PV.ao (dC a b c d)):=by have s1:=iW hb.x ha.x (by omega) (by omega) (by omega);have s2:=iW hb.y ha.y (by omega) (by omega) (by omega);have s3:=iW hd.x hc.x (by omega) (by omega) (by omega);have s4:=iW hd.y hc.y (by omega) (by omega) (by omega);have m1:=sv (iZ hb.x ha.x) (iZ hd.x hc.x) (by omega) (by omega) (by omega);have m2:=sv (iZ hb.y ha.y) (iZ hd.y hc.y) (by omega) (by omega) (by omega);have f:=qR (xG (iZ hb.x ha.x) (iZ hd.x hc.x)) (xG (iZ hb.y ha.y) (iZ hd.y hc.y)) (by omega) (by omega) (by omega);refine aB Qh Tryz.func136 ae2 fun C hP=>?_;refine Sz0 ?_;refine Qa hP s1 rfl rfl rfl ?_;refine Sz0 ?_;refine Qa hP s3 rfl rfl rfl ?_;refine Sz0 ?_;refine Qa hP m1 rfl rfl rfl ?_;refine Sz0 ?_;refine Qa hP s2 rfl rfl rfl ?_;refine Sz0 ?_;refine Qa hP s4 rfl rfl rfl ?_;refine Sz0 ?_;refine Qa hP m2 rfl rfl rfl ?_;refine Sz0 ?_;refine Qa hP f rfl rfl rfl ?_;refine Sz0 ?_;exact Qc rfl rfl
theorem jH{a b:Cd}(ha:CB a)(hb:CB b):Qd Tryz.prog 83 [PV.aC a,PV.aC b] (· =PV.ao (dC a b a b)):=by have h:=sr ha hb ha hb;refine aB Qh Tryz.func83 ahG fun C hP=>?_;refine Sz0 ?_;refine Qa hP h rfl rfl rfl ?_;refine Sz0 ?_;exact Qc rfl rfl
structure bz where
 k:Int
 args:List Int
 n:Bool
 a:List Nat
 d:List Nat
abbrev PV.nG(f:bz):PV:=.agg [.int .i64 f.k,PV.mono f.args,.bool f.n,PV.nat f.a,PV.nat f.d]
def eO(k:Int):Int:=if k=1∨k=5 then 3 else if k=2∨k=3∨k=4∨k=6∨k=9 then 4 else if k=7 then 8 else if k=8 then 2 else 0
def oG(n:Bool)(a d:List Nat):Bool:= !n&&(decide (a.length=0)&&decide (d.length=0))
def fS(f:bz)(n:Int):Int:=
 if eO f.k=0 then 8 else if(f.args.length:Int)≠eO f.k then 1 else if(f.args.any fun i=>decide (i<0∨n<=i))=true then 2 else
  if(if f.k=9 then ku f.n f.a f.d else oG f.n f.a f.d)=true then 0 else 1
theorem QH(k:Int):(k=1∨k=2∨k=3∨k=4∨k=5∨k=6∨k=7∨k=8∨k=9)∨(k≠1/\k≠2/\k≠3/\k≠4/\k≠5/\k≠6/\k≠7/\k≠8/\k≠9):=by omega
theorem ZN{k:Int}:Qd Tryz.prog 127 [.int .i64 k] (· = .int .i64 (eO k)):=by
 rcases QH k with h|⟨h1,h2,h3,h4,h5,h6,h7,h8,h9⟩
 ·rcases h with rfl|rfl|rfl|rfl|rfl|rfl|rfl|rfl|rfl
  all_goals
   refine aB Qh Tryz.func127 LO fun C hP=>?_;refine Sz0 ?_;exact Qc rfl rfl
 ·have e:eO k=0:=by simp[eO,h1,h2,h3,h4,h5,h6,h7,h8,h9]
  rw[e];have d1:decide (k=1)=false:=decide_eq_false h1;have d2:decide (k=2)=false:=decide_eq_false h2;have d3:decide (k=3)=false:=decide_eq_false h3;have d4:decide (k=4)=false:=decide_eq_false h4;have d5:decide (k=5)=false:=decide_eq_false h5;have d6:decide (k=6)=false:=decide_eq_false h6;have d7:decide (k=7)=false:=decide_eq_false h7;have d8:decide (k=8)=false:=decide_eq_false h8;have d9:decide (k=9)=false:=decide_eq_false h9;refine aB Qh Tryz.func127 LO fun C hP=>?_;refine Sz9 d1 d2 d3 d4 d5 d6 d7 d8 d9 ?_;exact Qc rfl rfl
theorem ab4{n:Bool}{a d:List Nat}{k:Nat}(hb:Raw k n a d):Qd Tryz.prog 128 [PV.rr n a d] (· = .bool (oG n a d)):=by
 refine aB Qh Tryz.func128 aeT fun C hP=>?_;refine Sz0 ?_;cases n
 ·refine Sz0 ?_;refine Q5 (fun h=>?_) (fun h=>?_)
  ·refine Sz0 ?_;exact Qc (by simp[oG,show a.length=0 by omega]) rfl
  ·refine Sz0 ?_;exact Qc (by simp[oG,show ¬a.length=0 by omega]) rfl
 ·refine Sz0 ?_;exact Qc rfl rfl
theorem ab5{n:Bool}{a d:List Nat}{k:Nat}(hb:Raw k n a d):Qd Tryz.prog 125 [PV.rr n a d] (· = .bool (oG n a d)):=by
 refine aB Qh Tryz.func125 aeU fun C hP=>?_;refine Sz0 ?_;cases n
 ·refine Sz0 ?_;refine Q5 (fun h=>?_) (fun h=>?_)
  ·refine Sz0 ?_;exact Qc (by simp[oG,show a.length=0 by omega]) rfl
  ·refine Sz0 ?_;exact Qc (by simp[oG,show ¬a.length=0 by omega]) rfl
 ·refine Sz0 ?_;exact Qc rfl rfl
structure kC(f:bz):Prop where
 l:f.args.length<2^40
 r:Raw 1048576 f.n f.a f.d
theorem ajl{f:bz}{n:Int}(h0:¬eO f.k=0)(hl:(f.args.length:Int)=eO f.k){i:Nat}(hi:i<f.args.length)(h:f.args[i]<0∨n<=f.args[i]):fS f n=2:=by unfold fS;rw[if_neg h0,if_neg (by simpa using hl),if_pos];exact KaS.2 ⟨_,Kah hi,decide_eq_true h⟩
theorem ajm{f:bz}{n:Int}(h0:¬eO f.k=0)(hl:(f.args.length:Int)=eO f.k)(h:∀j (h:j<f.args.length),0<=f.args[j]/\f.args[j]<n):fS f n=if(if f.k=9 then ku f.n f.a f.d else oG f.n f.a f.d)=true then 0 else 1:=by unfold fS;rw[if_neg h0,if_neg (by simpa using hl),if_neg];intro hq;obtain⟨x,hx,hd⟩:=KaS.1 hq;obtain⟨j,hj,rfl⟩:=Kaz hx;have:=of_decide_eq_true hd;have:=h j hj;omega
theorem QI{f:bz}{n:Int}(hf:kC f):Qd Tryz.prog 78 [PV.nG f,.int .i64 n] (· = .int .i64 (fS f n)):=by
 have hr:=Gy hf.r (by omega);have hz:=ab4 hf.r;have jy:=hf.l;obtain⟨k,args,n0,a,d⟩:=f;simp only at hr hz jy;have hA:=ZN (k:=k);refine aB Qh Tryz.func78 ahB fun C hP=>?_;refine Sz0 ?_;refine Qa hP hA rfl rfl rfl ?_;refine Sz0 ?_;refine Qb (fun h0=>?_) (fun h0=>?_)
 ·refine Sz0 ?_;exact Qc (by simp[fS,h0]) rfl
 refine Sz0 ?_;refine Qa hP hA rfl rfl rfl ?_;refine Sz0 ?_;refine Qb (fun hl=>?_) (fun hl=>?_)
 ·refine Sz0 ?_;exact Qc (by simp[fS,h0,hl]) rfl
 replace hl:(args.length:Int)=eO k:=by omega
 refine Sz0 ?_;refine Ql okB [(4,4),(6,6),(21,32)] [] (fun m J hp=>∃i,m=args.length-i/\i<=args.length/\(∀j (h:j<args.length),j<i->0<=args[j]/\args[j]<n)/\J 21= .int .i64 (i:Nat)/\hp 2=some ⟨5,103,[PV.nG ⟨k,args,n0,a,d⟩],false⟩) args.length ?_ ?_
 ·refine⟨0,rfl,by omega,by omega,?_⟩;refine Sz0 ?_;rfl
 rintro _ J h ⟨i,rfl,hi,h1,uM,dv⟩;refine Sz1 uM ?_;refine Qb (fun hg=>?_) (fun hg=>?_)
 ·have az:i<args.length:=by omega
  have h2:(args[i]<0∨n<=args[i])->fS ⟨k,args,n0,a,d⟩ n=2:=fun h=>ajl (f:=⟨k,args,n0,a,d⟩) h0 hl az h;have bn:0<=args[i]/\args[i]<n->∀j (h:j<args.length),j<i+1->0<=args[j]/\args[j]<n:=fun h j hj fa=>by
   by_cases e:j=i
   ·subst e;exact h
   ·exact h1 j hj (by omega)
  generalize hx:args[i]=x at *
  refine Sz2 uM hx ?_;refine Qo (fun h3=>?_) (fun h3=>?_)
  ·refine Sz0 ?_;exact Qc (by rw[h2 (.inl h3)]) rfl
  refine Sz0 ?_;refine Qb (fun h4=>?_) (fun h4=>?_)
  ·refine Sz0 ?_;exact Qc (by rw[h2 (.inr h4)]) rfl
  refine Sz1 uM ?_;refine Qg (args.length-(i+1)) (by omega) ⟨i+1,rfl,by omega,bn ⟨by omega,by omega⟩,?_⟩;exact Tz1 dv
 obtain rfl:i=args.length:=by omega
 have dW:=ajm (f:=⟨k,args,n0,a,d⟩) (n:=n) h0 hl (fun j hj=>h1 j hj hj);refine Sz1 dv ?_;by_cases h9:k=9
 ·subst h9;refine Sz1 dv ?_;refine Qa hP hr rfl rfl rfl ?_;cases hq:ku n0 a d
  ·refine Sz1 dv ?_;exact Qc (by rw[dW];simp[hq]) rfl
  ·refine Sz1 dv ?_;exact Qc (by rw[dW];simp[hq]) rfl
 ·have d9:decide (k=9)=false:=decide_eq_false h9;have d9':decide (¬k=9)=true:=decide_eq_true h9;refine Sz3 dv d9 d9' ?_;refine Qa hP hz rfl rfl rfl ?_;cases hq:oG n0 a d
  ·refine Sz1 dv ?_;exact Qc (by rw[dW];simp[hq,h9]) rfl
  ·refine Sz1 dv ?_;exact Qc (by rw[dW];simp[hq,h9]) rfl
structure Q4 where
 k:Int
 name:ByteArray
 args:List Int
 n:Bool
 a:List Nat
 d:List Nat
abbrev PV.oD(s:Q4):PV:=.agg [.int .i64 s.k,.str s.name,PV.mono s.args,.bool s.n,PV.nat s.a,PV.nat s.d]
abbrev PV.cu(S:List Q4)(G:List bz):PV:=.agg [.sl 6 (S.map PV.oD),.sl 5 (G.map PV.nG)]
def ct(cs:List Cd)(l:List Int):List Cd:=l.map fun a=>cs.getD a.toNat ([],[])
def lU(k i:Int)(b:Nat):List Vr:=if k=1 then qX i b else if k=5 then [(1,i,0)]else if k=6 then [(1,i,0),(2,i,1),(2,i,2)]else if k=2∨k=3∨k=4 then []else [(2,i,0),(2,i,1)]
def jx(k:Int)(q:Rat)(l:List Cd)(n b:Nat):Cd:=
 if k=1 then sE n b else if k=2 then vk (l.getD 0 ([],[])) (l.getD 1 ([],[])) (cD q)else
 if k=3 then(mU (l.getD 0 ([],[])).1 (l.getD 2 ([],[])).1 (l.getD 1 ([],[])).1,mU (l.getD 0 ([],[])).2 (l.getD 2 ([],[])).2 (l.getD 1 ([],[])).2)else
 if k=4 then(mU (l.getD 0 ([],[])).1 (l.getD 1 ([],[])).2 (l.getD 2 ([],[])).2,mU (l.getD 0 ([],[])).2 (l.getD 2 ([],[])).1 (l.getD 1 ([],[])).1)else
 if k=5 then vk (l.getD 0 ([],[])) (l.getD 1 ([],[])) (Qx n)else if k=6 then(Qx (n+1:Nat),Qx (n+2:Nat))else(Qx n,Qx (n+1:Nat))
def gg(k:Int):Int:=if k=1 then 0 else if k=2∨k=5∨k=6∨k=14 then 2 else if k=3∨k=4∨k=7∨k=8∨k=10∨k=11 then 3 else if k=9∨k=12∨k=13 then 4 else -1
theorem ahk{fr:Fr}{hp:HP}{K:Qi}{ty i d:Nat}{fz:Bool}{cs:List Cd}(h:i<cs.length):iD (some ⟨2,ty,cs.map PV.aC,fz⟩) 2 true i 0 d fr hp K=K (ab fr d (PV.aC (cs[i]'h))) hp:=by rw[oO (by rw[KaV];exact h) (by omega) (by simp),Kb1];rfl
theorem ahl{fr:Fr}{hp:HP}{K:Qi}{ty i d:Nat}{fz:Bool}{cs:List Cd}(h:i<cs.length):iD (some ⟨2,ty,cs.map PV.aC,fz⟩) 1 false i 0 d fr hp K=K (ab fr d (PV.ao (cs[i]'h).1)) hp:=by rw[oO (by rw[KaV];exact h) (by omega) (by simp),Kb1];rfl
theorem ahT{fr:Fr}{hp:HP}{K:Qi}{ty i d:Nat}{fz:Bool}{cs:List Cd}(h:i<cs.length):iD (some ⟨2,ty,cs.map PV.aC,fz⟩) 1 false i 1 d fr hp K=K (ab fr d (PV.ao (cs[i]'h).2)) hp:=by rw[oO (by rw[KaV];exact h) (by omega) (by simp),Kb1];rfl
theorem ajn{σ:Nat->Nat}{γ e ty:Nat}{cs:List PV}:cC σ (.aF γ e ty [.agg cs])= .aF (σ γ) e ty [ft (cs.map (cX σ))]:=rfl
theorem ahU{γ aZ e ty:Nat}{cs:List PV}(h:aZ≠γ):dt γ (.aF aZ e ty [.agg cs])= .aF aZ e ty [ft (cs.map (eE γ))]:=by simp[dt,h,PV.aW,PV.cells]
theorem ahV{γ e ty:Nat}{cs:List PV}{nm:Nat->Bool}:o6 nm (.aF γ e ty [.agg cs])=if(γ::cs.flatMap PV.dj).any nm then .undef else .aF γ e ty [.agg cs]:=by simp[o6,PV.refs,PV.aR,PV.aW,PV.cells]
attribute [go_sem] ahk ahl ahT ajn ahU ahV
structure sw(i:Nat)(s:Q4):Prop where
 k:0<=gg s.k
 l:(s.args.length:Int)=gg s.k
 r:∀a∈s.args,0<=a/\a<(i:Nat)
 q:if s.k=2 then ku s.n s.a s.d=true else oG s.n s.a s.d=true
theorem ahW{S:List Q4}{G:List bz}{i b:Nat}{cs:List Cd}{vs:List Vr}(hi:i<S.length)(hS:S.length<=1000)(aL:sw i S[i])(kH:cs.length=i)(hc:∀c∈cs,CB c)(hv:vs.length<60)(hb:b<1000)(hr:S[i].k=2->S[i].a.length<=2/\S[i].d.length<=2/\Raw 1048576 S[i].n S[i].a S[i].d):
  pW 80 cs vs (vs++lU S[i].k (i:Nat) b) [PV.cu S G,.int .i64 (i:Nat),.int .i64 (b:Nat)] (PV.aC (jx S[i].k (rv S[i].n S[i].a S[i].d) (ct cs S[i].args) vs.length b)):=by
 have jy:S[i].args.length<=4:=by
  have:=aL.l;unfold gg at this
  repeat' split at this
  all_goals omega
 obtain⟨s,hs⟩:∃s,S[i]=s:=⟨_,rfl⟩
 rw[hs]at aL hr jy⊢;have ED:(ct cs s.args).length=s.args.length:=by simp[ct]
 have hL:∀c∈ct cs s.args,CB c:=fun c hm=>by obtain⟨a,ha,rfl⟩:=KaE.1 hm;have:=aL.r a ha;rw[Kad,Kag (show a.toNat<cs.length by omega)];exact hc _ (Kah _)
 refine xa Qh Tryz.func80 rfl ahI Nz fun C hP=>?_;simp only[Rt];refine dO ?_;refine Sz0 ?_;refine bT (pQ 8 2000010 bc (by omega) rfl (by omega)) ?_;refine Sz0 ?_;refine bT (pN (γ:=2000010) (e:=2) (ty:=30) (xs:=[.agg [.aa,.aa]]) (fz:=false) Tz0 (by simp) (by omega) (fun x hx=>by rw[Kaw.1 hx];rfl)) ?_;refine Sz1 hs ?_;refine oM 11 900 2 135 (by omega) Tz0 ?_;refine Ds ep [(4,4),(8,8),(11,11),(13,13),(26,38),(2000010,2000010),(4000004,4000004)] [36,37,900] (fun q J hp=>∃j,q=s.args.length-j/\j<=s.args.length/\J 11= .ms 900 j/\J 4= .np 4000004 0 0/\J 8= .np 2000010 0 0/\J 26= .int .i64 (j:Nat)/\J 4000004= .aF 4000004 2 30 [Cg cs.length vs.length]/\J 2000010= .aF 2000010 2 30 [.agg [.aa,.aa]]/\hp 4000004=some ⟨2,30,[],false⟩/\hp 2000010=some ⟨2,30,[],false⟩/\hp 2000011=none/\
   hp 2000000=some (yj cs)/\hp 2000001=some (yl vs)/\hp 9=some ⟨2,135,[.agg [.aa,.aa]],false⟩/\hp 10=some ⟨6,133,[PV.oD s],false⟩/\hp 900=some ⟨2,135,((ct cs s.args).take j).map PV.aC,false⟩) s.args.length ?_ ?_
 ·refine⟨0,rfl,by omega,?_⟩;refine Sz0 ?_;rfl
 rintro _ J h ⟨j,rfl,hj,nC,j4,j8,Fy,g4,g8,h4,h8,hn,h0,h1,h9,bh,ix⟩;refine Sz1 Fy ?_;refine Qb (fun hg=>?_) (fun hg=>?_)
 ·have cg:j<s.args.length:=by omega
  have hjL:j<(ct cs s.args).length:=by omega
  obtain⟨m,hm⟩:∃m:Nat,s.args[j]=(m:Int):=⟨s.args[j].toNat,by have:=aL.r _ (Kah cg);omega⟩
  have EY:m<cs.length:=by have:=aL.r _ (Kah cg);omega
  have hAj:(ct cs s.args)[j]=cs[m]:=by simp only[ct,Kb1,hm,Kbg];rw[Kad,Kag EY];rfl
  have bO:(ct cs s.args).take (j+1)=(ct cs s.args).take j++[cs[m]]:=by rw[<-hAj];exact Kao hjL
  have pA:j=((ct cs s.args).take j).length:=by rw[Kay];omega
  generalize hy:cs[m]=y at *
  refine Sz7 Fy nC j4 g4 h0 hm hy ?_;rw[Q3 (f:=PV.aC) (y:=y) (xs:=(ct cs s.args).take j) (ty':=135) (fz:=false) (Tz1 ix) bc (by omega) pA (by omega) (by omega)];refine vw Fy nC j4 j8 g4 g8 h4 h8 h0 h1 h9 bh ?_;refine zy (s.args.length-(j+1)) (by omega) ⟨j+1,rfl,by omega,?_⟩;exact Tz14 Fy nC j4 j8 g4 g8 h4 h8 hn h0 h1 h9 bh bO
 obtain rfl:j=s.args.length:=by omega
 rw[Kai (by omega)]at ix;obtain⟨L,hLe⟩:∃L,ct cs s.args=L:=⟨_,rfl⟩
 rw[hLe]at ix ED hL⊢;have hlen:=aL.l;have hq:=aL.q;have hk:s.k=1∨s.k=2∨s.k=3∨s.k=4∨s.k=5∨s.k=6∨(7<=s.k/\s.k<=14):=by
  have:=aL.k;unfold gg at this
  repeat' split at this
  all_goals omega
 clear hs aL;generalize s.args=args at *
 obtain⟨k,nm,ar,n0,a0,d0⟩:=s;simp only at *
 refine Sz1 bh ?_;rcases hk with rfl|rfl|rfl|rfl|rfl|rfl|⟨dn,ph⟩
 ·have hf:=ahe (cs:=cs) (vs:=vs) (s:=(i:Nat)) (b:=b) (by omega) hb;rw[show lU 1 (i:Nat) b=qX (i:Nat) b from rfl,show jx 1 (rv n0 a0 d0) L vs.length b=sE vs.length b from rfl];refine Sz6 j4 j8 g4 g8 h4 h8 ?_;refine pM hP hf (Tz1 h0) (Tz1 h1) rfl rfl rfl (by simp) ?_;refine Sz4 j8 g8 h8 h9 ?_;refine pJ (γ:=2000010) (ty:=30) (n:=cs.length) (m:=(vs++qX (i:Nat) b).length) (Tz1 j8) Tz0 (q:=PV.aC (sE vs.length b)) (lh h9) rfl ⟨rfl,by simp+decide (disch:=try exact D0) only[go_sem],by simp+decide (disch:=try exact D0) only[go_sem]⟩
 ·have nk:args.length=2:=by have:gg 2=2:=(by decide);omega
  have bN:∀n,n<2->∃c,(∀h:n<L.length,L[n]'h=c)/\L.getD n ([],[])=c/\CB c:=fun n hn=>by
   have wh:n<L.length:=by omega
   exact⟨L[n],fun _=>rfl,by rw[Kad,Kag wh];rfl,hL _ (Kah _)⟩
  obtain⟨c0,f0,g0,b0⟩:=bN 0 (by omega);obtain⟨c1,f1,g1,b1⟩:=bN 1 (by omega);rw[nk]at nC;obtain⟨q1,q2,q3⟩:=hr rfl;have hC:=NN (k:=1048576) q3 (by omega);have cN:rs (rv n0 a0 d0)+1<=2^17:=by have:=(show Raw 2 n0 a0 d0 from⟨q3.la,q3.ld,q1,q2,by omega⟩).rs;omega
  have uu:=LQ (m:=cD (rv n0 a0 d0)) b0 b1 ((PQ.const cN).mono (Kae _) (Kae _) (by omega)) (by omega) (by omega) (by omega) (by omega);rw[show lU 2 (i:Nat) b=[]from rfl,show jx 2 (rv n0 a0 d0) L vs.length b=vk (L.getD 0 ([],[])) (L.getD 1 ([],[])) (cD (rv n0 a0 d0))from rfl,g0,g1,Kar];refine B9 j4 j8 nC g4 g8 h4 h8 bh ix f0 f1 ?_;refine Qa hP hC rfl rfl rfl ?_;refine B9 j4 j8 nC g4 g8 h4 h8 bh ix f0 f1 ?_;refine Qa hP uu rfl rfl rfl ?_;refine Sz4 j8 g8 h8 h9 ?_;refine pJ (γ:=2000010) (ty:=30) (n:=cs.length) (m:=vs.length) (Tz1 j8) Tz0 (q:=PV.aC (vk c0 c1 (cD (rv n0 a0 d0)))) (lh h9) rfl ⟨rfl,by simp+decide (disch:=try exact D1 h0) only[go_sem,h0],by simp+decide (disch:=try exact D1 h1) only[go_sem,h1]⟩
 ·have nk:args.length=3:=by have:gg 3=3:=(by decide);omega
  have bN:∀n,n<3->∃c,(∀h:n<L.length,L[n]'h=c)/\L.getD n ([],[])=c/\CB c:=fun n hn=>by
   have wh:n<L.length:=by omega
   exact⟨L[n],fun _=>rfl,by rw[Kad,Kag wh];rfl,hL _ (Kah _)⟩
  obtain⟨c0,f0,g0,vP⟩:=bN 0 (by omega);obtain⟨c1,f1,g1,AH⟩:=bN 1 (by omega);obtain⟨c2,f2,g2,AI⟩:=bN 2 (by omega);rw[nk]at nC;have p1:=DY (vP.x) (AI.x) (AH.x) (by omega) (by omega) (by omega);have p2:=DY (vP.y) (AI.y) (AH.y) (by omega) (by omega) (by omega);have e2:jx 3 (rv n0 a0 d0) L vs.length b=(mU c0.1 c2.1 c1.1,mU c0.2 c2.2 c1.2):=by rw[<-g0,<-g1,<-g2];rfl
  rw[show lU 3 (i:Nat) b=[]from rfl,e2,Kar];refine vw j4 j8 nC g4 g8 h4 h8 bh ix f0 f1 f2 ?_;refine Qa hP p1 rfl rfl rfl ?_;refine vw j4 j8 nC g4 g8 h4 h8 bh ix f0 f1 f2 ?_;refine Qa hP p2 rfl rfl rfl ?_;refine Sz4 j8 g8 h8 h9 ?_;refine pJ (γ:=2000010) (ty:=30) (n:=cs.length) (m:=vs.length) (Tz1 j8) Tz0 (q:=PV.aC (mU c0.1 c2.1 c1.1,mU c0.2 c2.2 c1.2)) (lh h9) rfl ⟨rfl,by simp+decide (disch:=try exact D1 h0) only[go_sem,h0],by simp+decide (disch:=try exact D1 h1) only[go_sem,h1]⟩
 ·have nk:args.length=3:=by have:gg 4=3:=(by decide);omega
  have bN:∀n,n<3->∃c,(∀h:n<L.length,L[n]'h=c)/\L.getD n ([],[])=c/\CB c:=fun n hn=>by
   have wh:n<L.length:=by omega
   exact⟨L[n],fun _=>rfl,by rw[Kad,Kag wh];rfl,hL _ (Kah _)⟩
  obtain⟨c0,f0,g0,vP⟩:=bN 0 (by omega);obtain⟨c1,f1,g1,AH⟩:=bN 1 (by omega);obtain⟨c2,f2,g2,AI⟩:=bN 2 (by omega);rw[nk]at nC;have p1:=DY (vP.x) (AH.y) (AI.y) (by omega) (by omega) (by omega);have p2:=DY (vP.y) (AI.x) (AH.x) (by omega) (by omega) (by omega);have e2:jx 4 (rv n0 a0 d0) L vs.length b=(mU c0.1 c1.2 c2.2,mU c0.2 c2.1 c1.1):=by rw[<-g0,<-g1,<-g2];rfl
  rw[show lU 4 (i:Nat) b=[]from rfl,e2,Kar];refine vw j4 j8 nC g4 g8 h4 h8 bh ix f0 f1 f2 ?_;refine Qa hP p1 rfl rfl rfl ?_;refine vw j4 j8 nC g4 g8 h4 h8 bh ix f0 f1 f2 ?_;refine Qa hP p2 rfl rfl rfl ?_;refine Sz4 j8 g8 h8 h9 ?_;refine pJ (γ:=2000010) (ty:=30) (n:=cs.length) (m:=vs.length) (Tz1 j8) Tz0 (q:=PV.aC (mU c0.1 c1.2 c2.2,mU c0.2 c2.1 c1.1)) (lh h9) rfl ⟨rfl,by simp+decide (disch:=try exact D1 h0) only[go_sem,h0],by simp+decide (disch:=try exact D1 h1) only[go_sem,h1]⟩
 ·have nk:args.length=2:=by have:gg 5=2:=(by decide);omega
  have bN:∀n,n<2->∃c,(∀h:n<L.length,L[n]'h=c)/\L.getD n ([],[])=c/\CB c:=fun n hn=>by
   have wh:n<L.length:=by omega
   exact⟨L[n],fun _=>rfl,by rw[Kad,Kag wh];rfl,hL _ (Kah _)⟩
  obtain⟨c0,f0,g0,b0⟩:=bN 0 (by omega);obtain⟨c1,f1,g1,b1⟩:=bN 1 (by omega);rw[nk]at nC;have hf:=xt (cs:=cs) (vs:=vs) (k:=1) (s:=(i:Nat)) (m:=0) (by omega);have uu:=LQ (m:=Qx vs.length) b0 b1 ((PQ.var).mono (Kae _) (by omega) (by omega)) (by omega) (by omega) (by omega) (by omega);have e2:jx 5 (rv n0 a0 d0) L vs.length b=vk c0 c1 (Qx vs.length):=by rw[<-g0,<-g1];rfl
  rw[show lU 5 (i:Nat) b=[(1,((i:Nat):Int),0)]from rfl,e2];refine Sz6 j4 j8 g4 g8 h4 h8 ?_;refine pM hP hf (Tz1 h0) (Tz1 h1) rfl rfl rfl (by simp) ?_;refine Sz3 j8 g8 h8 ?_;refine bT (pQ 14 2000011 (Tz1 hn) (by omega) rfl (by omega)) ?_;refine Sz1 g8 ?_;refine bT (pN (γ:=2000011) (e:=2) (ty:=30) (xs:=[.agg [.aa,.aa]]) (fz:=false) Tz0 (by simp) (by omega) (fun x hx=>by rw[Kaw.1 hx];rfl)) ?_;refine Sz5 g8 nC ix f0 f1 ?_;refine Qa hP uu rfl rfl rfl ?_;refine Sz4 j8 g8 h8 h9 ?_;refine pJ (γ:=2000010) (ty:=30) (n:=cs.length) (m:=(vs++[(1,((i:Nat):Int),0)]).length) (Tz1 j8) Tz0 (q:=PV.aC (vk c0 c1 (Qx vs.length))) (lh h9) rfl ⟨rfl,by simp+decide (disch:=try exact D0) only[go_sem],by simp+decide (disch:=try exact D0) only[go_sem]⟩
 ·have hf:=xt (cs:=cs) (vs:=vs) (k:=1) (s:=(i:Nat)) (m:=0) (by omega);have e1:(vs++[(1,((i:Nat):Int),(0:Int))]).length=vs.length+1:=by simp
  have hd:=Oo (cs:=cs) (vs:=vs++[(1,((i:Nat):Int),(0:Int))]) (s:=(i:Nat)) (m:=1) (by rw[e1];omega) (by omega);have e3:vs++[(1,((i:Nat):Int),(0:Int))]++[(2,((i:Nat):Int),(1:Int)),(2,((i:Nat):Int),(1:Int)+1)]=vs++lU 6 (i:Nat) b:=by rw[Kbv];rfl
  have e4:(vs++lU 6 (i:Nat) b).length=vs.length+3:=by rw[<-e3];simp
  rw[pW,e3,e1,e4]at hd;rw[pW,e1]at hf;rw[show jx 6 (rv n0 a0 d0) L vs.length b=(Qx (vs.length+1:Nat),Qx (vs.length+2:Nat))from rfl,e4];refine Sz6 j4 j8 g4 g8 h4 h8 ?_;refine pM hP hf (Tz1 h0) (Tz1 h1) rfl rfl rfl (by simp) ?_;refine Sz3 j8 g8 h8 ?_;refine bT (pQ 16 2000011 (Tz1 hn) (by omega) rfl (by omega)) ?_;refine Sz1 g8 ?_;refine bT (pN (γ:=2000011) (e:=2) (ty:=30) (xs:=[.agg [.aa,.aa]]) (fz:=false) Tz0 (by simp) (by omega) (fun x hx=>by rw[Kaw.1 hx];rfl)) ?_;refine Sz1 g8 ?_;refine pM hP hd Tz0 Tz0 rfl rfl rfl (by simp) ?_;refine Sz4 j8 g8 h8 h9 ?_;refine pJ (γ:=2000010) (ty:=30) (n:=cs.length) (m:=vs.length+3) (Tz1 j8) Tz0 (q:=PV.aC (Qx (vs.length+1:Nat),Qx (vs.length+2:Nat))) (lh h9) rfl ⟨rfl,by simp+decide (disch:=try exact D0) only[go_sem],by simp+decide (disch:=try exact D0) only[go_sem]⟩
 ·have hf:=Oo (cs:=cs) (vs:=vs) (s:=(i:Nat)) (m:=0) (by omega) (by omega);have d1:decide (k=1)=false:=decide_eq_false (by omega);have d2:decide (k=2)=false:=decide_eq_false (by omega);have d3:decide (k=3)=false:=decide_eq_false (by omega);have d4:decide (k=4)=false:=decide_eq_false (by omega);have d5:decide (k=5)=false:=decide_eq_false (by omega);have d6:decide (k=6)=false:=decide_eq_false (by omega);have e1:lU k (i:Nat) b=[(2,((i:Nat):Int),(0:Int)),(2,((i:Nat):Int),(0:Int)+1)]:=by unfold lU;rw[if_neg (by omega),if_neg (by omega),if_neg (by omega),if_neg (by omega)];rfl
  have e2:jx k (rv n0 a0 d0) L vs.length b=(Qx vs.length,Qx (vs.length+1:Nat)):=by unfold jx;rw[if_neg (by omega),if_neg (by omega),if_neg (by omega),if_neg (by omega),if_neg (by omega),if_neg (by omega)]
  rw[e1,e2];refine vw j4 j8 g4 g8 h4 h8 d1 d2 d3 d4 d5 d6 ?_;refine pM hP hf (Tz1 h0) (Tz1 h1) rfl rfl rfl (by simp) ?_;refine Sz4 j8 g8 h8 h9 ?_;refine pJ (γ:=2000010) (ty:=30) (n:=cs.length) (m:=(vs++[(2,((i:Nat):Int),(0:Int)),(2,((i:Nat):Int),(0:Int)+1)]).length) (Tz1 j8) Tz0 (q:=PV.aC (Qx vs.length,Qx (vs.length+1:Nat))) (lh h9) rfl ⟨rfl,by simp+decide (disch:=try exact D0) only[go_sem],by simp+decide (disch:=try exact D0) only[go_sem]⟩
def kQ(n:Nat):Bool:=(decide (65<=n)&&decide (n<=90))||(decide (97<=n)&&decide (n<=122))
def rz(n:Nat):Bool:=decide (48<=n)&&decide (n<=57)
theorem WV{n:Nat}:Qd Tryz.prog 164 [.int .u8 n] (· = .bool (kQ n)):=by
 refine aB Qh Tryz.func164 aeV fun C hP=>?_;refine Sz0 ?_;refine Q5 (fun h1=>?_) (fun h1=>?_)
 ·refine Sz0 ?_;refine Qo (fun h2=>?_) (fun h2=>?_)
  ·refine Sz0 ?_;exact Qc (by simp[kQ,show 65<=n by omega,show n<=90 by omega]) rfl
  refine Sz0 ?_;refine Q5 (fun h3=>?_) (fun h3=>?_)
  ·refine Sz0 ?_;exact Qc (by simp[kQ,show ¬n<=90 by omega,show 97<=n by omega];omega) rfl
  ·refine Sz0 ?_;exact Qc (by simp[kQ,show ¬n<=90 by omega,show ¬97<=n by omega]) rfl
 ·refine Sz0 ?_;refine Q5 (fun h3=>?_) (fun h3=>?_)
  ·omega
  ·refine Sz0 ?_;exact Qc (by simp[kQ,show ¬65<=n by omega,show ¬97<=n by omega]) rfl
theorem ZO{n:Nat}:Qd Tryz.prog 165 [.int .u8 n] (· = .bool (rz n)):=by
 refine aB Qh Tryz.func165 aeW fun C hP=>?_;refine Sz0 ?_;refine Q5 (fun h1=>?_) (fun h1=>?_)
 ·refine Sz0 ?_;exact Qc (by simp[rz,show 48<=n by omega];omega) rfl
 ·refine Sz0 ?_;exact Qc (by simp[rz,show ¬48<=n by omega]) rfl
def kg:List ByteArray:=[⟨#[97,110,103,108,101]⟩,⟨#[97,112,101,120]⟩,⟨#[98,105,115,101,99,116,111,114]⟩,⟨#[99,101,110,116,101,114]⟩,⟨#[99,105,114,99,108,101]⟩,⟨#[99,105,114,99,117,109]⟩,⟨#[99,111,108,108,105,110,101,97,114]⟩,⟨#[99,111,109,109,111,110]⟩,⟨#[99,111,110,99,121,99,108,105,99]⟩,⟨#[99,111,110,103,114,117,101,110,116]⟩,⟨#[99,114,111,115,115]⟩,⟨#[99,117,116]⟩,⟨#[100,105,118,105,100,101]⟩,⟨#[102,111,111,116]⟩,⟨#[108,105,110,101]⟩,⟨#[109,101,101,116]⟩,⟨#[109,105,100,112,111,105,110,116]⟩,⟨#[109,105,114,114,111,114]⟩,⟨#[111,110]⟩,⟨#[111,116,104,101,114]⟩,⟨#[112,97,114,97,108,108,101,108]⟩,⟨#[112,101,114,112,101,110,100,105,99,117,108,97,114]⟩,⟨#[112,111,105,110,116,115]⟩,⟨#[112,114,111,118,101]⟩,⟨#[114,97,116,105,111]⟩,⟨#[114,101,102,108,101,99,116]⟩,⟨#[115,97,109,101]⟩,⟨#[115,104,105,102,116]⟩,⟨#[116,117,114,110]⟩]
def gP(s:ByteArray):Nat->Nat
 |0=>0
 |n+1=>if gP s n<s.size then gP s n+(Utf8.decode s (gP s n)).2 else gP s n
theorem QJ{s:ByteArray}{n:Nat}(h:¬gP s n<s.size):∀k,gP s (n+k)=gP s n
 |0=>rfl
 |k+1=>by have e:=QJ h k;rw[<-Nat.add_assoc,gP,e,if_neg h]
structure Nq(s:ByteArray):Prop where
 p:0<s.size
 l:s.size<=20
 f:∀h:0<s.size,kQ (s[0]'h).toNat=true
 a:∀n (h:gP s n<s.size),kQ (s[gP s n]'h).toNat=true∨rz (s[gP s n]'h).toNat=true
 k:∀k∈kg,s≠k
noncomputable def yI (s : ByteArray) : Bool := @decide (Nq s) (Classical.propDecidable _)
theorem zZ{s:ByteArray}:yI s=true↔Nq s:= @decide_eq_true_iff (Nq s) (Classical.propDecidable _)
theorem ahX{s:ByteArray}{b:Bool}(h:b=true↔Nq s):b=yI s:=Bool.eq_iff_iff.2 (h.trans zZ.symm)
theorem Uu:Qd Tryz.prog 166 [] (· = .sl 1 (kg.map PV.str)):=by
 refine aB Qh Tryz.func166 aeX fun C hP=>?_;refine Sz0 ?_;rw[zV rfl (fun p hp=>by
  have:∀p∈kg.map PV.str,p.cells.length=1:=fun p hp=>by obtain⟨b,_,rfl⟩:=KaE.1 hp;rfl
  exact this p hp) (by omega)]
 refine Sz0 ?_;exact gy (e:=1) (ty:=9) (xs:=kg.map PV.str) (fz:=false) rfl rfl
structure jb(s:Q4):Prop where
 n:s.name.size<2^40
 l:s.args.length<2^40
 r:Raw 1048576 s.n s.a s.d
def oK:Prop:=∀s:ByteArray,s.size<2^40->Qd Tryz.prog 126 [PV.str s] (· = .bool (yI s))
structure F2(S:List Q4)(i:Nat)(s:Q4):Prop where
 ok:sw i s
 n:s.name= .empty∨(Nq s.name/\∀j (h:j<S.length),j<i->S[j].name≠s.name)
theorem nE{e:Int}{P:Prop}(h:e≠0)(h2:P->False):e=0↔P:=⟨fun q=>absurd q h,fun p=>(h2 p).elim⟩
theorem ZP(k:Int):(k=1∨k=2∨k=3∨k=4∨k=5∨k=6∨k=7∨k=8∨k=9∨k=10∨k=11∨k=12∨k=13∨k=14)∨(k≠1/\k≠2/\k≠3/\k≠4/\k≠5/\k≠6/\k≠7/\k≠8/\k≠9/\k≠10/\k≠11/\k≠12/\k≠13/\k≠14):=by omega
theorem ZQ{k:Int}:Qd Tryz.prog 124 [.int .i64 k] (· = .int .i64 (gg k)):=by
 rcases ZP k with h|⟨h1,h2,h3,h4,h5,h6,h7,h8,h9,bh,de,iw,e7,gh⟩
 ·rcases h with rfl|rfl|rfl|rfl|rfl|rfl|rfl|rfl|rfl|rfl|rfl|rfl|rfl|rfl
  all_goals
   refine aB Qh Tryz.func124 LP fun C hP=>?_;refine Sz0 ?_;exact Qc rfl rfl
 ·have e:gg k= -1:=by simp[gg,h1,h2,h3,h4,h5,h6,h7,h8,h9,bh,de,iw,e7,gh]
  rw[e];have d1:decide (k=1)=false:=decide_eq_false h1;have d2:decide (k=2)=false:=decide_eq_false h2;have d3:decide (k=3)=false:=decide_eq_false h3;have d4:decide (k=4)=false:=decide_eq_false h4;have d5:decide (k=5)=false:=decide_eq_false h5;have d6:decide (k=6)=false:=decide_eq_false h6;have d7:decide (k=7)=false:=decide_eq_false h7;have d8:decide (k=8)=false:=decide_eq_false h8;have d9:decide (k=9)=false:=decide_eq_false h9;have d10:decide (k=10)=false:=decide_eq_false bh;have d11:decide (k=11)=false:=decide_eq_false de;have d12:decide (k=12)=false:=decide_eq_false iw;have d13:decide (k=13)=false:=decide_eq_false e7;have d14:decide (k=14)=false:=decide_eq_false gh;have dd:decide (k=1)=false/\decide (k=2)=false/\decide (k=3)=false/\decide (k=4)=false/\decide (k=5)=false/\decide (k=6)=false/\decide (k=7)=false/\decide (k=8)=false/\decide (k=9)=false/\decide (k=10)=false/\decide (k=11)=false/\decide (k=12)=false/\decide (k=13)=false/\decide (k=14)=false:=⟨d1,d2,d3,d4,d5,d6,d7,d8,d9,d10,d11,d12,d13,d14⟩
  refine aB Qh Tryz.func124 LP fun C hP=>?_;refine Sz1 dd ?_;exact Qc rfl rfl
theorem cJ{p:PV}{R:PV->Prop}(h:R p)(hd:p.aD=true):vC R p:=⟨hd,p,Qf _,h⟩
theorem ZR(hN:oK){S:List Q4}{i:Nat}(hS:S.length<2^40)(hb:∀s∈S,jb s)(hi:i<S.length):Qd Tryz.prog 77 [.sl 6 (S.map PV.oD),.int .i64 (i:Nat)] (fun r=>∃e:Int,r= .int .i64 e/\(e=0↔F2 S i S[i])):=by
 have sU:=hb _ (Kah hi);have hA:∀k,Qd Tryz.prog 124 [.int .i64 k] (· = .int .i64 (gg k)):=fun k=>ZQ;obtain⟨s,hs⟩:∃s,S[i]=s:=⟨_,rfl⟩
 rw[hs]at sU⊢;have hr:=Gy sU.r (by omega);have hz:=ab5 sU.r;have gp:=hN s.name sU.n;have jy:=sU.l;refine aB Qh Tryz.func77 ahE fun C hP=>?_;refine Sz1 hs ?_;refine Qa hP (hA _) rfl rfl rfl ?_;refine Sz0 ?_;refine Qb (fun h0=>?_) (fun h0=>?_)
 ·refine Sz0 ?_;exact cJ ⟨8,rfl,nE (by decide) fun q=>absurd q.ok.k (by omega)⟩ rfl
 refine Sz0 ?_;refine Qa hP (hA _) rfl rfl rfl ?_;refine Sz0 ?_;refine Qb (fun hl=>?_) (fun hl=>?_)
 ·refine Sz0 ?_;exact cJ ⟨1,rfl,nE (by decide) fun q=>absurd q.ok.l (by omega)⟩ rfl
 replace hl:(s.args.length:Int)=gg s.k:=by omega
 refine Sz0 ?_;refine Ql okB [(4,4),(7,7),(28,39)] [] (fun m J hp=>∃j,m=s.args.length-j/\j<=s.args.length/\(∀n (h:n<s.args.length),n<j->0<=s.args[n]/\s.args[n]<(i:Nat))/\J 28= .int .i64 (j:Nat)/\hp 5=some ⟨6,133,[PV.oD s],false⟩) s.args.length ?_ ?_
 ·refine⟨0,rfl,by omega,by omega,?_⟩;refine Sz0 ?_;rfl
 rintro _ J h ⟨j,rfl,hj,Fl,Kd,fM⟩;refine Sz1 Kd ?_;refine Qb (fun hg=>?_) (fun hg=>?_)
 ·have cg:j<s.args.length:=by omega
  have bn:0<=s.args[j]/\s.args[j]<(i:Nat)->∀n (h:n<s.args.length),n<j+1->0<=s.args[n]/\s.args[n]<(i:Nat):=fun h n hn SG=>by
   by_cases e:n=j
   ·subst e;exact h
   ·exact Fl n hn (by omega)
  have R6:=Kah cg;generalize hx:s.args[j]=x at *
  refine Sz2 Kd hx ?_;refine Qo (fun h3=>?_) (fun h3=>?_)
  ·refine Sz0 ?_;exact cJ ⟨2,rfl,nE (by decide) fun q=>by have:=q.ok.r x R6;omega⟩ rfl
  refine Sz0 ?_;refine Qb (fun h4=>?_) (fun h4=>?_)
  ·refine Sz0 ?_;exact cJ ⟨2,rfl,nE (by decide) fun q=>by have:=q.ok.r x R6;omega⟩ rfl
  refine Sz1 Kd ?_;refine Qg (s.args.length-(j+1)) (by omega) ⟨j+1,rfl,by omega,bn ⟨by omega,by omega⟩,?_⟩;exact Tz1 fM
 obtain rfl:j=s.args.length:=by omega
 have SR:∀a∈s.args,0<=a/\a<(i:Nat):=fun a ha=>by obtain⟨n,hn,rfl⟩:=Kaz ha;exact Fl n hn hn
 refine Sz1 fM ?_;by_cases h2:s.k=2
 ·have d2:decide (s.k=2)=true:=decide_eq_true h2;have vM:decide (¬s.k=2)=false:=by simp[h2]
  refine Sz3 fM d2 vM ?_;refine Qa hP hr rfl rfl rfl ?_;cases hq:ku s.n s.a s.d
  ·refine Sz3 fM d2 vM ?_;exact cJ ⟨1,rfl,nE (by decide) fun q=>by have:=q.ok.q;rw[if_pos h2,hq]at this;cases this⟩ rfl
  have dW:sw i s:=⟨by omega,hl,SR,by rw[if_pos h2];exact hq⟩
  refine Sz3 fM d2 vM ?_;have bO:(S.take i).length<=S.length:=by rw[Kay];omega
  refine Qb (fun iB=>?_) (fun iB=>?_)
  ·refine Sz1 fM ?_;exact cJ ⟨0,rfl,fun _=>⟨dW,.inl iB⟩,fun _=>rfl⟩ rfl
  refine Sz1 fM ?_;refine Qa hP gp rfl rfl rfl ?_;cases sT:yI s.name
  ·refine Sz1 fM ?_;exact cJ ⟨6,rfl,nE (by decide) fun q=>by rcases q.n with q|q;exact absurd q iB;exact absurd (zZ.2 q.1) (by rw[sT];decide)⟩ rfl
  refine Sz1 fM ?_;refine Ql okB [(4,4),(9,9),(71,80)] [9] (fun m J hp=>∃j,m=(S.take i).length-j/\j<=(S.take i).length/\(∀n (h:n<(S.take i).length),n<j->(S.take i)[n].name≠s.name)/\J 71= .int .i64 (j:Nat)/\hp 5=some ⟨6,133,[PV.oD s],false⟩) (S.take i).length ?_ ?_
  ·refine⟨0,rfl,by omega,by omega,?_⟩;refine Sz1 fM ?_;rfl
  rintro _ J2 h2 ⟨j,rfl,hj,aQ,wD,fM⟩;refine Sz1 wD ?_;refine Qb (fun hg=>?_) (fun hg=>?_)
  ·have cg:j<(S.take i).length:=by omega
   have Bh:(∀j (h:j<S.length),j<i->S[j].name≠s.name)->(S.take i)[j].name≠s.name:=fun q=>by rw[KcN];exact q j (by rw[Kay]at cg;omega) (by rw[Kay]at cg;omega)
   have bn:(S.take i)[j].name≠s.name->∀n (h:n<(S.take i).length),n<j+1->(S.take i)[n].name≠s.name:=fun hh n hn SG=>by
    by_cases e:n=j
    ·subst e;exact hh
    ·exact aQ n hn (by omega)
   generalize hx:(S.take i)[j]=x at *
   refine Sz3 wD hx fM ?_;refine Qb (fun he=>?_) (fun he=>?_)
   ·refine Sz1 fM ?_;exact cJ ⟨7,rfl,nE (by decide) fun q=>by rcases q.n with q|q;exact absurd q iB;exact absurd he (Bh q.2)⟩ rfl
   refine Sz1 wD ?_;refine Qg ((S.take i).length-(j+1)) (by omega) ⟨j+1,rfl,by omega,bn he,?_⟩;exact Tz1 fM
  obtain rfl:j=(S.take i).length:=by omega
  refine Sz0 ?_;exact cJ ⟨0,rfl,fun _=>⟨dW,.inr ⟨zZ.1 sT,fun j hj fa=>by
   have h3:j<(S.take i).length:=by rw[Kay];omega
   have:=aQ j h3 h3
   rwa[KcN]at this⟩⟩,fun _=>rfl⟩ rfl
 ·have d2:decide (s.k=2)=false:=decide_eq_false h2;have vM:decide (¬s.k=2)=true:=by simp[h2]
  refine Sz3 fM d2 vM ?_;refine Qa hP hz rfl rfl rfl ?_;cases hq:oG s.n s.a s.d
  ·refine Sz3 fM d2 vM ?_;exact cJ ⟨1,rfl,nE (by decide) fun q=>by have:=q.ok.q;rw[if_neg h2,hq]at this;cases this⟩ rfl
  have dW:sw i s:=⟨by omega,hl,SR,by rw[if_neg h2];exact hq⟩
  refine Sz3 fM d2 vM ?_;have bO:(S.take i).length<=S.length:=by rw[Kay];omega
  refine Qb (fun iB=>?_) (fun iB=>?_)
  ·refine Sz1 fM ?_;exact cJ ⟨0,rfl,fun _=>⟨dW,.inl iB⟩,fun _=>rfl⟩ rfl
  refine Sz1 fM ?_;refine Qa hP gp rfl rfl rfl ?_;cases sT:yI s.name
  ·refine Sz1 fM ?_;exact cJ ⟨6,rfl,nE (by decide) fun q=>by rcases q.n with q|q;exact absurd q iB;exact absurd (zZ.2 q.1) (by rw[sT];decide)⟩ rfl
  refine Sz1 fM ?_;refine Ql okB [(4,4),(9,9),(71,80)] [9] (fun m J hp=>∃j,m=(S.take i).length-j/\j<=(S.take i).length/\(∀n (h:n<(S.take i).length),n<j->(S.take i)[n].name≠s.name)/\J 71= .int .i64 (j:Nat)/\hp 5=some ⟨6,133,[PV.oD s],false⟩) (S.take i).length ?_ ?_
  ·refine⟨0,rfl,by omega,by omega,?_⟩;refine Sz1 fM ?_;rfl
  rintro _ J2 h2 ⟨j,rfl,hj,aQ,wD,fM⟩;refine Sz1 wD ?_;refine Qb (fun hg=>?_) (fun hg=>?_)
  ·have cg:j<(S.take i).length:=by omega
   have Bh:(∀j (h:j<S.length),j<i->S[j].name≠s.name)->(S.take i)[j].name≠s.name:=fun q=>by rw[KcN];exact q j (by rw[Kay]at cg;omega) (by rw[Kay]at cg;omega)
   have bn:(S.take i)[j].name≠s.name->∀n (h:n<(S.take i).length),n<j+1->(S.take i)[n].name≠s.name:=fun hh n hn SG=>by
    by_cases e:n=j
    ·subst e;exact hh
    ·exact aQ n hn (by omega)
   generalize hx:(S.take i)[j]=x at *
   refine Sz3 wD hx fM ?_;refine Qb (fun he=>?_) (fun he=>?_)
   ·refine Sz1 fM ?_;exact cJ ⟨7,rfl,nE (by decide) fun q=>by rcases q.n with q|q;exact absurd q iB;exact absurd he (Bh q.2)⟩ rfl
   refine Sz1 wD ?_;refine Qg ((S.take i).length-(j+1)) (by omega) ⟨j+1,rfl,by omega,bn he,?_⟩;exact Tz1 fM
  obtain rfl:j=(S.take i).length:=by omega
  refine Sz0 ?_;exact cJ ⟨0,rfl,fun _=>⟨dW,.inr ⟨zZ.1 sT,fun j hj fa=>by
   have h3:j<(S.take i).length:=by rw[Kay];omega
   have:=aQ j h3 h3
   rwa[KcN]at this⟩⟩,fun _=>rfl⟩ rfl
structure BW(S:List Q4)(G:List bz):Prop where
 s:∀i (h:i<S.length),sw i S[i]
 g:∀g∈G,fS g S.length=0
 l:S.length<=40
structure Me(S:List Q4)(G:List bz):Prop where
 ok:BW S G
 s:∀i (h:i<S.length),F2 S i S[i]
 gl:G.length<=8
theorem Hs(hN:oK){S:List Q4}{G:List bz}(hS:S.length<2^40)(hG:G.length<2^40)(hb:∀s∈S,jb s)(hg:∀g∈G,kC g):
  Qd Tryz.prog 38 [PV.cu S G] (fun r=>∃e:Int,r= .int .i64 e/\(e=0↔Me S G)):=by
 refine aB Qh Tryz.func38 ahD fun C hP=>?_;refine Sz0 ?_;refine Qo (fun rB=>?_) (fun rB=>?_)
 ·refine Sz0 ?_;exact cJ ⟨4,rfl,nE (by decide) fun q=>absurd q.ok.l (by omega)⟩ rfl
 refine Sz0 ?_;refine Qb (fun h8=>?_) (fun h8=>?_)
 ·refine Sz0 ?_;exact cJ ⟨4,rfl,nE (by decide) fun q=>absurd q.gl (by omega)⟩ rfl
 refine Sz0 ?_;refine Ql okB [(2,4),(21,31)] [] (fun m J hp=>∃i,m=S.length-i/\i<=S.length/\(∀n (h:n<S.length),n<i->F2 S n S[n])/\J 21= .int .i64 (i:Nat)/\hp 1=some ⟨2,25,[PV.cu S G],false⟩) S.length ?_ ?_
 ·refine⟨0,rfl,by omega,by omega,?_⟩;refine Sz0 ?_;rfl
 rintro _ J h ⟨i,rfl,hi,aH,uM,aN⟩;refine Sz1 uM ?_;refine Qb (fun hc=>?_) (fun hc=>?_)
 ·have az:i<S.length:=by omega
  have hr:=ZR hN hS hb az;refine Sz2 uM aN ?_;refine fT hP hr rfl rfl rfl ?_;rintro _ ⟨e,rfl,he⟩;by_cases h0:e=0
  ·subst h0;have aL:=he.1 rfl;refine Sz2 uM aN ?_;refine Qg (S.length-(i+1)) (by omega) ⟨i+1,rfl,by omega,fun n hn rI=>?_,?_⟩
   ·by_cases e:n=i
    ·subst e;exact aL
    ·exact aH n hn (by omega)
   exact Tz1 aN
  ·have d:decide (¬e=0)=true:=decide_eq_true h0;refine Sz3 uM aN d ?_;exact cJ ⟨e,rfl,nE h0 fun q=>absurd (he.2 (q.s i az)) h0⟩ rfl
 obtain rfl:i=S.length:=by omega
 refine Sz1 aN ?_;refine Ql okB [(2,2),(6,7),(35,47)] [6] (fun m J hp=>∃i,m=G.length-i/\i<=G.length/\(∀n (h:n<G.length),n<i->fS G[n] S.length=0)/\J 35= .int .i64 (i:Nat)/\hp 1=some ⟨2,25,[PV.cu S G],false⟩) G.length ?_ ?_
 ·refine⟨0,rfl,by omega,by omega,?_⟩;refine Sz1 aN ?_;rfl
 rintro _ J2 h2 ⟨i,rfl,lC,pd,Fz,aN⟩;refine Sz1 Fz ?_;refine Qb (fun hc=>?_) (fun hc=>?_)
 ·have az:i<G.length:=by omega
  have hr:=QI (n:=S.length) (hg _ (Kah az));have bn:fS G[i] S.length=0->∀n (h:n<G.length),n<i+1->fS G[n] S.length=0:=fun h n hn rI=>by
   by_cases e:n=i
   ·subst e;exact h
   ·exact pd n hn (by omega)
  have hgm:=Kah az;generalize hx:G[i]=x at *
  refine Sz3 Fz aN hx ?_;refine Qa hP hr rfl rfl rfl ?_;by_cases h0:fS x S.length=0
  ·have d:decide (¬fS x S.length=0)=false:=by simp[h0]
   refine Sz3 Fz aN d ?_;refine Qg (G.length-(i+1)) (by omega) ⟨i+1,rfl,by omega,bn h0,?_⟩;exact Tz1 aN
  ·have d:decide (¬fS x S.length=0)=true:=decide_eq_true h0;refine Sz3 Fz aN d ?_;exact cJ ⟨_,rfl,nE h0 fun q=>absurd (q.ok.g x hgm) h0⟩ rfl
 obtain rfl:i=G.length:=by omega
 refine Sz0 ?_;refine cJ ⟨0,rfl,fun _=>⟨⟨fun i h=>(aH i h h).ok,fun g hm=>?_,by omega⟩,fun i h=>aH i h h,by omega⟩,fun _=>rfl⟩ rfl;obtain⟨n,hn,rfl⟩:=Kaz hm;exact pd n hn hn
def m9(w l:List Int)(n:Nat):Int:=w.getD (l.getD n 0).toNat 0
def iG(w:List Int)(k:Int)(l:List Int):Int:=if k=2 then m9 w l 0+m9 w l 1 else if k=3∨k=4 then m9 w l 0+m9 w l 1+m9 w l 2 else if k=5 then 2*m9 w l 0+m9 w l 1 else 1
def cz:Q4:=⟨0,.empty,[],false,[],[]⟩
def dG(S:List Q4):Nat->List Int
 |0=>[]
 |i+1=>dG S i++[iG (dG S i) (S.getD i cz).k (S.getD i cz).args]
theorem qH(S:List Q4):∀n,(dG S n).length=n
 |0=>rfl
 |n+1=>by rw[dG,Kax,qH S n];rfl
theorem aew{w l:List Int}{B:Int}(h:∀x∈w,0<=x/\x<=B)(hB:0<=B)(n:Nat):0<=m9 w l n/\m9 w l n<=B:=by
 unfold m9;rw[Kad];cases hq:w[(l.getD n 0).toNat]? with
 |none=>exact⟨Int.le_refl _,hB⟩
 |some x=>exact h x (Kaj hq)
theorem M4(S:List Q4):∀n,∀x∈dG S n,0<=x/\x<=(4^n:Nat)
 |0,x,h=>by cases h
 | n+1,x,h=>by
  have ih:=M4 S n;have h4:4^(n+1)=4*4^n:=by rw[Kbz,KaX]
  have hp:1<=4^n:=Nat.one_le_pow _ _ (by omega);rw[dG]at h;rcases KaG.1 h with h|h
  ·have:=ih x h;omega
  ·obtain rfl:x=iG (dG S n) (S.getD n cz).k (S.getD n cz).args:=by simpa using h
   have b:=fun m=>aew (l:=(S.getD n cz).args) ih (by omega) m;have b0:=b 0;have b1:=b 1;have b2:=b 2;unfold iG
   repeat' split
   all_goals omega
theorem ab6{α:Type}{f:α->PV}{fr:Fr}{hp:HP}{K:Qi}{e d:Nat}{k:IntKind}{xs:List α}(h:2<xs.length):Q7 e (.sl e (xs.map f)) (.int k 2) d fr hp K=K (ab fr d (.pt (f (xs[2]'h)).cells)) hp:=by rw[ve (by omega) (by omega)];rfl
attribute [go_sem] ab6
theorem UX{S:List Q4}{G:List bz}(hf:BW S G)(qg:S.length<=8):Qd Tryz.prog 163 [PV.cu S G] (· =PV.mono (dG S S.length)):=by
 refine aB Qh Tryz.func163 aeZ fun C hP=>?_;refine Sz0 ?_;refine oM 3 900 1 3 (by omega) Tz0 ?_;refine Ql okB [(3,83)] [82,83,900] (fun m J hp=>∃i,m=S.length-i/\i<=S.length/\J 3= .ms 900 i/\J 4= .int .i64 (i:Nat)/\hp 1=some ⟨2,25,[PV.cu S G],false⟩/\hp 900=some ⟨1,3,pU (dG S i),false⟩) S.length ?_ ?_
 ·refine⟨0,rfl,by omega,?_⟩;refine Sz0 ?_;exact⟨rfl,rfl⟩
 rintro _ J h ⟨i,rfl,hi,j3,j4,aN,ix⟩;refine Sz2 j4 aN ?_;refine Qb (fun hc=>?_) (fun hc=>?_)
 ·have az:i<S.length:=by omega
  have aL:=hf.s i az;have hd:S.getD i cz=S[i]:=by rw[Kad,Kag az];rfl
  have s6:dG S (i+1)=dG S i++[iG (dG S i) S[i].k S[i].args]:=by rw[dG,hd]
  have lG:=qH S i;have R8:=M4 S i;generalize hx:S[i]=s at *
  have h48:4^i<=4^8:=Kbu (by omega) (by omega);have bN:∀n,n<s.args.length->∃(m:Nat)(v:Int),m<i/\(∀h:n<s.args.length,s.args[n]'h=(m:Int))/\(∀h:m<(dG S i).length,(dG S i)[m]'h=v)/\m9 (dG S i) s.args n=v/\0<=v/\v<=65536:=fun n hn=>by
   have hr:=aL.r _ (Kah hn);have uE:s.args[n].toNat<(dG S i).length:=by omega
   have hv:=R8 _ (Kah uE);refine⟨s.args[n].toNat,(dG S i)[s.args[n].toNat],by omega,fun _=>by omega,fun _=>rfl,?_,hv.1,by omega⟩;unfold m9;rw[Kad,Kad,Kag hn];simp only[Kba];rw[Kag uE];rfl
  have hlen:=aL.l;generalize dG S i=w at *
  clear aL R8;by_cases k2:s.k=2
  ·have mm:s.args.length=2:=by rw[k2]at hlen;have:gg 2=2:=(by decide);omega
   obtain⟨m0,v0,a0,a1,a2,a3,a4,a5⟩:=bN 0 (by omega);obtain⟨m1,v1,b0,b1,b2,b3,b4,b5⟩:=bN 1 (by omega);rw[show iG w s.k s.args=v0+v1 by rw[iG,if_pos k2,a3,b3]]at s6;have d2:decide (s.k=2)=true:=decide_eq_true k2;refine yS j3 j4 ix aN hx d2 a1 a2 b1 b2 ?_;rw[Q3 (f:=PV.int .i64) (y:=(v0+v1)) (xs:=w) (ty':=3) (fz:=false) (lh ix) bc (by omega) lG.symm (by omega) (by omega)];refine Sz2 j4 aN ?_;refine Qg (S.length-(i+1)) (by omega) ⟨i+1,rfl,by omega,?_⟩;exact Tz3 j4 aN s6
  by_cases k3:s.k=3∨s.k=4
  ·have mm:s.args.length=3:=by
    rcases k3 with k3|k3
    ·rw[k3]at hlen;have:gg 3=3:=by decide
     omega
    ·rw[k3]at hlen;have:gg 4=3:=by decide
     omega
   obtain⟨m0,v0,a0,a1,a2,a3,a4,a5⟩:=bN 0 (by omega);obtain⟨m1,v1,b0,b1,b2,b3,b4,b5⟩:=bN 1 (by omega);obtain⟨m2,v2,c0,c1,c2,c3,c4,c5⟩:=bN 2 (by omega);rw[show iG w s.k s.args=v0+v1+v2 by rw[iG,if_neg k2,if_pos k3,a3,b3,c3]]at s6;have d2:decide (s.k=2)=false:=decide_eq_false k2;rcases k3 with k3|k3
   ·have d3:decide (s.k=3)=true:=decide_eq_true k3;refine Sz13 j3 j4 ix aN hx d2 d3 a1 a2 b1 b2 c1 c2 ?_;rw[Q3 (f:=PV.int .i64) (y:=(v0+v1+v2)) (xs:=w) (ty':=3) (fz:=false) (lh ix) bc (by omega) lG.symm (by omega) (by omega)];refine Sz2 j4 aN ?_;refine Qg (S.length-(i+1)) (by omega) ⟨i+1,rfl,by omega,?_⟩;exact Tz3 j4 aN s6
   ·have d3:decide (s.k=3)=false:=decide_eq_false (by omega);have d4:decide (s.k=4)=true:=decide_eq_true k3;have dd:decide (s.k=2)=false/\decide (s.k=3)=false/\decide (s.k=4)=true:=⟨d2,d3,d4⟩
    refine vw j3 j4 ix aN hx dd a1 a2 b1 b2 c1 c2 ?_;rw[Q3 (f:=PV.int .i64) (y:=(v0+v1+v2)) (xs:=w) (ty':=3) (fz:=false) (lh ix) bc (by omega) lG.symm (by omega) (by omega)];refine Sz2 j4 aN ?_;refine Qg (S.length-(i+1)) (by omega) ⟨i+1,rfl,by omega,?_⟩;exact Tz3 j4 aN s6
  have dd:decide (s.k=2)=false/\decide (s.k=3)=false/\decide (s.k=4)=false:=⟨decide_eq_false k2,decide_eq_false (by omega),decide_eq_false (by omega)⟩
  by_cases k5:s.k=5
  ·have mm:s.args.length=2:=by rw[k5]at hlen;have:gg 5=2:=(by decide);omega
   obtain⟨m0,v0,a0,a1,a2,a3,a4,a5⟩:=bN 0 (by omega);obtain⟨m1,v1,b0,b1,b2,b3,b4,b5⟩:=bN 1 (by omega);rw[show iG w s.k s.args=2*v0+v1 by rw[iG,if_neg k2,if_neg k3,if_pos k5,a3,b3]]at s6;have d5:decide (s.k=5)=true:=decide_eq_true k5;refine B9 j3 j4 ix aN hx dd d5 a1 a2 b1 b2 ?_;rw[Q3 (f:=PV.int .i64) (y:=(2*v0+v1)) (xs:=w) (ty':=3) (fz:=false) (lh ix) bc (by omega) lG.symm (by omega) (by omega)];refine Sz2 j4 aN ?_;refine Qg (S.length-(i+1)) (by omega) ⟨i+1,rfl,by omega,?_⟩;exact Tz3 j4 aN s6
  ·rw[show iG w s.k s.args=1 by rw[iG,if_neg k2,if_neg k3,if_neg k5]]at s6;have d5:decide (s.k=5)=false:=decide_eq_false k5;refine Sz7 j3 j4 ix aN hx dd d5 ?_;rw[Q3 (f:=PV.int .i64) (y:=1) (xs:=w) (ty':=3) (fz:=false) (lh ix) bc (by omega) lG.symm (by omega) (by omega)];refine Sz2 j4 aN ?_;refine Qg (S.length-(i+1)) (by omega) ⟨i+1,rfl,by omega,?_⟩;exact Tz3 j4 aN s6
 obtain rfl:i=S.length:=by omega
 refine Sz1 j3 ?_;exact gy (e:=1) (ty:=3) (xs:=pU (dG S S.length)) (fz:=false) ix (by rw[Kai (by simp[qH])])
structure M5(S:List Q4)(G:List bz):Prop where
 w:∀x∈dG S S.length,x<=8
 g:∀g∈G,g.k=6∨g.k=7->∀a∈g.args,(dG S S.length).getD a.toNat 0<=3
theorem Ad{g:bz}{n:Int}(h:fS g n=0):eO g.k≠0/\(g.args.length:Int)=eO g.k/\(∀a∈g.args,0<=a/\a<n)/\(if g.k=9 then ku g.n g.a g.d else oG g.n g.a g.d)=true:=by
 unfold fS at h;split at h
 ·cases h
 split at h
 ·cases h
 split at h
 ·cases h
 rename_i h1 h2 h3;by_cases h4:(if g.k=9 then ku g.n g.a g.d else oG g.n g.a g.d)=true
 ·refine⟨h1,by omega,fun a ha=>?_,h4⟩;have:¬(a<0∨n<=a):=fun hq=>h3 (KaS.2 ⟨a,ha,decide_eq_true hq⟩);omega
 ·rw[if_neg h4]at h;cases h
theorem ab7{S:List Q4}{G:List bz}(hf:BW S G)(qg:S.length<=8)(hG:G.length<2^40):Qd Tryz.prog 123 [PV.cu S G] (fun r=>∃b,r= .bool b/\(b=true->M5 S G)):=by
 have hw:=UX hf qg;have lG:(dG S S.length).length=S.length:=qH S _;have gD:∀x∈dG S S.length,x=x:=fun _ _=>rfl;refine aB Qh Tryz.func123 aeY fun C hP=>?_;refine Sz0 ?_;refine Qa hP hw rfl rfl rfl ?_;obtain⟨w,Fs⟩:∃w,dG S S.length=w:=⟨_,rfl⟩
 rw[Fs]at lG⊢;refine Sz0 ?_;refine Ql okB [(2,2),(4,4),(10,20)] [] (fun m J hp=>∃i,m=w.length-i/\i<=w.length/\(∀n (h:n<w.length),n<i->w[n]<=8)/\J 4= .int .i64 (i:Nat)/\hp 1=some ⟨2,25,[PV.cu S G],false⟩) w.length ?_ ?_
 ·refine⟨0,rfl,by omega,by omega,?_⟩;refine Sz0 ?_;rfl
 rintro _ J h ⟨i,rfl,hi,h8,j4,aN⟩;refine Sz1 j4 ?_;refine Qb (fun hc=>?_) (fun hc=>?_)
 ·have az:i<w.length:=by omega
  have bn:w[i]<=8->∀n (h:n<w.length),n<i+1->w[n]<=8:=fun h n hn rI=>by
   by_cases e:n=i
   ·subst e;exact h
   ·exact h8 n hn (by omega)
  generalize hx:w[i]=x at *
  refine Sz2 j4 hx ?_;refine Qb (fun hq=>?_) (fun hq=>?_)
  ·refine Sz0 ?_;exact cJ ⟨false,rfl,fun h=>by cases h⟩ rfl
  refine Sz1 j4 ?_;refine Qg (w.length-(i+1)) (by omega) ⟨i+1,rfl,by omega,bn (by omega),?_⟩;exact Tz1 aN
 obtain rfl:i=w.length:=by omega
 have aP:∀x∈w,x<=8:=fun x hx=>by obtain⟨n,hn,rfl⟩:=Kaz hx;exact h8 n hn hn
 refine Sz1 aN ?_;refine Ql okB [(2,2),(5,7),(21,58)] [6] (fun m J hp=>∃i,m=G.length-i/\i<=G.length/\(∀n (h:n<G.length),n<i->G[n].k=6∨G[n].k=7->∀a∈G[n].args,w.getD a.toNat 0<=3)/\J 5= .int .i64 (i:Nat)/\hp 1=some ⟨2,25,[PV.cu S G],false⟩) G.length ?_ ?_
 ·refine⟨0,rfl,by omega,by omega,?_⟩;refine Sz1 aN ?_;rfl
 rintro _ J2 h2 ⟨i,rfl,lC,pd,j5,aN⟩;refine Sz2 j5 aN ?_;refine Qb (fun hc=>?_) (fun hc=>?_)
 ·have az:i<G.length:=by omega
  obtain⟨_,R4,Fl,_⟩:=Ad (hf.g _ (Kah az));have bn:(G[i].k=6∨G[i].k=7->∀a∈G[i].args,w.getD a.toNat 0<=3)->∀n (h:n<G.length),n<i+1->G[n].k=6∨G[n].k=7->∀a∈G[n].args,w.getD a.toNat 0<=3:=fun h n hn rI=>by
   by_cases e:n=i
   ·subst e;exact h
   ·exact pd n hn (by omega)
  generalize hx:G[i]=g at *
  refine Sz3 j5 aN hx ?_;have sX:g.args.length<=8:=by
   unfold eO at R4
   repeat' split at R4
   all_goals omega
  refine Ql okB [(2,2),(7,7),(33,58)] [] (fun m J hp=>∃j,m=g.args.length-j/\j<=g.args.length/\(∀n (h:n<g.args.length),n<j->g.k=6∨g.k=7->w.getD g.args[n].toNat 0<=3)/\J 7= .int .i64 (j:Nat)/\hp 1=some ⟨2,25,[PV.cu S G],false⟩/\hp 6=some ⟨5,103,[PV.nG g],false⟩) g.args.length ?_ ?_
  ·refine⟨0,rfl,by omega,by omega,?_⟩;refine Sz1 aN ?_;rfl
  rintro _ J3 h3 ⟨j,rfl,hj,Ss,j7,aN,vS⟩;refine Sz2 j7 vS ?_;refine Qb (fun eR=>?_) (fun eR=>?_)
  ·have cg:j<g.args.length:=by omega
   have Fi:=Fl _ (Kah cg);have od:(g.k=6∨g.k=7->w.getD g.args[j].toNat 0<=3)->∀n (h:n<g.args.length),n<j+1->g.k=6∨g.k=7->w.getD g.args[n].toNat 0<=3:=fun h n hn rI=>by
    by_cases e:n=j
    ·subst e;exact h
    ·exact Ss n hn (by omega)
   obtain⟨m,hm⟩:∃m:Nat,g.args[j]=(m:Int):=⟨g.args[j].toNat,by omega⟩
   have hmw:m<w.length:=by omega
   rw[hm,Kbg,Kad,Kag hmw]at od;simp only[Kba]at od;generalize hy:w[m]=y at *
   by_cases k6:g.k=6
   ·have d6:decide (g.k=6)=true:=decide_eq_true k6;refine Sz5 j7 vS d6 hm hy ?_;refine Qb (fun hq=>?_) (fun hq=>?_)
    ·refine Sz0 ?_;exact cJ ⟨false,rfl,fun h=>by cases h⟩ rfl
    refine Sz1 j7 ?_;refine Qg (g.args.length-(j+1)) (by omega) ⟨j+1,rfl,by omega,od (fun _=>by omega),?_⟩;exact Tz2 aN vS
   have d6:decide (g.k=6)=false:=decide_eq_false k6;by_cases k7:g.k=7
   ·have d7:decide (g.k=6)=false/\decide (g.k=7)=true:=⟨d6,decide_eq_true k7⟩
    refine Sz5 j7 vS d7 hm hy ?_;refine Qb (fun hq=>?_) (fun hq=>?_)
    ·refine Sz0 ?_;exact cJ ⟨false,rfl,fun h=>by cases h⟩ rfl
    refine Sz1 j7 ?_;refine Qg (g.args.length-(j+1)) (by omega) ⟨j+1,rfl,by omega,od (fun _=>by omega),?_⟩;exact Tz2 aN vS
   ·have d7:decide (g.k=6)=false/\decide (g.k=7)=false:=⟨d6,decide_eq_false k7⟩
    refine Sz4 j7 vS d7 hm ?_;refine Qg (g.args.length-(j+1)) (by omega) ⟨j+1,rfl,by omega,od (fun hk=>by omega),?_⟩;exact Tz2 aN vS
  obtain rfl:j=g.args.length:=by omega
  refine Sz1 j5 ?_;simp (disch:=decide) only[iT,nO];refine Qg (G.length-(i+1)) (by omega) ⟨i+1,rfl,by omega,bn (fun hk a ha=>?_),?_⟩
  ·obtain⟨n,hn,rfl⟩:=Kaz ha;exact Ss n hn hn hk
  exact Tz1 aN
 obtain rfl:i=G.length:=by omega
 refine Sz0 ?_;refine cJ ⟨true,rfl,fun _=>⟨by rw[Fs];exact aP,fun g hm=>?_⟩⟩ rfl;rw[Fs];obtain⟨n,hn,rfl⟩:=Kaz hm;exact pd n hn hn
structure lV(S:List Q4)(G:List bz):Prop where
 f:BW S G
 l:S.length<=8
 gl:G.length<=3
 t:M5 S G
 s:∀s∈S,s.a.length<=2/\s.d.length<=2
 g:∀g∈G,g.a.length<=2/\g.d.length<=2
 o:Me S G
theorem aex(hN:oK){S:List Q4}{G:List bz}(hS:S.length<2^40)(hG:G.length<2^40)(hb:∀s∈S,jb s)(hg:∀g∈G,kC g):
  Qd Tryz.prog 76 [PV.cu S G] (fun r=>∃b,r= .bool b/\(b=true->lV S G)):=by
 have hR:=Hs hN hS hG hb hg;refine aB Qh Tryz.func76 ahC fun C hP=>?_;refine Sz0 ?_;refine Qo (fun h8=>?_) (fun h8=>?_)
 ·refine Sz0 ?_;exact cJ ⟨false,rfl,fun h=>by cases h⟩ rfl
 refine Sz0 ?_;refine Qo (fun h3=>?_) (fun h3=>?_)
 ·refine Sz0 ?_;exact cJ ⟨false,rfl,fun h=>by cases h⟩ rfl
 refine Sz0 ?_;refine fT hP hR rfl rfl rfl ?_;rintro _ ⟨e,rfl,he⟩;by_cases h0:¬e=0
 ·have d:decide (¬e=0)=true:=decide_eq_true h0;refine Sz1 d ?_;exact cJ ⟨false,rfl,fun h=>by cases h⟩ rfl
 obtain rfl:e=0:=by omega
 have ho:=he.1 rfl;have hf:=ho.ok;have hT:=ab7 hf (by omega) hG;refine Sz0 ?_;refine fT hP hT rfl rfl rfl ?_;rintro _ ⟨b,rfl,ht⟩;cases b
 ·refine Sz0 ?_;exact cJ ⟨false,rfl,fun h=>by cases h⟩ rfl
 replace ht:=ht rfl;refine Sz0 ?_;refine Ql okB [(2,3),(25,52)] [] (fun m J hp=>∃i,m=S.length-i/\i<=S.length/\(∀n (h:n<S.length),n<i->S[n].a.length<=2/\S[n].d.length<=2)/\J 3= .int .i64 (i:Nat)/\hp 1=some ⟨2,25,[PV.cu S G],false⟩) S.length ?_ ?_
 ·refine⟨0,rfl,by omega,by omega,?_⟩;refine Sz0 ?_;rfl
 rintro _ J h ⟨i,rfl,hi,aH,j3,aN⟩;refine Sz2 j3 aN ?_;refine Qb (fun hc=>?_) (fun hc=>?_)
 ·have az:i<S.length:=by omega
  have bn:S[i].a.length<=2/\S[i].d.length<=2->∀n (h:n<S.length),n<i+1->S[n].a.length<=2/\S[n].d.length<=2:=fun h n hn rI=>by
   by_cases e:n=i
   ·subst e;exact h
   ·exact aH n hn (by omega)
  generalize hx:S[i]=s at *
  refine Sz3 j3 aN hx ?_;refine Qo (fun q1=>?_) (fun q1=>?_)
  ·refine Sz0 ?_;exact cJ ⟨false,rfl,fun h=>by cases h⟩ rfl
  refine Sz3 j3 aN hx ?_;refine Qb (fun q2=>?_) (fun q2=>?_)
  ·refine Sz0 ?_;exact cJ ⟨false,rfl,fun h=>by cases h⟩ rfl
  refine Sz1 j3 ?_;refine Qg (S.length-(i+1)) (by omega) ⟨i+1,rfl,by omega,bn ⟨by omega,by omega⟩,?_⟩;exact Tz1 aN
 obtain rfl:i=S.length:=by omega
 refine Sz1 aN ?_;refine Ql okB [(2,2),(4,4),(53,80)] [] (fun m J hp=>∃i,m=G.length-i/\i<=G.length/\(∀n (h:n<G.length),n<i->G[n].a.length<=2/\G[n].d.length<=2)/\J 4= .int .i64 (i:Nat)/\hp 1=some ⟨2,25,[PV.cu S G],false⟩) G.length ?_ ?_
 ·refine⟨0,rfl,by omega,by omega,?_⟩;refine Sz1 aN ?_;rfl
 rintro _ J2 h2 ⟨i,rfl,lC,pd,j4,aN⟩;refine Sz2 j4 aN ?_;refine Qb (fun hc=>?_) (fun hc=>?_)
 ·have az:i<G.length:=by omega
  have bn:G[i].a.length<=2/\G[i].d.length<=2->∀n (h:n<G.length),n<i+1->G[n].a.length<=2/\G[n].d.length<=2:=fun h n hn rI=>by
   by_cases e:n=i
   ·subst e;exact h
   ·exact pd n hn (by omega)
  generalize hx:G[i]=g at *
  refine Sz3 j4 aN hx ?_;refine Qo (fun q1=>?_) (fun q1=>?_)
  ·refine Sz0 ?_;exact cJ ⟨false,rfl,fun h=>by cases h⟩ rfl
  refine Sz3 j4 aN hx ?_;refine Qb (fun q2=>?_) (fun q2=>?_)
  ·refine Sz0 ?_;exact cJ ⟨false,rfl,fun h=>by cases h⟩ rfl
  refine Sz1 j4 ?_;refine Qg (G.length-(i+1)) (by omega) ⟨i+1,rfl,by omega,bn ⟨by omega,by omega⟩,?_⟩;exact Tz1 aN
 obtain rfl:i=G.length:=by omega
 refine Sz0 ?_;refine cJ ⟨true,rfl,fun _=>⟨hf,by omega,by omega,ht,fun s hm=>?_,fun g hm=>?_,ho⟩⟩ rfl
 ·obtain⟨n,hn,rfl⟩:=Kaz hm;exact aH n hn hn
 ·obtain⟨n,hn,rfl⟩:=Kaz hm;exact pd n hn hn
open Go Go.FW Go.ChangeShapes Go.WideShapes Go.ChangeAt Go.RowKit
variable {H : Type} {enc : TypeId × Value -> H}
def vr(l:List Int):Prop:=l.length<=1048576/\∀x∈l,-9223372036854775808<=x/\x<=9223372036854775807
theorem Ip:Rd enc 60 fun ps=>∃l:List Int,ps=[PV.mono l]/\vr l:=by refine(tx (α:=Int) (f:=fun(x:Int)=>.int .i64 x) bR Tryz.underlying60 (by rw[zq];omega) (w9 Tryz.underlying3)).mono ?_;rintro ps ⟨l,rfl,h1,h2⟩;exact⟨l,by rw[zq],h1,h2⟩
instance : Inhabited bz := ⟨⟨0, [], false, [], []⟩⟩
instance : Inhabited Q4 := ⟨⟨0, .empty, [], false, [], []⟩⟩
def BX(f:bz):Prop:=vr f.args/\Raw 1048576 f.n f.a f.d
theorem aey:Rd enc 103 fun ps=>∃f:bz,ps=(PV.nG f).cells/\BX f:=by refine(Cs (Qs:=[fun ps=>∃n:Int,ps=[.int .i64 n]/\ -9223372036854775808<=n/\n<=9223372036854775807,fun ps=>∃l:List Int,ps=[PV.mono l]/\vr l,fun ps=>∃(n:Bool)(a d:List Nat),ps=[.bool n,PV.nat a,PV.nat d]/\Raw 1048576 n a d]) bR Tryz.underlying103 (by kernel_rfl) ⟨rfl,w9 Tryz.underlying3,rfl,Ip,rfl,F4,trivial⟩).mono ?_;rintro ps ⟨p,q,rfl,⟨k,rfl,h0⟩,p1,q1,rfl,⟨l,rfl,h1⟩,p2,q2,rfl,⟨n,a,d,rfl,h2⟩,rfl⟩;exact⟨⟨k,l,n,a,d⟩,rfl,h1,h2⟩
def Ae(s:Q4):Prop:=s.name.size<=1048576/\vr s.args/\Raw 1048576 s.n s.a s.d
theorem ab8{l:List UInt8}:l.length<=Rows.uptoBulk (H:=H) (.lit (.string l)):=by simp[Rows.uptoBulk]
theorem aez:Rd enc 133 fun ps=>∃s:Q4,ps=(PV.oD s).cells/\Ae s:=by refine(Cs (Qs:=[fun ps=>∃n:Int,ps=[.int .i64 n]/\ -9223372036854775808<=n/\n<=9223372036854775807,fun ps=>∃s:ByteArray,ps=[.str s]/\s.size<=1048576,fun ps=>∃l:List Int,ps=[PV.mono l]/\vr l,fun ps=>∃(n:Bool)(a d:List Nat),ps=[.bool n,PV.nat a,PV.nat d]/\Raw 1048576 n a d]) bR Tryz.underlying133 (by kernel_rfl) ⟨rfl,w9 Tryz.underlying3,rfl,UB Tryz.underlying9 (fun l=>ab8),rfl,Ip,rfl,F4,trivial⟩).mono ?_;rintro ps ⟨p,q,rfl,⟨k,rfl,h0⟩,p3,q3,rfl,⟨s,rfl,h3⟩,p1,q1,rfl,⟨l,rfl,h1⟩,p2,q2,rfl,⟨n,a,d,rfl,h2⟩,rfl⟩;exact⟨⟨k,s,l,n,a,d⟩,rfl,h3,h1,h2⟩
theorem OU:Tryz.prog.cellsOf 103=5:=by kernel_rfl
theorem OV:Tryz.prog.cellsOf 133=6:=by kernel_rfl
def F3(G:List bz):Prop:=G.length<=1048576/\∀g∈G,BX g
def Iq(S:List Q4)(G:List bz):Prop:=(S.length<=1048576/\∀s∈S,Ae s)/\F3 G
theorem ab9:Rd enc 23 fun ps=>∃G:List bz,ps=[.sl 5 (G.map PV.nG)]/\F3 G:=by refine(tx (α:=bz) (f:=PV.nG) (G:=BX) bR Tryz.underlying23 (by rw[OU];omega) aey).mono ?_;rintro ps ⟨l,rfl,h1,h2⟩;exact⟨l,by rw[OU],h1,h2⟩
theorem ZS:Rd enc 25 fun ps=>∃(S:List Q4)(G:List bz),ps=(PV.cu S G).cells/\Iq S G:=by
 refine(Cs (Qs:=[fun ps=>∃l:List Q4,ps=[.sl 6 (l.map PV.oD)]/\l.length<=1048576/\∀s∈l,Ae s,fun ps=>∃G:List bz,ps=[.sl 5 (G.map PV.nG)]/\F3 G]) bR Tryz.underlying25 (by kernel_rfl) ⟨rfl,?_,rfl,ab9,trivial⟩).mono ?_
 ·refine(tx (α:=Q4) (f:=PV.oD) (G:=Ae) bR Tryz.underlying22 (by rw[OV];omega) aez).mono ?_;rintro ps ⟨l,rfl,h1,h2⟩;exact⟨l,by rw[OV],h1,h2⟩
 rintro ps ⟨p,q,rfl,⟨S,rfl,h1⟩,p2,q2,rfl,⟨G,rfl,h2⟩,rfl⟩;exact⟨S,G,rfl,h1,h2⟩
variable {w : World} {base : Nat} {spare : Nat -> Bool} {held : Bool} {r : Reach} {b0 : Nat} {v : Value} {d : DataW H} {ps : List MemPlace}
theorem WW(dT:Value.okWide Tryz.prog w r b0 25 v)(hd:DataW.Trod enc Tryz.prog w base spare held 25 v d ps)(hn:Rows.uptoBulk d<=1048576):∃S G,Q6 w ca (PV.cu S G) v/\Iq S G:=by obtain⟨p,⟨S,G,rfl,h⟩,h2⟩:=Wu Tryz.underlying25 dT ZS hd hn;exact⟨S,G,h2,h⟩
theorem ahY{f:bz}(h:BX f):kC f:=⟨by have:=h.1.1;omega,h.2⟩
theorem ahZ{s:Q4}(h:Ae s):jb s:=⟨by have:=h.1;omega,by have:=h.2.1.1;omega,h.2.2⟩
end Go.Proofs.YtccppnepkfbpkaaGreat
namespace Go.Proofs.YtccppnepkfbpkaaGreat
open Go Go.FW
def Iz:ay:=⟨63,[.t 2],Zr (Yd 2)<| .seq (Zr (Yo 5 0<|
 fu 7 6 6)<| .cond (.t 7) (Zr (Yd 2) .ret) .skip)<| .seq (Zr (Yi 3 0)<| .block 0<| .loop<| .seq (Zr (YI 8 3 0)<| .cond (.t 11) .skip (.exit 0))<| .seq (.block 1<| .seq (Zr (kE 14 0 3<|
 YP 17 3 16<|
 Zk 20 .gtr 19 4<|
 vG 21 20 0<|
 Au 21 0 1<|
 vG 32 31 0<|
 Zg 32 false (.bY 37 2 (.t 36))<|
 Zg 32 false (.ld 38 1 false (.t 37))<|
 Zg 32 false (.len 39 (.t 38))<|
 Zg 32 false (.bin 40 .gtr false (.t 39) (.c (Zz 2)))<|
 dm 41 32 40)<| .cond (.t 41) (Zr (Yd 2) .ret) .skip)<|Zr (Yi 4 0)<| .block 2<| .loop<| .seq (Zr (cW 42 4 0 3<|
 Zi 45 4 43 44<|
 YP 46 3 45<|
 Ys 49 42 48)<| .cond (.t 49) .skip (.exit 2))<| .seq (.block 3<|Zr (kE 52 0 3<|
 jc 55 3 54 4<|
 fu 60 59 4)<| .cond (.t 60) (Zr (Yd 2) .ret) .skip)<| .rg (YV 50 4))<| .rg (Zm 12 3<|
 YC 13 12 3))<|Zr (YK 61 0 26<|
 Yc 2 62) .ret⟩
theorem ah0:Qe Tryz.prog Tryz.f10=some Iz:=by kernel_rfl
def c44:ay:=⟨19,[.t 2],Zr (Yd 2)<| .seq (Zr (Yo 4 0<|
 fu 6 5 4)<| .cond (.t 6) (Zr (Yd 2) .ret) .skip)<| .seq (Zr (Yi 3 0)<| .block 0<| .loop<| .seq (Zr (YI 7 3 0)<| .cond (.t 10) .skip (.exit 0))<| .seq (.block 1<|Zr (eY 13 0 3<|
 Yn 17 10 16<|
 Zu 18 17 .nil)<| .cond (.t 18) (Zr (Yd 2) .ret) .skip)<| .rg (Zm 11 3<|
 YC 12 11 3))<|Zr (YG 2) .ret⟩
theorem ah1:Qe Tryz.prog Tryz.f44=some c44:=by kernel_rfl
def c17:ay:=⟨17,[.t 2],Zr (Zo (.box 1 4 62 (.t 0))<|
 Yd 2)<|Zr (Yb 3 0 1<|
 Yn 5 44 4<|
 Zm 6 5<|
 YJ 6 3 1<|
 Zg 6 true (.call (some 9) false (.c (.fn 44 [] [])) [.t 8])<|
 Yk 10 6 9<|
 Zm 11 10<|
 YJ 11 1 1<|
 nf 11<|
 Zg 11 true (.bin 15 .leq false (.t 14) (.c (Zz 6)))<|
 Yk 16 11 15<|
 Yc 2 16) .ret⟩
theorem ah2:Qe Tryz.prog Tryz.f17=some c17:=by kernel_rfl
def c98:ay:=⟨19,[.t 6,.t 7],Zr (dU 6 0)<| .seq (Zr (Zm 8 2<|
 Yi 9 0)<| .block 0<| .loop<|Zr (Ys 10 9 8)<| .seq (.cond (.t 10) .skip (.exit 0))<| .seq (.block 1<|Zr (YX 11 0 1 149<|
 Yc 0 13)<|Zr (Yo 14 0<|
 fu 16 15 4000)<| .cond (.t 16) (Zr (dU 6 4) .ret) .skip)<| .rg (YC 17 9 9))<|Zr (Zm 18 0<|
 Zm 6 18<|
 Yi 7 0) .ret⟩
theorem ah3:Qe Tryz.prog Tryz.f98=some c98:=by kernel_rfl
def c99:ay:=⟨34,[.t 4,.t 5],Zr (dU 4 0)<| .seq (Zr (iO 8<|
 je 12 9 11)<| .cond (.t 12) (Zr (dU 4 16) .ret) .skip)<|Zr (YH 6)<| .seq (Zr (eZ 13 1)<| .block 0<| .loop<|Zr (Ys 16 15 14)<| .seq (.cond (.t 16) .skip (.exit 0))<| .seq (.block 1<|Zr (Zm 17 15<|
 Zm 7 17 .nil)<|Zr (cW 18 6 0 7<|
 Ym 21 19 20<|
 eY 23 1 7<|
 Yl 27 149 22 26<|
 Yl 28 150 18 27<|
 Yc 6 28)<|Zr (Yo 29 6<|
 fu 31 30 4000)<| .cond (.t 31) (Zr (dU 4 4) .ret) .skip)<| .rg (Yz 32 15 15))<|Zr (Zm 33 6<|
 Zm 4 33<|
 Yi 5 0) .ret⟩
theorem ah4:Qe Tryz.prog Tryz.f99=some c99:=by kernel_rfl
def c97:ay:=⟨56,[.t 4,.t 5],Zr (dU 4 0)<| .seq (Zr (iO 12<|
 je 16 13 15)<| .cond (.t 16) (Zr (dU 4 16) .ret) .skip)<| .seq (Zr (eZ 17 1)<| .block 0<| .loop<|Zr (Ys 20 19 18)<| .seq (.cond (.t 20) .skip (.exit 0))<| .seq (.block 1<|Zr (Ym 21 17 19<|
 Yc 7 22)<|Zr (jd 23 7<|
 rm 25 24 7 64<|
 dm 28 25 27)<| .cond (.t 28) (Zr (dU 4 2) .ret) .skip)<| .rg (YC 29 19 19))<|Zr (Zq 30 false 90 [.c (Zz 1)]<|
 Yn 31 148 30<|
 Yc 8 31)<| .seq (Zr (eZ 32 0)<| .block 2<| .loop<|Zr (Ys 35 34 33)<| .seq (.cond (.t 35) .skip (.exit 2))<| .seq (.block 3<|Zr (dh 36 34 9)<|Zr (cW 38 8 0 9<|
 Ym 41 39 40<|
 eY 43 1 9<|
 Zq 47 false 98 [.t 38,.t 42,.t 46]<|
 Zm 37 47<|
 Ye 48 37<|
 Zm 10 48<|
 Yc 11 49)<| .seq (Zr (YT 50 11)<| .cond (.t 51) (Zr (Zm 52 11<|
 Yj 4<|
 Yc 5 52) .ret) .skip)<| .rg (dh 53 10 8))<| .rg (Yz 54 34 34))<|Zr (Zm 55 8<|
 Zm 4 55<|
 Yi 5 0) .ret⟩
theorem ah5:Qe Tryz.prog Tryz.f97=some c97:=by kernel_rfl
def c52:ay:=⟨73,[.t 6],Zr (YZ 3 62 0<|
 Yi 6 0)<|Zr (cA 13 0 3 1 3<|
 Yl 17 97 14 16<|
 Zm 12 17<|
 Ye 18 12<|
 Zm 7 18<|
 Zm 8 19 .nil)<| .seq (Zr (YT 20 8)<| .cond (.t 21) (Zr (dh 22 8 6) .ret) .skip)<| .seq (Zr (YP 23 0 3<|
 Yi 26 0)<| .block 0<| .loop<|Zr (Ys 27 26 25)<| .seq (.cond (.t 27) .skip (.exit 0))<| .seq (.block 1<|Zr (Ym 28 24 26<|
 Yc 10 29)<|Zr (Yo 30 10<|
 ir 32 31 0)<| .cond (.t 32) (Zr (Yi 6 3) .ret) .skip)<| .rg (YC 33 26 26))<| .seq (Zr (Yb 34 2 3<|
 Zk 36 .lss 35 1<|
 Yr 37 36 2 3<|
 ug 37 64<|
 dm 41 37 40)<| .cond (.t 41) (Zr (Yi 6 2) .ret) .skip)<| .seq (Zr (YP 42 3 3<|
 Yo 45 1<|
 je 47 44 46)<| .cond (.t 47) (Zr (Yi 6 16) .ret) .skip)<| .seq (Zr (Yh 49 7 2<|
 Yb 51 2 3<|
 Zq 53 false 98 [.t 49,.t 50,.t 52]<|
 Zm 48 53<|
 Ye 54 48<|
 Zm 7 54<|
 Yc 8 55)<|Zr (YT 56 8)<| .cond (.t 57) (Zr (dh 58 8 6) .ret) .skip)<|Zr (dN 60 3 3 1<|
 ma 63 99 61 62 59 11 8)<| .seq (Zr (YT 66 8)<| .cond (.t 67) (Zr (dh 68 8 6) .ret) .skip)<| .seq (Zr (YX 69 7 11 28<|
 Zu 72 71 .nil)<| .cond (.t 72) (Zr (Yi 6 17) .ret) .skip)<|Zr (Yi 6 0) .ret⟩
theorem ah6:Qe Tryz.prog Tryz.f52=some c52:=by kernel_rfl
def akc:ay:=⟨3,[.t 0],Zr (YH 0)<|Zr (Zq 1 false 14 [.c (Zz 1)]<|
 Yn 2 20 1<|
 Zm 0 2 .nil) .ret⟩
theorem aeA:Qe Tryz.prog Tryz.f100=some akc:=by kernel_rfl
def c54:ay:=⟨34,[.t 4,.t 5],Zr (dU 4 0)<| .seq (Zr (iO 8<|
 je 12 9 11)<| .cond (.t 12) (Zr (dU 4 16) .ret) .skip)<|Zr (YH 6)<| .seq (Zr (Yi 7 0)<| .block 0<| .loop<| .seq (Zr (YI 13 7 1)<| .cond (.t 16) .skip (.exit 0))<| .seq (.block 1<|Zr (cW 19 6 0 7<|
 Ym 22 20 21<|
 eY 24 1 7<|
 Yl 28 19 23 27<|
 Yl 29 46 19 28<|
 Yc 6 29)<|Zr (Yo 30 6<|
 fu 32 31 4000)<| .cond (.t 32) (Zr (dU 4 4) .ret) .skip)<| .rg (Zm 17 7<|
 YC 18 17 7))<|Zr (Zm 33 6<|
 Zm 4 33<|
 Yi 5 0) .ret⟩
theorem ah7:Qe Tryz.prog Tryz.f54=some c54:=by kernel_rfl
def c53:ay:=⟨58,[.t 4,.t 5],Zr (dU 4 0)<| .seq (Zr (iO 10<|
 je 14 11 13)<| .cond (.t 14) (Zr (dU 4 16) .ret) .skip)<| .seq (Zr (Yi 6 0)<| .block 0<| .loop<| .seq (Zr (YI 15 6 1)<| .cond (.t 18) .skip (.exit 0))<| .seq (.block 1<|Zr (eY 21 1 6<|
 Zk 25 .lss 24 0<|
 nh 26 25 1 6<|
 Zg 26 false (.idx 29 1 (.t 27) (.t 28))<|
 Zg 26 false (.ld 30 1 false (.t 29))<|
 Zg 26 false (.bin 31 .gtr false (.t 30) (.c (Zz 64)))<|
 dm 32 26 31)<| .cond (.t 32) (Zr (dU 4 2) .ret) .skip)<| .rg (YV 19 6))<|Zr (Zq 33 false 100 []<|
 Yc 7 33)<| .seq (Zr (Yi 8 0)<| .block 2<| .loop<| .seq (Zr (YI 34 8 0)<| .cond (.t 37) .skip (.exit 2))<| .seq (.block 3<|Zr (Yi 9 0)<| .block 4<| .loop<| .seq (Zr (cW 40 9 1 8<|
 Ym 43 41 42<|
 Ys 45 40 44)<| .cond (.t 45) .skip (.exit 4))<| .seq (.block 5<|Zr (cW 48 7 0 8<|
 Ym 51 49 50<|
 Yl 53 19 48 52<|
 Yc 7 53)<|Zr (Yo 54 7<|
 fu 56 55 4000)<| .cond (.t 56) (Zr (dU 4 4) .ret) .skip)<| .rg (YV 46 9))<| .rg (YV 38 8))<|Zr (Zm 57 7<|
 Zm 4 57<|
 Yi 5 0) .ret⟩
theorem ah8:Qe Tryz.prog Tryz.f53=some c53:=by kernel_rfl
def c25:ay:=⟨78,[.t 6],Zr (YZ 3 62 0<|
 Yi 6 0)<|Zr (cA 14 0 3 1 3<|
 Yl 18 53 15 17<|
 Zm 13 18<|
 Ye 19 13<|
 Zm 7 19<|
 Zm 8 20 .nil)<| .seq (Zr (YT 21 8)<| .cond (.t 22) (Zr (dh 23 8 6) .ret) .skip)<| .seq (Zr (Yi 9 0)<| .block 0<| .loop<| .seq (Zr (l9 24 9 0 3)<| .cond (.t 28) .skip (.exit 0))<| .seq (.block 1<|Zr (jc 31 0 3 9<|
 Zn 36 35<|
 ir 37 36 0)<| .cond (.t 37) (Zr (Yi 6 3) .ret) .skip)<| .rg (YV 29 9))<| .seq (Zr (Yb 38 2 3<|
 Zk 40 .lss 39 1<|
 Yr 41 40 2 3<|
 ug 41 64<|
 dm 45 41 44)<| .cond (.t 45) (Zr (Yi 6 2) .ret) .skip)<| .seq (Zr (YP 46 3 3<|
 Yo 49 1<|
 je 51 48 50)<| .cond (.t 51) (Zr (Yi 6 16) .ret) .skip)<| .seq (Zr (Yi 10 0)<| .block 2<| .loop<| .seq (Zr (Zm 52 10<|
 Yb 53 2 3<|
 Ys 55 52 54)<| .cond (.t 55) .skip (.exit 2))<| .seq (.block 3<|Zr (YX 58 7 2 19<|
 Yc 7 60)<|Zr (Yo 61 7<|
 fu 63 62 4000)<| .cond (.t 63) (Zr (Yi 6 4) .ret) .skip)<| .rg (YV 56 10))<|Zr (dN 65 3 3 1<|
 ma 68 54 66 67 64 11 12)<| .seq (Zr (YT 71 12)<| .cond (.t 72) (Zr (dh 73 12 6) .ret) .skip)<| .seq (Zr (YX 74 7 11 31<|
 Zu 77 76 .nil)<| .cond (.t 77) (Zr (Yi 6 17) .ret) .skip)<|Zr (Yi 6 0) .ret⟩
theorem ah9:Qe Tryz.prog Tryz.f25=some c25:=by kernel_rfl
def c24:ay:=⟨68,[.t 2],Zr (Zo (.box 1 4 62 (.t 0))<|
 Yd 2)<| .seq (Zr (YP 7 1 1<|
 YP 10 0 1<|
 Zb 13 .neq 9 12<|
 Yr 14 13 2 1<|
 Zg 14 false (.bin 17 .lss false (.t 16) (.c (Zz 1)))<|
 Yf 18 14 17<|
 Yr 19 18 2 1<|
 ug 19 64<|
 dm 23 19 22)<| .cond (.t 23) (Zr (Yd 2) .ret) .skip)<| .seq (Zr (YP 24 0 1<|
 Yi 27 0)<| .block 0<| .loop<|Zr (Ys 28 27 26)<| .seq (.cond (.t 28) .skip (.exit 0))<| .seq (.block 1<|Zr (n8 29 27 25 3 4)<|Zr (jc 32 1 1 3<|
 Zk 37 .lss 36 0<|
 Yr 38 37 1 1<|
 Zg 38 false (.mv 41 (.t 3))<|
 Zg 38 false (.idx 42 1 (.t 40) (.t 41))<|
 Zg 38 false (.ld 43 1 false (.t 42))<|
 Zg 38 false (.bin 44 .gtr false (.t 43) (.c (Zz 64)))<|
 Yf 45 38 44<|
 xV 46 45 4<|
 Yf 50 46 49<|
 Yv 51 50 4<|
 vI 51 26 .nil)<| .cond (.t 55) (Zr (Yd 2) .ret) .skip)<| .rg (Yz 56 27 27))<| .seq (Zr (YP 57 3 1<|
 Yi 60 0)<| .block 2<| .loop<|Zr (Ys 61 60 59)<| .seq (.cond (.t 61) .skip (.exit 2))<| .seq (.block 3<|Zr (Ym 62 58 60<|
 Yc 6 63)<|Zr (YK 64 6 26<|
 Zu 66 65 .nil)<| .cond (.t 66) (Zr (Yd 2) .ret) .skip)<| .rg (YC 67 60 60))<|Zr (YG 2) .ret⟩
theorem aia:Qe Tryz.prog Tryz.f24=some c24:=by kernel_rfl
def c22:ay:=⟨58,[.t 2],Zr (YH 2)<|Zr (YH 3)<| .seq (Zr (eZ 11 0)<| .block 0<| .loop<|Zr (Ys 14 13 12)<| .seq (.cond (.t 14) .skip (.exit 0))<| .seq (.block 1<|Zr (YN 15 4 11 13<|
 Zo (.alloc 5 4 62 (.agg [.aa,.aa,Zz 0,.aa]))<|
 Zs 4 5 16 .nil)<|Zr (YP 17 0 5<|
 Yi 20 0)<| .block 2<| .loop<|Zr (Ys 21 20 19)<| .seq (.cond (.t 21) .skip (.exit 2))<| .seq (.block 3<|Zr (n8 22 20 18 6 7)<| .seq (Zr (jc 25 1 5 6<|
 Zk 30 .lss 29 1<|
 Yv 31 30 7<|
 Zg 31 false (.call (some 33) false (.c (.fn 50 [] [])) [.t 32])<|
 Zg 31 false (.bin 34 .lss false (.t 33) (.c (Zz 1)))<|
 dm 35 31 34)<| .cond (.t 35) (.exit 3) .skip)<|Zr (Yd 8)<| .seq (Zr (eZ 36 3)<| .block 4<| .loop<|Zr (Ys 39 38 37)<| .seq (.cond (.t 39) .skip (.exit 4))<| .seq (.block 5<|Zr (Ym 40 36 38<|
 Yc 10 41)<| .rg (Zm 42 8<|
 nh 43 42 7 10<|
 Zg 43 false (.call (some 46) false (.c (.fn 28 [] [])) [.t 44,.t 45])<|
 Yf 47 43 46<|
 Yc 8 47))<| .rg (YC 48 38 38))<|Zr (Zm 49 8<|
 Zu 50 49 .nil)<| .cond (.t 50) (.rg (Yh 51 3 7<|
 YB 53 1 43 52 24 51<|
 Yc 3 54)) .skip)<| .rg (Yz 55 20 20))<| .rg (Yz 56 13 13))<|Zr (dh 57 3 2) .ret⟩
theorem aib:Qe Tryz.prog Tryz.f22=some c22:=by kernel_rfl
def c21:ay:=⟨35,[.t 4,.t 5],Zr (Zo (.mv 4 (.c (.bool false)))<|
 Yi 5 0)<|Zr (YG 6)<| .seq (Zr (Zm 11 0<|
 Zq 12 false 22 [.t 11]<|
 Zn 13 12<|
 Yi 14 0)<| .block 0<| .loop<|Zr (Ys 15 14 13)<| .seq (.cond (.t 15) .skip (.exit 0))<| .seq (.block 1<|Zr (Ym 16 12 14<|
 Zm 8 17 .nil)<|Zr (YX 19 8 1 48<|
 Zm 18 21<|
 Ye 22 18<|
 Yy 9<|
 Zs 3 9 22<|
 Yc 10 23)<| .seq (Zr (YT 24 10)<| .cond (.t 25) (Zr (Zm 26 10<|
 Zo (.mv 4 (.c (.bool false)))<|
 Yc 5 26) .ret) .skip)<| .rg (Zm 27 6<|
 Zm 28 27<|
 Zg 28 true (.ld 29 3 true (.t 9))<|
 vK 28 49<|
 Zg 28 true (.bin 31 .neq false (.t 30) (.c (Zz 0)))<|
 Yk 32 28 31<|
 Yc 6 32))<| .rg (Yz 33 14 14))<|Zr (Zm 34 6<|
 Zm 4 34<|
 Yi 5 0) .ret⟩
theorem aic:Qe Tryz.prog Tryz.f21=some c21:=by kernel_rfl
def IB:ay:=⟨43,[.t 4,.t 5],Zr (Zo (.box 2 7 34 (.t 0))<|
 Zc 4 0<|
 Yd 5)<| .seq (Zr (Yo 10 1<|
 ir 12 11 0)<| .cond (.t 12) (Zr (Zc 4 0<|
 Yd 5) .ret) .skip)<| .seq (Zr (YP 13 5 2<|
 Yi 16 0)<| .block 0<| .loop<|Zr (Ys 17 16 15)<| .seq (.cond (.t 17) .skip (.exit 0))<| .seq (.block 1<|Zr (n8 18 16 14 6 7)<| .seq (Zr (Yo 21 7<|
 ir 23 22 0)<| .cond (.t 23) (.exit 1) .skip)<|Zr (Zm 25 7<|
 Zo (.idx 26 4 (.t 25) (.c (Zz 0)))<|
 eF 27 26 3<|
 Zm 29 1<|
 Zo (.idx 30 4 (.t 29) (.c (Zz 0)))<|
 eF 31 30 3<|
 .br (Yp 33 27 28 32<|
 Zm 24 33<|
 Ye 34 24<|
 Yy 8<|
 Zs 3 8 34<|
 Yc 9 35) (Yy 8<|
 Yp 33 27 28 32<|
 Zm 24 33<|
 Ye 34 24<|
 Zs 3 8 34<|
 Yc 9 35))<|Zr (Yh 36 7 1<|
 Zh 38 3 8<|
 Yl 39 29 37 38<|
 Yl 40 28 36 39 .nil)<| .cond (.t 40) (Zr (Zm 41 6<|
 Zm 4 41<|
 YG 5) .ret) .skip)<| .rg (Yz 42 16 16))<|Zr (Zc 4 0<|
 Yd 5) .ret⟩
theorem aid:Qe Tryz.prog Tryz.f11=some IB:=by kernel_rfl
def c8:ay:=⟨62,[.t 6],Zr (Zo (.box 3 7 34 (.t 0))<|
 Yi 6 0)<| .seq (Zr (jd 10 1<|
 xX 12 11 1 6 3 .nil)<| .cond (.t 18) (Zr (Yi 6 2) .ret) .skip)<| .seq (Zr (Yo 19 2<|
 jc 21 6 3 1<|
 Zn 26 25<|
 je 27 20 26)<| .cond (.t 27) (Zr (Yi 6 16) .ret) .skip)<| .seq (Zr (eZ 28 2)<| .block 0<| .loop<|Zr (Ys 31 30 29)<| .seq (.cond (.t 31) .skip (.exit 0))<| .seq (.block 1<|Zr (Zm 32 30<|
 YN 33 4 28 30<|
 Zo (.alloc 8 4 62 (.agg [.aa,.aa,Zz 0,.aa]))<|
 Zm 7 32<|
 Zs 4 8 34 .nil)<|Zr (Zh 35 7 3<|
 jc 36 6 3 1<|
 Zm 41 7<|
 Ym 42 40 41<|
 Zh 44 4 8<|
 .br (Zq 45 true 23 [.t 35,.t 43,.t 44]<|
 Zo (.alloc 9 4 72 (.agg [Zz 0,Zz 0,Zz 0,Zz 0]))<|
 Zs 4 9 45 .nil) (Zo (.alloc 9 4 72 (.agg [Zz 0,Zz 0,Zz 0,Zz 0]))<|
 Zq 45 true 23 [.t 35,.t 43,.t 44]<|
 Zs 4 9 45 .nil))<| .seq (Zr (n9 46 2 9 0<|
 Zh 47 2 46<|
 n9 48 2 9 1<|
 Zh 49 2 48<|
 Zo (.eqs 50 false (.t 47) (.t 49)) .nil)<| .cond (.t 50) (.exit 1) .skip)<| .seq (Zr (n9 51 2 9 1<|
 Yb 52 0 51<|
 Zk 54 .neq 53 0 .nil)<| .cond (.t 54) (Zr (n9 55 2 9 1<|
 Yb 56 0 55<|
 Yc 6 57) .ret) .skip)<|Zr (n9 58 2 9 1<|
 Yb 59 1 58<|
 Yc 6 60) .ret)<| .rg (Yz 61 30 30))<|Zr (Yi 6 0) .ret⟩
theorem BY:Qe Tryz.prog Tryz.f8=some c8:=by kernel_rfl
def c23:ay:=⟨22,[.cell 6 4 true],Zr (Zo (.box 3 7 34 (.t 0))<|
 Zo (.box 5 4 62 (.t 2))<|
 Zo (.alloc 6 4 72 (.agg [Zz 0,Zz 0,Zz 0,Zz 0])) .nil)<|Zr (Zo (.alloc 7 4 72 (.agg [Zz 0,Zz 0,Zz 0,Zz 0])) .nil)<| .seq (Zr (gf 8 4 5 51<|
 Zu 10 9 .nil)<| .cond (.t 10) (Zr (n9 11 2 7 1<|
 Zf 12 0 11<|
 Zo (.st 1 (.t 12) (.c (Zz 1))) .nil)<|Zr (Zh 13 4 7<|
 Zs 4 6 13 .nil) .ret) .skip)<|Zr (Zh 14 4 5<|
 dN 15 4 3 1<|
 Zq 18 false 52 [.t 14,.t 16,.t 17]<|
 n9 19 2 7 1<|
 Zf 20 1 19<|
 Zs 1 20 18 .nil)<|Zr (Zh 21 4 7<|
 Zs 4 6 21 .nil) .ret⟩
theorem M6:Qe Tryz.prog Tryz.f23=some c23:=by kernel_rfl
def c51:ay:=⟨68,[.t 2],Zr (Zo (.box 1 4 62 (.t 0))<|
 Yd 2)<| .seq (Zr (YP 7 1 1<|
 YP 10 0 1<|
 Zb 13 .neq 9 12<|
 Yr 14 13 2 1<|
 Zg 14 false (.bin 17 .lss false (.t 16) (.c (Zz 1)))<|
 Yf 18 14 17<|
 Yr 19 18 2 1<|
 ug 19 64<|
 dm 23 19 22)<| .cond (.t 23) (Zr (Yd 2) .ret) .skip)<| .seq (Zr (YP 24 0 1<|
 Yi 27 0)<| .block 0<| .loop<|Zr (Ys 28 27 26)<| .seq (.cond (.t 28) .skip (.exit 0))<| .seq (.block 1<|Zr (n8 29 27 25 3 4)<|Zr (jc 32 1 1 3<|
 Zk 37 .lss 36 0<|
 Yr 38 37 1 1<|
 Zg 38 false (.mv 41 (.t 3))<|
 Zg 38 false (.idx 42 1 (.t 40) (.t 41))<|
 Zg 38 false (.ld 43 1 false (.t 42))<|
 Zg 38 false (.bin 44 .gtr false (.t 43) (.c (Zz 64)))<|
 Yf 45 38 44<|
 xV 46 45 4<|
 Yf 50 46 49<|
 Yv 51 50 4<|
 vI 51 96 .nil)<| .cond (.t 55) (Zr (Yd 2) .ret) .skip)<| .rg (Yz 56 27 27))<| .seq (Zr (YP 57 3 1<|
 Yi 60 0)<| .block 2<| .loop<|Zr (Ys 61 60 59)<| .seq (.cond (.t 61) .skip (.exit 2))<| .seq (.block 3<|Zr (Ym 62 58 60<|
 Yc 6 63)<|Zr (YK 64 6 96<|
 Zu 66 65 .nil)<| .cond (.t 66) (Zr (Yd 2) .ret) .skip)<| .rg (YC 67 60 60))<|Zr (YG 2) .ret⟩
theorem aie:Qe Tryz.prog Tryz.f51=some c51:=by kernel_rfl
def als:ay:=⟨6,[.t 2],Zr (YH 2)<|Zr (YX 3 0 0 46<|
 Zm 2 5 .nil) .ret⟩
theorem aeB:Qe Tryz.prog Tryz.f186=some als:=by kernel_rfl
def c85:ay:=⟨18,[.t 4,.t 5],Zr (fJ 2 30 0<|
 Yj 4<|
 YH 5)<|Zr (fL 7 2 2 1<|
 Yl 9 138 7 8<|
 Zq 10 false 18 [.t 9]<|
 Zm 6 10 .nil)<|Zr (Zq 11 false 14 [.c (Zz 1)]<|
 Zq 12 false 20 [.t 11]<|
 Yh 13 6 6<|
 Zq 15 false 19 [.t 13,.t 14]<|
 Yl 16 46 12 15<|
 Zm 17 6<|
 Zm 4 16<|
 Zm 5 17 .nil) .ret⟩
theorem aif:Qe Tryz.prog Tryz.f85=some c85:=by kernel_rfl
def akI:ay:=⟨22,[.t 4],Zr (fJ 2 30 0<|
 Yi 4 0)<| .seq (Zr (Yi 5 0)<| .block 0<| .loop<| .seq (Zr (l9 6 5 1 2)<| .cond (.t 10) .skip (.exit 0))<| .seq (.block 1<|Zr (dN 13 1 2 5<|
 Zi 16 3 14 15<|
 dN 17 1 16 1<|
 Zb 20 .eql 18 19 .nil)<| .cond (.t 20) (Zr (dh 21 5 4) .ret) .skip)<| .rg (Zm 11 5<|
 YC 12 11 5))<|Zr (Yi 4 0) .ret⟩
theorem aeC:Qe Tryz.prog Tryz.f138=some akI:=by kernel_rfl
def ak9:ay:=⟨55,[.t 10],Zr (YM 5 30 0<|
 YM 7 135 2<|
 YM 8 135 3<|
 YM 9 135 4<|
 YH 10)<|Zr (fL 15 2 5 1<|
 Yl 17 85 15 16<|
 Zm 14 17<|
 Ye 18 14<|
 Zm 11 18<|
 Zm 12 19 .nil)<|Zr (cA 20 0 7 0 8<|
 Zm 25 12<|
 cA 26 1 7 1 8<|
 Yp 24 137 21 23<|
 eG 30 137 27 29 19 25<|
 Yp 32 46 24 31<|
 eu 33 186 32<|
 Yc 13 33)<|Zr (Zm 34 11<|
 cA 35 0 9 0 8<|
 Zm 41 13<|
 Zm 43 11<|
 cA 44 1 9 1 8<|
 Yh 50 12 13<|
 eG 39 137 36 38 19 34<|
 Yp 42 137 40 41<|
 eG 48 137 45 47 19 43<|
 eG 52 19 50 51 137 49<|
 ry 54 42 53 10) .ret⟩
theorem aeD:Qe Tryz.prog Tryz.f167=some ak9:=by kernel_rfl
def ala:ay:=⟨51,[.t 8],Zr (YM 4 135 0<|
 YM 5 135 1<|
 YM 6 135 2<|
 YM 7 135 3<|
 YH 8)<|Zr (YO 11 4 5<|
 YO 14 4 6<|
 YO 16 4 5<|
 Yp 13 83 11 12<|
 Zq 18 true 136 [.t 14,.t 15,.t 16,.t 17]<|
 eu 19 186 18<|
 Zm 9 13<|
 Zm 10 19 .nil)<|Zr (Zm 20 9<|
 cA 21 0 7 0 4<|
 Zm 27 10<|
 cA 28 0 5 0 4<|
 Zm 35 9<|
 cA 36 1 7 1 4<|
 Zm 42 10<|
 cA 43 1 5 1 4<|
 eG 25 137 22 24 19 20<|
 eG 32 137 29 31 19 27<|
 Yp 34 137 26 33<|
 eG 40 137 37 39 19 35<|
 eG 47 137 44 46 19 42<|
 Yp 49 137 41 48<|
 ry 50 34 49 8) .ret⟩
theorem aeE:Qe Tryz.prog Tryz.f168=some ala:=by kernel_rfl
def akC:ay:=⟨149,[.t 16],Zr (YM 8 25 0<|
 YM 9 30 1<|
 YM 11 135 3<|
 YM 12 135 4<|
 YM 13 135 5<|
 YM 14 135 6<|
 YM 15 135 7<|
 YH 16)<| .seq (Zr (dN 17 0 8 2<|
 Zi 20 6 18 19<|
 Yb 21 0 20 .nil)<| .block 0<|Zr (Yu 24 22 6 23)<| .cond (.t 23) (Zr (fL 25 2 9 2<|
 YO 27 11 12<|
 Zh 29 2 15<|
 Zq 30 false 167 [.t 25,.t 26,.t 27,.t 28,.t 29]<|
 Yc 16 30) .ret) (Zr (Yu 32 22 7 31)<| .cond (.t 31) (Zr (YO 33 12 13<|
 YO 35 12 15<|
 YO 38 12 13<|
 YO 40 11 15<|
 Zq 37 true 84 [.t 33,.t 34,.t 35,.t 36]<|
 Zq 42 true 136 [.t 38,.t 39,.t 40,.t 41]<|
 Zo (.bs 43 1 43 [.t 37,.t 42])<|
 Yc 16 43) .ret) (Zr (Yu 45 22 8 44)<| .cond (.t 44) (Zr (YO 46 12 13<|
 YO 48 11 15<|
 YO 51 12 13<|
 YO 53 12 11<|
 YO 56 12 13<|
 YO 58 12 15<|
 Zq 50 true 136 [.t 46,.t 47,.t 48,.t 49]<|
 Zq 55 true 84 [.t 51,.t 52,.t 53,.t 54]<|
 Zq 60 true 84 [.t 56,.t 57,.t 58,.t 59]<|
 Yp 61 46 55 60<|
 ry 62 50 61 16) .ret) (Zr (Yu 64 22 9 63)<| .cond (.t 63) (Zr (YO 65 11 12<|
 YO 67 11 15<|
 YO 70 13 14<|
 YO 72 13 15<|
 Zq 69 true 84 [.t 65,.t 66,.t 67,.t 68]<|
 Zq 74 true 84 [.t 70,.t 71,.t 72,.t 73]<|
 ry 75 69 74 16) .ret) (Zr (Yu 77 22 10 76)<| .cond (.t 76) (Zr (YO 78 11 12<|
 YO 80 13 15<|
 Zq 82 false 168 [.t 78,.t 79,.t 80,.t 81]<|
 Yc 16 82) .ret) (Zr (Yu 84 22 11 83)<| .cond (.t 83) (Zr (YO 85 11 15<|
 YO 88 12 15<|
 YO 92 11 15<|
 YO 95 13 15<|
 Yp 87 83 85 86<|
 eG 90 83 88 89 137 87<|
 Yp 94 83 92 93<|
 eG 97 83 95 96 137 94<|
 ry 99 91 98 16) .ret) (Zr (Yu 101 22 12 100)<| .cond (.t 100) (Zr (YO 102 11 12<|
 YO 104 11 15<|
 YO 107 13 15<|
 YO 110 13 14<|
 Zq 106 true 84 [.t 102,.t 103,.t 104,.t 105]<|
 Yp 109 83 107 108<|
 eG 112 83 110 111 137 109<|
 ry 114 106 113 16) .ret) (Zr (Yu 116 22 13 115)<| .cond (.t 115) (Zr (YO 117 11 15<|
 YO 120 11 12<|
 YO 124 13 15<|
 YO 127 13 14<|
 Yp 119 83 117 118<|
 eG 122 83 120 121 137 119<|
 Yp 126 83 124 125<|
 Yp 129 83 127 128<|
 Zq 130 true 137 [.t 126,.t 129]<|
 ry 131 123 130 16) .ret) (Zr (Yu 133 22 14 132)<| .cond (.t 132) (Zr (YO 134 11 15<|
 YO 137 11 12<|
 YO 141 12 15<|
 YO 144 11 12<|
 Yp 136 83 134 135<|
 eG 139 83 137 138 137 136<|
 Yp 143 83 141 142<|
 eG 146 83 144 145 137 143<|
 ry 148 140 147 16) .ret) .skip)))))))))<|Zr (YH 16) .ret⟩
theorem qQ:Qe Tryz.prog Tryz.f129=some akC:=by kernel_rfl
def c79:ay:=⟨73,[.t 6,.t 7],Zr (YM 3 25 0<|
 YM 4 30 1<|
 dU 6 0)<| .seq (Zr (jd 10 2<|
 xX 12 11 2 0 3<|
 xX 19 18 2 0 4 .nil)<| .cond (.t 25) (Zr (dU 6 2) .ret) .skip)<|Zr (Zo (.alloc 8 8 167 (.agg [.aa,.aa,.aa,.aa,.aa,.aa,.aa,.aa])) .nil)<| .seq (Zr (Yi 9 0)<| .block 0<| .loop<| .seq (Zr (Zm 26 9<|
 dN 27 0 3 2<|
 Zi 30 6 28 29<|
 YP 31 2 30<|
 Zb 34 .lss 26 33<|
 YL 35 34 9<|
 Zg 35 true (.bin 37 .lss false (.t 36) (.c (Zz 4)))<|
 Yk 38 35 37 .nil)<| .cond (.t 38) .skip (.exit 0))<| .seq (.block 1<| .rg (Zm 41 9<|
 Yb 42 0 4<|
 dN 44 0 3 2<|
 Zi 47 6 45 46<|
 jc 48 2 47 9<|
 YN 53 2 43 52<|
 Zo (.wB 55 4 2 (.t 8) (.t 41))<|
 Zs 2 55 54 .nil))<| .rg (YV 39 9))<|Zr (YO 56 3 4<|
 Zm 58 2<|
 n9 59 4 8 0<|
 Zh 60 2 59<|
 n9 61 4 8 1<|
 Zh 62 2 61<|
 n9 63 4 8 2<|
 Zh 64 2 63<|
 n9 65 4 8 3<|
 Zh 66 2 65<|
 dN 67 0 4 2<|
 YN 70 2 68 69<|
 Zq 72 false 129 [.t 56,.t 57,.t 58,.t 60,.t 62,.t 64,.t 66,.t 71]<|
 Zm 6 72<|
 Yi 7 0) .ret⟩
theorem aih:Qe Tryz.prog Tryz.f79=some c79:=by kernel_rfl
def c39:ay:=⟨49,[.t 2,.t 3],Zr (YZ 1 25 0<|
 dU 2 0)<|Zr (gf 12 2 1 40<|
 Zm 11 13<|
 Ye 14 11<|
 YU 4 30<|
 Zs 2 4 14<|
 Zm 5 15 .nil)<| .seq (Zr (YT 16 5)<| .cond (.t 17) (Zr (Zm 18 5<|
 Yj 2<|
 Yc 3 18) .ret) .skip)<|Zr (YH 6)<| .seq (Zr (Yi 7 0)<| .block 0<| .loop<| .seq (Zr (l9 19 7 0 1)<| .cond (.t 23) .skip (.exit 0))<| .seq (.block 1<|Zr (YO 27 1 4<|
 Zm 29 7<|
 Zq 30 false 79 [.t 27,.t 28,.t 29]<|
 Zm 26 30<|
 Ye 31 26<|
 Zm 8 31<|
 Yc 9 32)<| .seq (Zr (Yi 10 0)<| .block 2<| .loop<| .seq (Zr (YI 33 10 8)<| .cond (.t 36) .skip (.exit 2))<| .seq (.block 3<|Zr (eY 39 8 10<|
 Zn 43 42<|
 fu 44 43 4000)<| .cond (.t 44) (Zr (dU 2 4) .ret) .skip)<| .rg (YV 37 10))<| .rg (Yh 45 6 8<|
 Zo (.app 47 1 24 43 (.t 45) (.t 46))<|
 Yc 6 47))<| .rg (YV 24 7))<|Zr (Zm 48 6<|
 Zm 2 48<|
 Yi 3 0) .ret⟩
theorem aii:Qe Tryz.prog Tryz.f39=some c39:=by kernel_rfl
def akF:ay:=⟨45,[.t 4],Zr (YZ 2 100 0<|
 fJ 3 100 1<|
 Yd 4)<| .seq (Zr (cA 6 0 2 0 3<|
 Zb 10 .neq 7 9<|
 Yr 11 10 2 2<|
 Zg 11 false (.bY 14 2 (.t 3))<|
 Zg 11 false (.ld 15 1 false (.t 14))<|
 Zg 11 false (.bin 16 .neq false (.t 13) (.t 15))<|
 Yf 17 11 16<|
 Yr 18 17 1 2<|
 o7 18<|
 Zg 18 false (.bY 22 1 (.t 3))<|
 Zg 18 false (.ld 23 1 false (.t 22))<|
 Zg 18 false (.len 24 (.t 23))<|
 Zg 18 false (.bin 25 .neq false (.t 21) (.t 24))<|
 dm 26 18 25)<| .cond (.t 26) (Zr (Yd 4) .ret) .skip)<| .seq (Zr (Yi 5 0)<| .block 0<| .loop<| .seq (Zr (l9 27 5 1 2)<| .cond (.t 31) .skip (.exit 0))<| .seq (.block 1<|Zr (jc 34 1 2 5<|
 jc 39 1 3 5<|
 je 44 38 43)<| .cond (.t 44) (Zr (Yd 4) .ret) .skip)<| .rg (YV 32 5))<|Zr (YG 4) .ret⟩
theorem aff:Qe Tryz.prog Tryz.f135=some akF:=by kernel_rfl
def c82:ay:=⟨31,[.t 4],Zr (YZ 2 100 0<|
 YM 3 25 1<|
 Yd 4)<| .seq (Zr (Yb 7 2 2<|
 Zk 9 .lss 8 0<|
 Yr 10 9 2 2<|
 Zg 10 false (.bY 13 0 (.t 3))<|
 Zg 10 false (.ld 14 1 false (.t 13))<|
 Zg 10 false (.len 15 (.t 14))<|
 Zg 10 false (.bin 16 .geq false (.t 12) (.t 15))<|
 dm 17 10 16)<| .cond (.t 17) (Zr (Yd 4) .ret) .skip)<|Zr (Zh 19 2 3<|
 Yb 20 2 2<|
 Yl 22 81 19 21<|
 Zm 18 22<|
 Ye 23 18<|
 Zo (.alloc 5 3 100 (.agg [Zz 0,.aa,Zz 0]))<|
 Zs 3 5 23<|
 Yc 6 24)<|Zr (Zm 25 6<|
 Zm 26 25<|
 Zg 26 true (.ld 27 3 true (.t 2))<|
 Zg 26 true (.ld 28 3 true (.t 5))<|
 Zg 26 true (.call (some 29) false (.c (.fn 135 [] [])) [.t 27,.t 28])<|
 Yk 30 26 29<|
 Yc 4 30) .ret⟩
theorem aij:Qe Tryz.prog Tryz.f82=some c82:=by kernel_rfl
def c42:ay:=⟨106,[.t 6,.t 7],Zr (fJ 3 100 0<|
 YM 4 25 1<|
 YM 5 30 2<|
 dU 6 0)<| .seq (Zr (Zh 11 3 3<|
 Zh 12 2 4<|
 Yl 13 82 11 12<|
 Zu 14 13 .nil)<| .cond (.t 14) (Zr (dU 6 1) .ret) .skip)<|Zr (Yb 15 0 5<|
 Zm 8 16 .nil)<| .seq (Zr (Yb 17 0 3 .nil)<| .block 0<|Zr (Yu 20 18 1 19)<| .cond (.t 19) (Zr (o8 21 0<|
 o8 28 1<|
 Yl 35 83 27 34<|
 Zm 6 35<|
 Yi 7 0) .ret) (Zr (Yu 37 18 2 36)<| .cond (.t 36) (Zr (o8 38 0<|
 o8 45 1<|
 o8 52 0<|
 o8 59 2<|
 Zq 66 false 84 [.t 44,.t 51,.t 58,.t 65]<|
 Zm 6 66<|
 Yi 7 0) .ret) (Zr (Yu 68 18 3 67)<| .cond (.t 67) (Zr (o8 69 0<|
 o8 76 1<|
 o8 83 2<|
 o8 90 3<|
 Zq 97 false 84 [.t 75,.t 82,.t 89,.t 96]<|
 Zm 6 97<|
 Yi 7 0) .ret) .skip)))<|Zr (Zh 99 2 5<|
 Yb 100 2 3<|
 ma 102 85 99 101 98 9 10)<|Zr (Zm 105 9<|
 Zm 6 105<|
 Yi 7 0) .ret⟩
theorem DZ:Qe Tryz.prog Tryz.f42=some c42:=by kernel_rfl
def c37:ay:=⟨5,[.t 2],Zr (YZ 1 25 0<|
 Yd 2)<|Zr (gf 3 2 1 76<|
 Zm 2 4 .nil) .ret⟩
theorem ahK:Qe Tryz.prog Tryz.f37=some c37:=by kernel_rfl
def c15:ay:=⟨51,[.t 2],Zr (YZ 1 25 0<|
 Yd 2)<| .seq (Zr (gf 8 2 1 37<|
 Zu 10 9 .nil)<| .cond (.t 10) (Zr (Yd 2) .ret) .skip)<|Zr (Zh 12 2 1<|
 Zq 13 false 16 [.t 12]<|
 xY 11 3 4)<| .seq (Zr (YT 16 4)<| .cond (.t 17) (Zr (Yd 2) .ret) .skip)<|Zr (Yb 19 4 3<|
 Zf 22 5 3<|
 .br (Zo (.bs 18 1 43 [])<|
 .br (Zo (.app 21 1 24 43 (.t 18) (.t 20))<|
 Zl 23 1 22<|
 Zo (.app 24 1 24 43 (.t 21) (.t 23))<|
 Yc 5 24) (Zl 23 1 22<|
 Zo (.app 21 1 24 43 (.t 18) (.t 20))<|
 Zo (.app 24 1 24 43 (.t 21) (.t 23))<|
 Yc 5 24)) (Zl 23 1 22<|
 Zo (.bs 18 1 43 [])<|
 Zo (.app 21 1 24 43 (.t 18) (.t 20))<|
 Zo (.app 24 1 24 43 (.t 21) (.t 23))<|
 Yc 5 24))<| .seq (Zr (Yi 6 0)<| .block 0<| .loop<| .seq (Zr (l9 25 6 6 3)<| .cond (.t 29) .skip (.exit 0))<| .seq (.block 1<| .rg (Zm 32 5<|
 jc 33 6 3 6<|
 Zo (.app 38 1 24 43 (.t 32) (.t 37))<|
 Yc 5 38))<| .rg (YV 30 6))<| .seq (Zr (Yi 7 0)<| .block 2<| .loop<| .seq (Zr (YI 39 7 5)<| .cond (.t 42) .skip (.exit 2))<| .seq (.block 3<|Zr (eY 45 5 7<|
 Zn 49 48<|
 fu 50 49 60)<| .cond (.t 50) (Zr (Yd 2) .ret) .skip)<| .rg (YV 43 7))<|Zr (YG 2) .ret⟩
theorem ahL:Qe Tryz.prog Tryz.f15=some c15:=by kernel_rfl
def c5:ay:=⟨54,[.cell 2 7 true,.t 3],Zr (YZ 1 25 0<|
 Zo (.alloc 2 7 34 (.agg [.aa,.aa,.aa,.aa,.aa,.aa,.aa]))<|
 Yd 3)<| .seq (Zr (Zh 8 2 1<|
 Zq 9 false 15 [.t 8]<|
 Zu 10 9 .nil)<| .cond (.t 10) (Zr (vH 11<|
 Zs 7 2 11<|
 Yd 3) .ret) .skip)<|Zr (Zh 13 2 1<|
 Zq 14 false 16 [.t 13]<|
 xY 12 4 5)<| .seq (Zr (YP 17 6 4<|
 Yi 20 0)<| .block 0<| .loop<|Zr (Ys 21 20 19)<| .seq (.cond (.t 21) .skip (.exit 0))<| .seq (.block 1<|Zr (dh 22 20 6)<|Zr (jc 23 6 4 6<|
 Zn 28 27<|
 Yi 29 0)<| .block 2<| .loop<|Zr (Ys 30 29 28)<| .seq (.cond (.t 30) .skip (.exit 2))<| .seq (.block 3<|Zr (dh 31 29 7)<|Zr (jc 32 6 4 6<|
 Zm 37 7<|
 Ym 38 36 37<|
 Zn 40 39<|
 fu 41 40 12)<| .cond (.t 41) (Zr (Zh 42 7 4<|
 Zs 7 2 42<|
 Yd 3) .ret) .skip)<| .rg (Yz 43 29 29))<| .rg (Yz 44 20 20))<|Zr (fL 45 7 4 5<|
 Zk 47 .eql 46 0<|
 Zm 48 47<|
 Zg 48 true (.bY 49 4 (.t 4))<|
 .br (Zg 48 true (.ld 50 1 false (.t 49))<|
 nf 48<|
 Zg 48 true (.bin 52 .leq false (.t 51) (.c (Zz 4)))<|
 Yk 53 48 52<|
 Zs 7 2 45<|
 Yc 3 53) (Zs 7 2 45<|
 Zg 48 true (.ld 50 1 false (.t 49))<|
 nf 48<|
 Zg 48 true (.bin 52 .leq false (.t 51) (.c (Zz 4)))<|
 Yk 53 48 52<|
 Yc 3 53)) .ret⟩
theorem ajo:Qe Tryz.prog Tryz.f5=some c5:=by kernel_rfl
def c6:ay:=⟨81,[.t 2],Zr (Yd 2)<| .seq (Zr (Yo 6 0<|
 fu 8 7 3)<| .cond (.t 8) (Zr (Yd 2) .ret) .skip)<| .seq (Zr (eZ 9 0)<| .block 0<| .loop<|Zr (Ys 12 11 10)<| .seq (.cond (.t 12) .skip (.exit 0))<| .seq (.block 1<|Zr (Zm 13 11<|
 Zm 3 13 .nil)<| .seq (Zr (Yh 14 0 3<|
 YN 16 4 14 15<|
 Yn 18 17 17<|
 Zu 19 18<|
 vG 20 19 2<|
 Zg 20 false (.ld 25 1 false (.t 24))<|
 Zg 20 false (.bin 26 .gtr false (.t 25) (.c (Zz 3)))<|
 Zg 20 false (.mv 27 (.t 26))<|
 uf 27 0 3<|
 Zg 27 true (.idx 30 4 (.t 28) (.t 29))<|
 Zg 27 true (.bY 31 2 (.t 30))<|
 Zg 27 true (.ld 32 1 false (.t 31))<|
 Zg 27 true (.bin 33 .leq false (.t 32) (.c (Zz 64)))<|
 Zg 20 false (.pick 34 (.t 27) (.t 33) (.c (.bool false)))<|
 dm 35 20 34)<| .cond (.t 35) (Zr (Yd 2) .ret) .skip)<|Zr (kE 36 0 3<|
 YP 39 1 38<|
 Yi 42 0)<| .block 2<| .loop<|Zr (Ys 43 42 41)<| .seq (.cond (.t 43) .skip (.exit 2))<| .seq (.block 3<|Zr (n8 44 42 40 4 5)<|Zr (Zm 47 5<|
 Zk 48 .gtr 47 3<|
 YL 49 48 5<|
 Zg 49 true (.bin 51 .leq false (.t 50) (.c (Zz 64)))<|
 Yk 52 49 51<|
 rm 53 52 5 1<|
 Zg 53 false (.mv 56 (.t 55))<|
 uf 56 4 0<|
 Zg 56 true (.mv 59 (.t 3))<|
 Zg 56 true (.idx 60 4 (.t 58) (.t 59))<|
 Zg 56 true (.bY 61 0 (.t 60))<|
 ru 56<|
 Zg 56 true (.len 63 (.t 62))<|
 Zg 56 true (.bin 64 .lss false (.t 57) (.t 63))<|
 Zg 53 false (.pick 65 (.t 56) (.t 64) (.c (.bool false)))<|
 Zg 53 false (.mv 66 (.t 65))<|
 uf 66 0 3<|
 Zg 66 true (.idx 69 4 (.t 67) (.t 68))<|
 Zg 66 true (.bY 70 0 (.t 69))<|
 Zg 66 true (.ld 71 1 false (.t 70))<|
 Zg 66 true (.mv 72 (.t 4))<|
 Zg 66 true (.idx 73 1 (.t 71) (.t 72))<|
 Zg 66 true (.ld 74 1 false (.t 73))<|
 Zg 66 true (.len 75 (.t 74))<|
 Zg 66 true (.bin 76 .gtr false (.t 75) (.c (Zz 3)))<|
 Zg 53 false (.pick 77 (.t 66) (.t 76) (.c (.bool false)))<|
 dm 78 53 77)<| .cond (.t 78) (Zr (Yd 2) .ret) .skip)<| .rg (Yz 79 42 42))<| .rg (Yz 80 11 11))<|Zr (YG 2) .ret⟩
theorem ajp:Qe Tryz.prog Tryz.f6=some c6:=by kernel_rfl
def c9:ay:=⟨57,[.t 6],Zr (Zo (.box 3 7 34 (.t 0))<|
 Yi 6 0)<| .seq (Zr (jd 9 1<|
 xX 11 10 1 6 3 .nil)<| .cond (.t 17) (Zr (Yi 6 2) .ret) .skip)<| .seq (Zr (Yo 18 2<|
 jc 20 6 3 1<|
 Zn 25 24<|
 je 26 19 25)<| .cond (.t 26) (Zr (Yi 6 16) .ret) .skip)<| .seq (Zr (Yi 7 0)<| .block 0<| .loop<| .seq (Zr (YI 27 7 2)<| .cond (.t 30) .skip (.exit 0))<| .seq (.block 1<| .seq (Zr (Yh 33 2 7<|
 YN 35 4 33 34<|
 Yn 37 24 36<|
 Zu 38 37 .nil)<| .cond (.t 38) (Zr (Yi 6 1) .ret) .skip)<|Zr (Yh 39 2 7<|
 YN 41 4 39 40<|
 Yb 43 4 3<|
 jc 45 6 3 1<|
 Zm 50 7<|
 Ym 51 49 50<|
 Zq 53 false 25 [.t 42,.t 44,.t 52]<|
 Yc 8 53)<|Zr (YT 54 8)<| .cond (.t 55) (Zr (dh 56 8 6) .ret) .skip)<| .rg (YV 31 7))<|Zr (Yi 6 0) .ret⟩
theorem ajq:Qe Tryz.prog Tryz.f9=some c9:=by kernel_rfl
def Rh:ay:=⟨48,[.t 4,.t 5],Zr (Zo (.box 2 7 34 (.t 0))<|
 Zc 4 0<|
 Yd 5)<| .seq (Zr (Yo 11 1<|
 ir 13 12 0)<| .cond (.t 13) (Zr (Zc 4 0<|
 Yd 5) .ret) .skip)<|Zr (YK 15 1 30<|
 Zm 14 16<|
 Ye 17 14<|
 Yy 7<|
 Zm 6 17<|
 Zs 3 7 18 .nil)<| .seq (Zr (Yi 8 0)<| .block 0<| .loop<| .seq (Zr (l9 19 8 5 2)<| .cond (.t 23) .skip (.exit 0))<| .seq (.block 1<|Zr (jc 27 5 2 8<|
 Yn 32 30 31<|
 Zm 26 32<|
 Ye 33 26<|
 Yy 10<|
 Zm 9 33<|
 Zs 3 10 34 .nil)<|Zr (jc 35 5 2 8<|
 Zn 40 39<|
 Zk 41 .gtr 40 0<|
 YL 42 41 9<|
 Zg 42 true (.mv 44 (.t 6))<|
 Zg 42 true (.call (some 45) false (.c (.fn 31 [] [])) [.t 43,.t 44])<|
 Yk 46 42 45 .nil)<| .cond (.t 46) (Zr (Zm 47 8<|
 Zm 4 47<|
 YG 5) .ret) .skip)<| .rg (YV 24 8))<|Zr (Zc 4 0<|
 Yd 5) .ret⟩
def c3:ay:=⟨34,[.t 6],Zr (YM 3 25 0<|
 Yd 6)<|Zr (gf 10 2 3 5<|
 xY 9 7 8)<| .seq (Zr (Zm 14 8<|
 Zu 15 14<|
 Yv 16 15 2<|
 vI 16 6 .nil)<| .cond (.t 20) (Zr (Zq 21 false 7 []<|
 Yc 6 21) .ret) .skip)<|Zr (Zh 22 7 7<|
 Yh 23 1 2<|
 Zh 26 7 7<|
 Yh 27 1 2<|
 Zq 25 true 8 [.t 22,.t 23,.t 24]<|
 Zq 29 true 9 [.t 26,.t 27,.t 28]<|
 Zb 30 .eql 25 29<|
 Zm 31 30<|
 Zg 31 true (.call (some 32) true (.c (.fn 7 [] [])) [])<|
 Yk 33 31 32<|
 Yc 6 33) .ret⟩
theorem ajr:Qe Tryz.prog Tryz.f3=some c3:=by kernel_rfl
def c4:ay:=⟨101,[.t 8],Zr (YM 4 25 0<|
 Yd 8)<|Zr (gf 18 2 4 5<|
 xY 17 9 10)<| .seq (Zr (Zm 22 10<|
 Zu 23 22<|
 Yv 24 23 1<|
 vI 24 10<|
 Yv 29 28 3<|
 Zg 29 false (.bin 31 .lss false (.t 30) (.c (Zz (-9))))<|
 Yf 32 29 31<|
 rm 33 32 3 9<|
 dm 36 33 35)<| .cond (.t 36) (Zr (Zq 37 false 7 []<|
 Yc 8 37) .ret) .skip)<|Zr (fL 39 7 9 1<|
 ma 41 11 39 40 38 11 12)<|Zr (fL 45 7 9 1<|
 ma 47 12 45 46 44 13 14)<| .seq (Zr (Yh 50 11 13<|
 Zb 52 .neq 50 51<|
 nh 53 52 12 14<|
 Zg 53 false (.bin 56 .neq true (.t 54) (.t 55))<|
 dm 57 53 56)<| .cond (.t 57) (Zr (Yd 8) .ret) .skip)<| .seq (Zr (Zm 58 2<|
 Zk 59 .geq 58 0<|
 YL 60 59 2<|
 Zg 60 true (.bY 62 5 (.t 9))<|
 Zg 60 true (.ld 63 1 false (.t 62))<|
 Zg 60 true (.len 64 (.t 63))<|
 Zg 60 true (.bin 65 .lss false (.t 61) (.t 64))<|
 Yk 66 60 65<|
 YL 67 66 3<|
 Zg 67 true (.bin 69 .neq false (.t 68) (.c (Zz 0)))<|
 Yk 70 67 69<|
 Zm 71 70<|
 YJ 71 5 9<|
 Zg 71 true (.mv 74 (.t 2))<|
 Zg 71 true (.idx 75 1 (.t 73) (.t 74))<|
 Zg 71 true (.ld 76 1 false (.t 75))<|
 Zg 71 true (.len 77 (.t 76))<|
 Zg 71 true (.bin 78 .gtr false (.t 77) (.c (Zz 0)))<|
 Yk 79 71 78 .nil)<| .cond (.t 79) (Zr (Zh 81 7 9<|
 jc 82 5 9 2<|
 Zm 87 3<|
 eu 88 14 87<|
 eG 89 13 86 88 11 81<|
 Zm 80 90<|
 Ye 91 80<|
 Zm 15 91<|
 Yc 16 92)<|Zr (Zm 93 16<|
 Zu 94 93<|
 nh 95 94 15 2<|
 Zg 95 false (.bin 98 .gtr false (.t 96) (.t 97))<|
 dm 99 95 98)<| .cond (.t 99) (Zr (Yd 8) .ret) .skip) .skip)<|Zr (Zq 100 false 7 []<|
 Yc 8 100) .ret⟩
def qb:ay:=⟨91,[.cell 4 3 true,.t 5],Zr (fJ 2 25 0<|
 Zo (.alloc 4 3 100 (.agg [Zz 0,.aa,Zz 0]))<|
 Yd 5)<|Zr (dN 7 0 2 1<|
 Zi 10 6 8 9<|
 Yb 11 2 10<|
 Zm 6 12 .nil)<| .seq (Zr (dN 13 0 2 1<|
 Zi 16 6 14 15<|
 Yb 17 0 16 .nil)<| .block 0<|Zr (Yu 20 18 6 19)<| .cond (.t 19) (Zr (Zm 21 1<|
 Zo (.ej 22 [Zz 0,.aa,Zz 0] [(0,1,.c (Zz 4)),(2,1,.t 21)])<|
 Zs 3 4 22<|
 YG 5) .ret) (.seq (Zr (Yu 24 18 7 23)<| .cond (.t 23) .skip (.rg (Yu 25 18 8 23)))<| .cond (.t 23) (Zr (Zm 26 6<|
 Yw 27 26 1<|
 Zm 29 6<|
 Yw 30 29 2<|
 Zm 33 1<|
 Zo (.bs 32 1 3 [.t 28,.t 31])<|
 .wk<|vJ 34 1 32 33) .ret) (Zr (Yu 36 18 9 35)<| .cond (.t 35) (Zr (Zm 37 6<|
 Yw 38 37 0<|
 Zm 40 6<|
 Yw 41 40 1<|
 Zm 43 6<|
 Yw 44 43 2<|
 Zm 46 6<|
 Yw 47 46 3<|
 Zm 50 1<|
 Zo (.bs 49 1 3 [.t 39,.t 42,.t 45,.t 48])<|
 .wk<|vJ 51 3 49 50) .ret) (.seq (Zr (Yu 53 18 10 52)<| .cond (.t 52) .skip (Zr (Yu 54 18 12 52)<| .cond (.t 52) .skip (.rg (Yu 55 18 14 52))))<| .cond (.t 52) (Zr (Zm 56 6<|
 Yw 57 56 0<|
 Zm 59 6<|
 Yw 60 59 1<|
 Zm 63 1<|
 Zo (.bs 62 1 3 [.t 58,.t 61])<|
 .wk<|vJ 64 1 62 63) .ret) (Zr (Yu 66 18 11 65)<| .cond (.t 65) (Zr (Zm 67 6<|
 Yw 68 67 0<|
 Zm 70 6<|
 Yw 71 70 1<|
 Zm 73 6<|
 Yw 74 73 2<|
 Zm 77 1<|
 Zo (.bs 76 1 3 [.t 69,.t 72,.t 75])<|
 .wk<|vJ 78 2 76 77) .ret) (Zr (Yu 80 18 13 79)<| .cond (.t 79) (Zr (Zm 81 6<|
 Yw 82 81 0<|
 Zm 84 6<|
 Yw 85 84 2<|
 Zm 88 1<|
 Zo (.bs 87 1 3 [.t 83,.t 86])<|
 .wk<|vJ 89 1 87 88) .ret) .skip))))))<|Zr (Zo (.ej 90 [Zz 0,.aa,Zz 0] [])<|
 Zs 3 4 90<|
 Yd 5) .ret⟩
theorem qS:Qe Tryz.prog Tryz.f81=some qb.strip:=by kernel_rfl
def Rs:ay:=⟨37,[.t 2,.t 3],Zr (YZ 1 25 0<|
 dU 2 0)<| .seq (Zr (gf 11 2 1 40<|
 Zm 10 12<|
 Ye 13 10<|
 YU 4 30<|
 Zs 2 4 13<|
 Zm 5 14 .nil)<|Zr (YT 15 5)<| .cond (.t 16) (Zr (Zm 17 5<|
 Yj 2<|
 Yc 3 17) .ret) .skip)<|Zr (YH 6)<| .seq (Zr (Yi 7 0)<| .block 0<| .loop<| .seq (Zr (l9 18 7 0 1)<| .cond (.t 22) .skip (.exit 0))<| .seq (.block 1<|Zr (fL 26 2 1 7<|
 Yl 28 81 26 27<|
 Zm 25 28<|
 Ye 29 25<|
 Zo (.alloc 8 3 100 (.agg [Zz 0,.aa,Zz 0]))<|
 Zs 3 8 29<|
 Yc 9 30)<|Zr (Yc 31 9)<| .cond (.t 31) (.rg (Zm 32 6<|
 Zh 33 3 8<|
 Zo (.bs 34 3 100 [.t 33])<|
 .wk<|Zo (.app 35 3 40 100 (.t 32) (.t 34))<|
 Yc 6 35)) .skip)<| .rg (YV 23 7))<|Zr (Zm 36 6<|
 Zm 2 36<|
 Yi 3 0) .ret⟩
theorem ahM:Qe Tryz.prog Tryz.f41=some Rs.strip:=by kernel_rfl
def Rl:ay:=⟨101,[.cell 2 7 true,.t 3],Zr (YZ 1 25 0<|
 Zo (.alloc 2 7 34 (.agg [.aa,.aa,.aa,.aa,.aa,.aa,.aa]))<|
 Yi 3 0)<| .seq (Zr (gf 18 2 1 38<|
 Yc 4 19)<|Zr (YT 20 4)<| .cond (.t 21) (Zr (vH 22<|
 Zm 23 4<|
 Zs 7 2 22<|
 Yc 3 23) .ret) .skip)<|Zr (gf 25 2 1 39<|
 Zm 24 26<|
 Ye 27 24<|
 Zm 5 27<|
 Yc 6 28)<| .seq (Zr (YT 29 6)<| .cond (.t 30) (Zr (vH 31<|
 Zm 32 6<|
 Zs 7 2 31<|
 Yc 3 32) .ret) .skip)<|Zr (Zh 34 2 1<|
 Zq 35 false 40 [.t 34]<|
 Zm 33 35<|
 Ye 36 33<|
 YU 7 30<|
 Zs 2 7 36<|
 Yc 8 37)<|Zr (YO 38 1 7<|
 Zm 40 5<|
 Zo (.ej 41 [.aa,.aa,.aa,.aa,.aa,.aa,.aa] [(0,2,.t 38),(2,2,.t 39),(4,1,.t 40)])<|
 Zo (.alloc 9 7 34 (.agg [.aa,.aa,.aa,.aa,.aa,.aa,.aa]))<|
 Zs 7 9 41<|
 .wk<| .wk<| .wk<| .wk .nil)<|Zr (gf 43 2 1 41<|
 Zm 42 44<|
 Ye 45 42<|
 Zm 10 45<|
 Yc 11 46)<| .seq (Zr (Yi 12 0)<| .block 0<| .loop<| .seq (Zr (YI 47 12 10)<| .cond (.t 50) .skip (.exit 0))<| .seq (.block 1<|Zr (Yh 54 10 12<|
 YN 56 3 54 55<|
 YO 58 1 7<|
 Zq 60 false 42 [.t 57,.t 58,.t 59]<|
 Zm 53 60<|
 Ye 61 53<|
 Zm 13 61<|
 Yc 14 62)<| .seq (Zr (Yo 63 13<|
 fu 65 64 4000)<| .cond (.t 65) (Zr (vH 66<|
 Zs 7 2 66<|
 Yi 3 4) .ret) .skip)<| .rg (dN 67 5 9 13<|
 YB 70 1 43 69 24 68<|
 Zf 72 5 9<|
 Zs 1 72 71 .nil))<| .rg (YV 51 12))<| .seq (Zr (Yi 15 0)<| .block 2<| .loop<| .seq (Zr (l9 73 15 1 1)<| .cond (.t 77) .skip (.exit 2))<| .seq (.block 3<|Zr (dN 81 1 1 15<|
 YN 84 5 82 83<|
 Zh 86 2 7<|
 ma 87 43 85 86 80 16 17)<| .seq (Zr (YT 90 17)<| .cond (.t 91) (Zr (vH 92<|
 Zm 93 17<|
 Zs 7 2 92<|
 Yc 3 93) .ret) .skip)<| .rg (dN 94 6 9 16<|
 YB 97 1 31 96 24 95<|
 Zf 99 6 9<|
 Zs 1 99 98 .nil))<| .rg (YV 78 15))<|Zr (Zh 100 7 9<|
 .wk<|Zs 7 2 100<|
 Yi 3 0) .ret⟩
theorem ahN:Qe Tryz.prog Tryz.f16=some Rl.strip:=by kernel_rfl
abbrev Ub:=List Cd×List Vr×Nat
def bA(S:List Q4):Nat->Ub
 |0=>([],[],0)
 | i+1=>((bA S i).1++[jx (S.getD i cz).k (rv (S.getD i cz).n (S.getD i cz).a (S.getD i cz).d) (ct (bA S i).1 (S.getD i cz).args) (bA S i).2.1.length (bA S i).2.2],
   (bA S i).2.1++lU (S.getD i cz).k (i:Nat) (bA S i).2.2,if(S.getD i cz).k=1 then(bA S i).2.2+1 else(bA S i).2.2)
theorem ss(S:List Q4):∀i,(bA S i).1.length=i
 |0=>rfl
 |i+1=>by rw[bA,Kax,ss S i];rfl
theorem QK(k i:Int)(b:Nat):(lU k i b).length<=3:=by
 unfold lU qX
 repeat' split
 all_goals simp
theorem Af(S:List Q4):∀i,(bA S i).2.1.length<=3*i/\(bA S i).2.2<=i
 |0=>⟨Kae _,Kae _⟩
 |i+1=>by obtain⟨h1,h2⟩:=Af S i;have h3:=QK (S.getD i cz).k (i:Nat) (bA S i).2.2;rw[bA];refine⟨by simp only[Kax];omega,?_⟩;simp only;split<;>omega
abbrev WQ(w:Nat)(c:Cd):Prop:=CQ w (16*w-8) w c
theorem CT{q:List Tm}(hq:bf q)(m:Rat):Q8 (cD m) q=dS q m:=
 xq (tH (CO m).s hq.s) (oI hq.s m) fun φ=>by rw[Zt (CO m) hq,zK,wY φ hq.c];have:∀(n:List Int),bZ (fun k=>φ (dk n k)) (cD m)=m*φ (dk n []):=fun n=>WD _ m;rw[si (ψ:=fun n=>m*φ n) fun s hs=>by rw[this,Dq (hq.c s hs)],Dw]
theorem aca{p q:List Tm}(hp:bf p)(hq:bf q)(m:Rat):Qq p (Q8 (cD m) (bK q p))=Qq (dS p (1-m)) (dS q m):=by have h1:=abK hq hp;rw[CT h1];exact xq (vb hp (oI h1.s m)) (vb (oI hp.s _) (oI hq.s m)) fun φ=>by rw[zJ hp.c (oI h1.s m).c,wY φ h1.c,abJ φ hq.c hp,zJ (oI hp.s _).c (oI hq.s m).c,wY φ hp.c,wY φ hq.c];grind
theorem Mf{p q:List Tm}{u v:Nat}{m:Rat}(hu:1<=u)(hv:1<=v)(hp:PQ u (16*u-8) u p)(hq:PQ v (16*v-8) v q)(hm:rs m<=2):PQ (u+v) (16*(u+v)-8) (u+v) (Qq p (Q8 (cD m) (bK q p))):=by
 rw[aca hp.n hq.n];have h1:rs (1-m)+1<=5:=by have h:=vh 1 (-m);rw[af3,<-Rat.sub_eq_add_neg]at h;have:=pV;omega
 exact(((hp.mono (Kae _) (Kae _) (show u<=u+v by omega)).scale h1).add ((hq.mono (Kae _) (Kae _) (show v<=u+v by omega)).scale (show rs m+1<=3 by omega))).mono (Kae _) (by omega) (Kae _)
theorem Mg{p q t:List Tm}{u v:Nat}(hu:1<=u)(hv:1<=v)(hp:PQ u (16*u-8) u p)(hq:PQ v (16*v-8) v q)(hm:PQ 1 4 1 t):PQ (2*u+v) (16*(2*u+v)-8) (2*u+v) (Qq p (Q8 t (bK q p))):=by have hmul:=hm.mul ((hq.mono (Kae _) (Kae _) (show v<=u+v by omega)).sub (hp.mono (Kae _) (Kae _) (show u<=u+v by omega)));have Be:min 1 (v+u)*(4+(16*v-8+(16*u-8+2)))<=1*(4+(16*v-8+(16*u-8+2))):=Kam _ (by omega);exact((hp.mono (Kae _) (Kae _) (show u<=2*u+v by omega)).add (hmul.mono (Kae _) (Kae _) (show 1+(u+v)<=2*u+v by omega))).mono (by omega) (by omega) (Kae _)
theorem DN{p q r:List Tm}{u v x:Nat}(hu:1<=u)(hv:1<=v)(hx:1<=x)(hp:PQ u (16*u-8) u p)(hq:PQ v (16*v-8) v q)(hr:PQ x (16*x-8) x r){w:Nat}(hw:u+v+x=w):PQ w (16*w-8) w (mU p q r):=by subst hw;exact((hp.mono (Kae _) (Kae _) (show u<=u+v+x by omega)).add ((hq.mono (Kae _) (Kae _) (show v<=u+v+x by omega)).sub (hr.mono (Kae _) (Kae _) (show x<=u+v+x by omega)))).mono (by omega) (by omega) (Kae _)
end Go.Proofs.YtccppnepkfbpkaaGreat
namespace Go.FW
open Go
variable {C : Ctx} {fr : Fr} {hp : HP} {w : World} {K R : Qi}
theorem ahO(nm:Nat->Bool):Wk fr hp (iq nm fr) (fun β=>if nm β=true then none else hp β):=by
 rintro C tmps w ⟨ρ,hs⟩;obtain⟨hp',my⟩:∃f:HP,f=fun β=>if nm β=true then none else hp β:=⟨_,rfl⟩
 rw[<-my];have pn:∀γ,nm γ=true->hp' γ=none:=fun γ h=>by rw[my];simp[h]
 have po:∀γ,nm γ=false->hp' γ=hp γ:=fun γ h=>by rw[my];simp[h]
 have hX:∀c,aE C ρ hp' c->aE C ρ hp c:=by
  rintro c (hx|⟨γ,hb,g1,g2,g3⟩)
  ·exact .inl hx
  ·cases hq:nm γ with
   |true=>rw[pn γ hq]at g1;cases g1
   |false=>rw[po γ hq]at g1;exact .inr ⟨γ,hb,g1,g2,g3⟩
 have aH:lZ w w (aE C ρ hp) (aE C ρ hp'):=⟨fun _ _ _=>rfl,fun c _ hn h=>hn (hX c h),Kae _⟩
 have c1:∀γ,nm γ=false->oH ρ ρ hp hp' w w γ:=fun γ ah=>⟨rfl,fun hb hq=>⟨hb,by rw[po γ ah];exact hq,rfl,Kae _,fun _ _ _ h=>h,fun h=>⟨h,rfl,fun _ _=>rfl⟩⟩⟩
 refine⟨ρ,hs.sz,hs.ext,hs.eJ,fun γ aN ah=>?_,fun γ δ c g1 g2 g3 g4=>?_,fun i=>?_⟩
 ·cases hq:nm γ with
  |true=>rw[pn γ hq]at ah;cases ah
  | false=>
   rw[po γ hq]at ah;have h:=hs.own γ _ ah;refine⟨h.jU,h.len,?_,h.fix,h.ro⟩;have aV:=h.cB;cases hr:ρ γ with
   |none=>rw[hr]at aV;exact aV
   |some b=>rw[hr]at aV;obtain⟨b1,b2,cur,cap,k1,k2,k3,k4,k5⟩:=aV;exact⟨b1,b2,cur,cap,k1,k2,k3,k4,fun i x hx j y hy=>Qp.sub (k5 i x hx j y hy) hX⟩
 ·cases hq:nm γ with
  |true=>exact absurd (pn γ hq) g1
  |false=>
   cases pq:nm δ with
   |true=>exact absurd (pn δ pq) g2
   |false=>exact hs.inj γ δ c (by rw[<-po γ hq];exact g1) (by rw[<-po δ pq];exact g2) g3 g4
 ·show Qm C ρ hp' w (o6 nm (fr i)) _;unfold o6;split
  ·trivial
  ·rename_i hn;have rG:∀β∈(fr i).refs++(fr i).aR,nm β=false:=fun β aj=>by
    cases hq:nm β with
    |false=>rfl
    |true=>exact absurd (KaS.2 ⟨β,aj,hq⟩) hn
   exact Qm.pB (hs.cE i) aH (fun β aj=>(c1 β (rG β (Kb3 _ aj))).o) (fun β aj=>c1 β (rG β (Kbo _ aj)))
end Go.FW
