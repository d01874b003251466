/- Part 10 of the proof of CertcheckNames: K5, K6, K1, K3, K7, K8, K10, K11, K12, K13, K14, L11, CJ, CK, J0, K15, FwYE. Own lemmas; no conditions. -/
import Derived.Test.YtccppnepkfbpkaaGreatCertcheckNamesPart9
set_option maxHeartbeats 1000000
set_option linter.unusedSimpArgs false
set_option linter.unusedVariables false
set_option linter.unnecessarySimpa false
set_option maxRecDepth 100000
namespace Go.Proofs.YtccppnepkfbpkaaGreat
open Go Go.FW
theorem iS{p q:List Tm}{T K E:Nat}(hp:PQ T K E p)(hq:PQ T K E q)(hT:T<=2^30)(hK:K+2<=2^31)(hE:E<=2^38):Qd Tryz.prog 137 [PV.ao p,PV.ao q] (· =PV.ao (bQ p q)):=
 Vj (K:=K+2) (hp.mono (Kad _) (by omega) (Kad _)).b (hq.mono (Kad _) (by omega) (Kad _)).b hq.n.z (by omega) (by omega) hE (by have:=hp.l;omega) (by have:=hq.l;omega)
theorem qP{p q:List Tm}{T K E:Nat}(hp:PQ T K E p)(hq:PQ T K E q)(hT:T<=2^30)(hK:K<=2^32)(hE:E<=2^38):Qd Tryz.prog 46 [PV.ao p,PV.ao q] (· =PV.ao (Qq p q)):=
 G5 hp.b hq.b hK hE (by have:=hp.l;omega) (by have:=hq.l;omega)
theorem sB{p q:List Tm}{T K E:Nat}(hp:PQ T K E p)(hq:PQ T K E q)(hT:T<=2^15)(hK:T*(K+K)+(K+K)<=2^32)(hE:E<=2^37):Qd Tryz.prog 19 [PV.ao p,PV.ao q] (· =PV.ao (aV p q)):=by
 have h1:=hp.l;have h2:=hq.l;have h3:q.length*p.length<=2^15*2^15:=KbU (by omega) (by omega);have h4:q.length*(K+K)<=T*(K+K):=Kal _ h2;have:=OF hp.b hq.b hp.n.z hq.n.z hE (by omega) (by omega) (by omega) (by omega)
 rwa[LL hp.n hq.n]at this
def mT(p q r:List Tm):List Tm:=Qq p (bQ q r)
def vm(a b:Cd)(m:List Tm):Cd:=(Qq a.1 (aV m (bQ b.1 a.1)),Qq a.2 (aV m (bQ b.2 a.2)))
def ks(a b c d:Cd):List Tm:=bQ (aV (bQ b.1 a.1) (bQ d.2 c.2)) (aV (bQ b.2 a.2) (bQ d.1 c.1))
def dJ(a b c d:Cd):List Tm:=Qq (aV (bQ b.1 a.1) (bQ d.1 c.1)) (aV (bQ b.2 a.2) (bQ d.2 c.2))
structure CQ(T K E:Nat)(c:Cd):Prop where
 x:PQ T K E c.1
 y:PQ T K E c.2
theorem CQ.mono{T K E T' K' E':Nat}{c:Cd}(h:CQ T K E c)(h1:T<=T')(h2:K<=K')(h3:E<=E'):CQ T' K' E' c:=⟨h.x.mono h1 h2 h3,h.y.mono h1 h2 h3⟩
theorem Et{p q r:List Tm}{T K E:Nat}(hp:PQ T K E p)(hq:PQ T K E q)(hr:PQ T K E r)(hT:T<=2^20)(hK:K<=2^28)(hE:E<=2^20):Qd Tryz.prog 132 [PV.ao p,PV.ao q,PV.ao r] (· =PV.ao (mT p q r)):=by have h1:=iS hq hr (by omega) (by omega) (by omega);have h2:=qP (T:=T+T) (K:=K+(K+2)) (hp.mono (by omega) (by omega) (Kad _)) (hq.sub hr) (by omega) (by omega) (by omega);refine aB Qg Tryz.func132 aeS fun C hP=>?_;refine Sz0 ?_;refine Qa hP h1 rfl rfl rfl ?_;refine Sz0 ?_;refine Qa hP h2 rfl rfl rfl ?_;refine Sz0 ?_;exact Qc rfl rfl
theorem L8{a b:Cd}{m:List Tm}{T K E:Nat}(ha:CQ T K E a)(hb:CQ T K E b)(hm:PQ 1 K E m)(hT:T<=256)(hT1:1<=T)(hK:K<=2^18)(hE:E<=2^20):Qd Tryz.prog 131 [PV.aC a,PV.aC b,PV.ao m] (· =PV.aC (vm a b m)):=by
 have hmul:∀ {p q:List Tm},PQ T K E p->PQ T K E q->Qd Tryz.prog 19 [PV.ao m,PV.ao (bQ p q)] (· =PV.ao (aV m (bQ p q))):=fun hp hq=>by have h4:(T+T)*(K+(K+2)+(K+(K+2)))<=512*(2^21):=KbU (by omega) (by omega);exact sB (T:=T+T) (K:=K+(K+2)) (hm.mono (by omega) (by omega) (Kad _)) (hp.sub hq) (by omega) (by omega) (by omega)
 have bR:∀ {p q r:List Tm},PQ T K E p->PQ T K E q->PQ T K E r->Qd Tryz.prog 46 [PV.ao r,PV.ao (aV m (bQ p q))] (· =PV.ao (Qq r (aV m (bQ p q)))):=fun hp hq hr=>by have h4:min 1 (T+T)*(K+(K+(K+2)))<=1*2^26:=KbU (by omega) (by omega);exact qP (T:=1*(T+T)) (K:=2^26) (E:=E+E) (hr.mono (by omega) (by omega) (by omega)) ((hm.mul (hp.sub hq)).mono (by omega) (by omega) (by omega)) (by omega) (by omega) (by omega)
 have s1:=iS hb.x ha.x (by omega) (by omega) (by omega);have s2:=iS hb.y ha.y (by omega) (by omega) (by omega);have m1:=hmul hb.x ha.x;have m2:=hmul hb.y ha.y;have a1:=bR hb.x ha.x ha.x;have a2:=bR hb.y ha.y ha.y;refine aB Qg Tryz.func131 aeT fun C hP=>?_;refine Sz0 ?_;refine Qa hP s1 rfl rfl rfl ?_;refine Sz0 ?_;refine Qa hP m1 rfl rfl rfl ?_;refine Sz0 ?_;refine Qa hP a1 rfl rfl rfl ?_;refine Sz0 ?_;refine Qa hP s2 rfl rfl rfl ?_;refine Sz0 ?_;refine Qa hP m2 rfl rfl rfl ?_;refine Sz0 ?_;refine Qa hP a2 rfl rfl rfl ?_;refine Sz0 ?_;refine cY ?_;exact Qc rfl rfl
theorem iV{p q:List Tm}(hp:PQ 256 (2^17) 100 p)(hq:PQ 256 (2^17) 100 q):PQ 512 (2^18+2) 100 (bQ p q):=(hp.sub hq).mono (by omega) (by omega) (by omega)
theorem xM{p q:List Tm}(hp:PQ 512 (2^18+2) 100 p)(hq:PQ 512 (2^18+2) 100 q):PQ 262144 (2^28+2048) 200 (aV p q):=(hp.mul hq).mono (by omega) (by omega) (by omega)
abbrev CB(c:Cd):Prop:=CQ 256 (2^17) 100 c
theorem Ae{a b c d:Cd}(ha:CB a)(hb:CB b)(hc:CB c)(hd:CB d):PQ 524288 (2^29+4098) 200 (dJ a b c d):=
 ((xM (iV hb.x ha.x) (iV hd.x hc.x)).add (xM (iV hb.y ha.y) (iV hd.y hc.y))).mono (by omega) (by omega) (by omega)
theorem mQ{a b c d:Cd}(ha:CB a)(hb:CB b)(hc:CB c)(hd:CB d):Qd Tryz.prog 84 [PV.aC a,PV.aC b,PV.aC c,PV.aC d] (· =PV.ao (ks a b c d)):=by have s1:=iS hb.x ha.x (by omega) (by omega) (by omega);have s2:=iS hb.y ha.y (by omega) (by omega) (by omega);have s3:=iS hd.x hc.x (by omega) (by omega) (by omega);have s4:=iS hd.y hc.y (by omega) (by omega) (by omega);have m1:=sB (iV hb.x ha.x) (iV hd.y hc.y) (by omega) (by omega) (by omega);have m2:=sB (iV hb.y ha.y) (iV hd.x hc.x) (by omega) (by omega) (by omega);have f:=iS (xM (iV hb.x ha.x) (iV hd.y hc.y)) (xM (iV hb.y ha.y) (iV hd.x hc.x)) (by omega) (by omega) (by omega);refine aB Qg Tryz.func84 ahA fun C hP=>?_;refine Sz0 ?_;refine Qa hP s1 rfl rfl rfl ?_;refine Sz0 ?_;refine Qa hP s4 rfl rfl rfl ?_;refine Sz0 ?_;refine Qa hP m1 rfl rfl rfl ?_;refine Sz0 ?_;refine Qa hP s2 rfl rfl rfl ?_;refine Sz0 ?_;refine Qa hP s3 rfl rfl rfl ?_;refine Sz0 ?_;refine Qa hP m2 rfl rfl rfl ?_;refine Sz0 ?_;refine Qa hP f rfl rfl rfl ?_;refine Sz0 ?_;exact Qc rfl rfl
theorem ss{a b c d:Cd}(ha:CB a)(hb:CB b)(hc:CB c)(hd:CB d):Qd Tryz.prog 136 [PV.aC a,PV.aC b,PV.aC c,PV.aC d] (· =PV.ao (dJ a b c d)):=by have s1:=iS hb.x ha.x (by omega) (by omega) (by omega);have s2:=iS hb.y ha.y (by omega) (by omega) (by omega);have s3:=iS hd.x hc.x (by omega) (by omega) (by omega);have s4:=iS hd.y hc.y (by omega) (by omega) (by omega);have m1:=sB (iV hb.x ha.x) (iV hd.x hc.x) (by omega) (by omega) (by omega);have m2:=sB (iV hb.y ha.y) (iV hd.y hc.y) (by omega) (by omega) (by omega);have f:=qP (xM (iV hb.x ha.x) (iV hd.x hc.x)) (xM (iV hb.y ha.y) (iV hd.y hc.y)) (by omega) (by omega) (by omega);refine aB Qg Tryz.func136 aeU fun C hP=>?_;refine Sz0 ?_;refine Qa hP s1 rfl rfl rfl ?_;refine Sz0 ?_;refine Qa hP s3 rfl rfl rfl ?_;refine Sz0 ?_;refine Qa hP m1 rfl rfl rfl ?_;refine Sz0 ?_;refine Qa hP s2 rfl rfl rfl ?_;refine Sz0 ?_;refine Qa hP s4 rfl rfl rfl ?_;refine Sz0 ?_;refine Qa hP m2 rfl rfl rfl ?_;refine Sz0 ?_;refine Qa hP f rfl rfl rfl ?_;refine Sz0 ?_;exact Qc rfl rfl
theorem jH{a b:Cd}(ha:CB a)(hb:CB b):Qd Tryz.prog 83 [PV.aC a,PV.aC b] (· =PV.ao (dJ a b a b)):=by have h:=ss ha hb ha hb;refine aB Qg Tryz.func83 ahB fun C hP=>?_;refine Sz0 ?_;refine Qa hP h rfl rfl rfl ?_;refine Sz0 ?_;exact Qc rfl rfl
structure bD where
 k:Int
 args:List Int
 n:Bool
 a:List Nat
 d:List Nat
abbrev PV.nJ(f:bD):PV:=.agg [.int .i64 f.k,PV.mono f.args,.bool f.n,PV.nat f.a,PV.nat f.d]
def fb(k:Int):Int:=if k=1∨k=5 then 3 else if k=2∨k=3∨k=4∨k=6∨k=9 then 4 else if k=7 then 8 else if k=8 then 2 else 0
def oG(n:Bool)(a d:List Nat):Bool:= !n&&(decide (a.length=0)&&decide (d.length=0))
def fL(f:bD)(n:Int):Int:=
 if fb f.k=0 then 8 else if(f.args.length:Int)≠fb f.k then 1 else if(f.args.any fun i=>decide (i<0∨n<=i))=true then 2 else
  if(if f.k=9 then ku f.n f.a f.d else oG f.n f.a f.d)=true then 0 else 1
theorem QP(k:Int):(k=1∨k=2∨k=3∨k=4∨k=5∨k=6∨k=7∨k=8∨k=9)∨(k≠1/\k≠2/\k≠3/\k≠4/\k≠5/\k≠6/\k≠7/\k≠8/\k≠9):=by omega
theorem aae{k:Int}:Qd Tryz.prog 127 [.int .i64 k] (· = .int .i64 (fb k)):=by
 rcases QP k with h|⟨h1,h2,h3,h4,h5,h6,h7,h8,h9⟩
 ·rcases h with rfl|rfl|rfl|rfl|rfl|rfl|rfl|rfl|rfl
  all_goals
   refine aB Qg Tryz.func127 L6 fun C hP=>?_;refine Sz0 ?_;exact Qc rfl rfl
 ·have e:fb k=0:=by simp[fb,h1,h2,h3,h4,h5,h6,h7,h8,h9]
  rw[e];have d1:decide (k=1)=false:=decide_eq_false h1;have d2:decide (k=2)=false:=decide_eq_false h2;have d3:decide (k=3)=false:=decide_eq_false h3;have d4:decide (k=4)=false:=decide_eq_false h4;have d5:decide (k=5)=false:=decide_eq_false h5;have d6:decide (k=6)=false:=decide_eq_false h6;have d7:decide (k=7)=false:=decide_eq_false h7;have d8:decide (k=8)=false:=decide_eq_false h8;have d9:decide (k=9)=false:=decide_eq_false h9;refine aB Qg Tryz.func127 L6 fun C hP=>?_;refine Sz9 d1 d2 d3 d4 d5 d6 d7 d8 d9 ?_;exact Qc rfl rfl
theorem acw{n:Bool}{a d:List Nat}{k:Nat}(hb:Raw k n a d):Qd Tryz.prog 128 [PV.rr n a d] (· = .bool (oG n a d)):=by
 refine aB Qg Tryz.func128 aeL fun C hP=>?_;refine Sz0 ?_;cases n
 ·refine Sz0 ?_;refine Q4 (fun h=>?_) (fun h=>?_)
  ·refine Sz0 ?_;exact Qc (by simp[oG,show a.length=0 by omega]) rfl
  ·refine Sz0 ?_;exact Qc (by simp[oG,show ¬a.length=0 by omega]) rfl
 ·refine Sz0 ?_;exact Qc rfl rfl
theorem acx{n:Bool}{a d:List Nat}{k:Nat}(hb:Raw k n a d):Qd Tryz.prog 125 [PV.rr n a d] (· = .bool (oG n a d)):=by
 refine aB Qg Tryz.func125 aeM fun C hP=>?_;refine Sz0 ?_;cases n
 ·refine Sz0 ?_;refine Q4 (fun h=>?_) (fun h=>?_)
  ·refine Sz0 ?_;exact Qc (by simp[oG,show a.length=0 by omega]) rfl
  ·refine Sz0 ?_;exact Qc (by simp[oG,show ¬a.length=0 by omega]) rfl
 ·refine Sz0 ?_;exact Qc rfl rfl
structure l9(f:bD):Prop where
 l:f.args.length<2^40
 r:Raw 1048576 f.n f.a f.d
theorem ajd{f:bD}{n:Int}(h0:¬fb f.k=0)(hl:(f.args.length:Int)=fb f.k){i:Nat}(hi:i<f.args.length)(h:f.args[i]<0∨n<=f.args[i]):fL f n=2:=by unfold fL;rw[if_neg h0,if_neg (by simpa using hl),if_pos];exact KaW.2 ⟨_,Kah hi,decide_eq_true h⟩
theorem aje{f:bD}{n:Int}(h0:¬fb f.k=0)(hl:(f.args.length:Int)=fb f.k)(h:∀j (h:j<f.args.length),0<=f.args[j]/\f.args[j]<n):fL f n=if(if f.k=9 then ku f.n f.a f.d else oG f.n f.a f.d)=true then 0 else 1:=by unfold fL;rw[if_neg h0,if_neg (by simpa using hl),if_neg];intro hq;obtain⟨x,hx,hd⟩:=KaW.1 hq;obtain⟨j,hj,rfl⟩:=KaA hx;have:=of_decide_eq_true hd;have:=h j hj;omega
theorem QQ{f:bD}{n:Int}(hf:l9 f):Qd Tryz.prog 78 [PV.nJ f,.int .i64 n] (· = .int .i64 (fL f n)):=by
 have hr:=GV hf.r (by omega);have hz:=acw hf.r;have js:=hf.l;obtain⟨k,args,n0,a,d⟩:=f;simp only at hr hz js;have hA:=aae (k:=k);refine aB Qg Tryz.func78 ahw fun C hP=>?_;refine Sz0 ?_;refine Qa hP hA rfl rfl rfl ?_;refine Sz0 ?_;refine Qb (fun h0=>?_) (fun h0=>?_)
 ·refine Sz0 ?_;exact Qc (by simp[fL,h0]) rfl
 refine Sz0 ?_;refine Qa hP hA rfl rfl rfl ?_;refine Sz0 ?_;refine Qb (fun hl=>?_) (fun hl=>?_)
 ·refine Sz0 ?_;exact Qc (by simp[fL,h0,hl]) rfl
 replace hl:(args.length:Int)=fb k:=by omega
 refine Sz0 ?_;refine Qn okB [(4,4),(6,6),(21,32)] [] (fun m J hp=>∃i,m=args.length-i/\i<=args.length/\(∀j (h:j<args.length),j<i->0<=args[j]/\args[j]<n)/\J 21= .int .i64 (i:Nat)/\hp 2=some ⟨5,103,[PV.nJ ⟨k,args,n0,a,d⟩],false⟩) args.length ?_ ?_
 ·refine⟨0,rfl,by omega,by omega,?_⟩;refine Sz0 ?_;rfl
 rintro _ J h ⟨i,rfl,hi,h1,uR,dN⟩;refine Sz1 uR ?_;refine Qb (fun hg=>?_) (fun hg=>?_)
 ·have az:i<args.length:=by omega
  have h2:(args[i]<0∨n<=args[i])->fL ⟨k,args,n0,a,d⟩ n=2:=fun h=>ajd (f:=⟨k,args,n0,a,d⟩) h0 hl az h;have bR:0<=args[i]/\args[i]<n->∀j (h:j<args.length),j<i+1->0<=args[j]/\args[j]<n:=fun h j hj gP=>by
   by_cases e:j=i
   ·subst e;exact h
   ·exact h1 j hj (by omega)
  generalize hx:args[i]=x at *
  refine Sz2 uR hx ?_;refine Qo (fun h3=>?_) (fun h3=>?_)
  ·refine Sz0 ?_;exact Qc (by rw[h2 (.inl h3)]) rfl
  refine Sz0 ?_;refine Qb (fun h4=>?_) (fun h4=>?_)
  ·refine Sz0 ?_;exact Qc (by rw[h2 (.inr h4)]) rfl
  refine Sz1 uR ?_;refine Qi (args.length-(i+1)) (by omega) ⟨i+1,rfl,by omega,bR ⟨by omega,by omega⟩,?_⟩;exact Tz1 dN
 obtain rfl:i=args.length:=by omega
 have dT:=aje (f:=⟨k,args,n0,a,d⟩) (n:=n) h0 hl (fun j hj=>h1 j hj hj);refine Sz1 dN ?_;by_cases h9:k=9
 ·subst h9;refine Sz1 dN ?_;refine Qa hP hr rfl rfl rfl ?_;cases hq:ku n0 a d
  ·refine Sz1 dN ?_;exact Qc (by rw[dT];simp[hq]) rfl
  ·refine Sz1 dN ?_;exact Qc (by rw[dT];simp[hq]) rfl
 ·have d9:decide (k=9)=false:=decide_eq_false h9;have d9':decide (¬k=9)=true:=decide_eq_true h9;refine Sz3 dN d9 d9' ?_;refine Qa hP hz rfl rfl rfl ?_;cases hq:oG n0 a d
  ·refine Sz1 dN ?_;exact Qc (by rw[dT];simp[hq,h9]) rfl
  ·refine Sz1 dN ?_;exact Qc (by rw[dT];simp[hq,h9]) rfl
structure Q8 where
 k:Int
 name:ByteArray
 args:List Int
 n:Bool
 a:List Nat
 d:List Nat
abbrev PV.oD(s:Q8):PV:=.agg [.int .i64 s.k,.str s.name,PV.mono s.args,.bool s.n,PV.nat s.a,PV.nat s.d]
abbrev PV.cw(S:List Q8)(G:List bD):PV:=.agg [.sl 6 (S.map PV.oD),.sl 5 (G.map PV.nJ)]
def cC(cs:List Cd)(l:List Int):List Cd:=l.map fun a=>cs.getD a.toNat ([],[])
def lT(k i:Int)(b:Nat):List Vr:=if k=1 then qX i b else if k=5 then [(1,i,0)]else if k=6 then [(1,i,0),(2,i,1),(2,i,2)]else if k=2∨k=3∨k=4 then []else [(2,i,0),(2,i,1)]
def jl(k:Int)(q:Rat)(l:List Cd)(n b:Nat):Cd:=
 if k=1 then sH n b else if k=2 then vm (l.getD 0 ([],[])) (l.getD 1 ([],[])) (cM q)else
 if k=3 then(mT (l.getD 0 ([],[])).1 (l.getD 2 ([],[])).1 (l.getD 1 ([],[])).1,mT (l.getD 0 ([],[])).2 (l.getD 2 ([],[])).2 (l.getD 1 ([],[])).2)else
 if k=4 then(mT (l.getD 0 ([],[])).1 (l.getD 1 ([],[])).2 (l.getD 2 ([],[])).2,mT (l.getD 0 ([],[])).2 (l.getD 2 ([],[])).1 (l.getD 1 ([],[])).1)else
 if k=5 then vm (l.getD 0 ([],[])) (l.getD 1 ([],[])) (Q3 n)else if k=6 then(Q3 (n+1:Nat),Q3 (n+2:Nat))else(Q3 n,Q3 (n+1:Nat))
def fR(k:Int):Int:=if k=1 then 0 else if k=2∨k=5∨k=6∨k=14 then 2 else if k=3∨k=4∨k=7∨k=8∨k=10∨k=11 then 3 else if k=9∨k=12∨k=13 then 4 else -1
theorem aio{fr:Fr}{hp:HP}{K:Qh}{ty i d:Nat}{fz:Bool}{cs:List Cd}(h:i<cs.length):iu (some ⟨2,ty,cs.map PV.aC,fz⟩) 2 true i 0 d fr hp K=K (ae fr d (PV.aC (cs[i]'h))) hp:=by rw[oN (by rw[Ka0];exact h) (by omega) (by simp),Kb8];rfl
theorem aip{fr:Fr}{hp:HP}{K:Qh}{ty i d:Nat}{fz:Bool}{cs:List Cd}(h:i<cs.length):iu (some ⟨2,ty,cs.map PV.aC,fz⟩) 1 false i 0 d fr hp K=K (ae fr d (PV.ao (cs[i]'h).1)) hp:=by rw[oN (by rw[Ka0];exact h) (by omega) (by simp),Kb8];rfl
theorem aiq{fr:Fr}{hp:HP}{K:Qh}{ty i d:Nat}{fz:Bool}{cs:List Cd}(h:i<cs.length):iu (some ⟨2,ty,cs.map PV.aC,fz⟩) 1 false i 1 d fr hp K=K (ae fr d (PV.ao (cs[i]'h).2)) hp:=by rw[oN (by rw[Ka0];exact h) (by omega) (by simp),Kb8];rfl
theorem ajf{σ:Nat->Nat}{γ e ty:Nat}{cs:List PV}:cE σ (.aF γ e ty [.agg cs])= .aF (σ γ) e ty [fj (cs.map (cW σ))]:=rfl
theorem air{γ ba e ty:Nat}{cs:List PV}(h:ba≠γ):dm γ (.aF ba e ty [.agg cs])= .aF ba e ty [fj (cs.map (eC γ))]:=by simp[dm,h,PV.aX,PV.cells]
theorem ais{γ e ty:Nat}{cs:List PV}{nm:Nat->Bool}:oX nm (.aF γ e ty [.agg cs])=if(γ::cs.flatMap PV.dh).any nm then .undef else .aF γ e ty [.agg cs]:=by simp[oX,PV.refs,PV.aN,PV.aX,PV.cells]
attribute [go_sem] aio aip aiq ajf air ais
structure sC(i:Nat)(s:Q8):Prop where
 k:0<=fR s.k
 l:(s.args.length:Int)=fR s.k
 r:∀a∈s.args,0<=a/\a<(i:Nat)
 q:if s.k=2 then ku s.n s.a s.d=true else oG s.n s.a s.d=true
theorem ait{S:List Q8}{G:List bD}{i b:Nat}{cs:List Cd}{vs:List Vr}(hi:i<S.length)(hS:S.length<=1000)(aO:sC i S[i])(jd:cs.length=i)(hc:∀c∈cs,CB c)(hv:vs.length<60)(hb:b<1000)(hr:S[i].k=2->S[i].a.length<=2/\S[i].d.length<=2/\Raw 1048576 S[i].n S[i].a S[i].d):
  pV 80 cs vs (vs++lT S[i].k (i:Nat) b) [PV.cw S G,.int .i64 (i:Nat),.int .i64 (b:Nat)] (PV.aC (jl S[i].k (rv S[i].n S[i].a S[i].d) (cC cs S[i].args) vs.length b)):=by
 have js:S[i].args.length<=4:=by
  have:=aO.l;unfold fR at this
  repeat' split at this
  all_goals omega
 obtain⟨s,hs⟩:∃s,S[i]=s:=⟨_,rfl⟩
 rw[hs]at aO hr js⊢;have Fa:(cC cs s.args).length=s.args.length:=by simp[cC]
 have hL:∀c∈cC cs s.args,CB c:=fun c hm=>by obtain⟨a,ha,rfl⟩:=KaF.1 hm;have:=aO.r a ha;rw[Kae,Kag (show a.toNat<cs.length by omega)];exact hc _ (Kah _)
 refine xd Qg Tryz.func80 rfl aid Nz fun C hP=>?_;simp only[Ry];refine du ?_;refine Sz0 ?_;refine bT (pN 8 2000010 bf (by omega) rfl (by omega)) ?_;refine Sz0 ?_;refine bT (pK (γ:=2000010) (e:=2) (ty:=30) (xs:=[.agg [.aa,.aa]]) (fz:=false) Tz0 (by simp) (by omega) (fun x hx=>by rw[Kay.1 hx];rfl)) ?_;refine Sz1 hs ?_;refine oL 11 900 2 135 (by omega) Tz0 ?_;refine DK eH [(4,4),(8,8),(11,11),(13,13),(26,38),(2000010,2000010),(4000004,4000004)] [36,37,900] (fun q J hp=>∃j,q=s.args.length-j/\j<=s.args.length/\J 11= .ms 900 j/\J 4= .np 4000004 0 0/\J 8= .np 2000010 0 0/\J 26= .int .i64 (j:Nat)/\J 4000004= .aF 4000004 2 30 [Co cs.length vs.length]/\J 2000010= .aF 2000010 2 30 [.agg [.aa,.aa]]/\hp 4000004=some ⟨2,30,[],false⟩/\hp 2000010=some ⟨2,30,[],false⟩/\hp 2000011=none/\
   hp 2000000=some (yq cs)/\hp 2000001=some (yr vs)/\hp 9=some ⟨2,135,[.agg [.aa,.aa]],false⟩/\hp 10=some ⟨6,133,[PV.oD s],false⟩/\hp 900=some ⟨2,135,((cC cs s.args).take j).map PV.aC,false⟩) s.args.length ?_ ?_
 ·refine⟨0,rfl,by omega,?_⟩;refine Sz0 ?_;rfl
 rintro _ J h ⟨j,rfl,hj,nG,j4,j8,FQ,g4,g8,h4,h8,hn,h0,h1,h9,bp,ij⟩;refine Sz1 FQ ?_;refine Qb (fun hg=>?_) (fun hg=>?_)
 ·have dj:j<s.args.length:=by omega
  have hjL:j<(cC cs s.args).length:=by omega
  obtain⟨m,hm⟩:∃m:Nat,s.args[j]=(m:Int):=⟨s.args[j].toNat,by have:=aO.r _ (Kah dj);omega⟩
  have uG:m<cs.length:=by have:=aO.r _ (Kah dj);omega
  have hAj:(cC cs s.args)[j]=cs[m]:=by simp only[cC,Kb8,hm,KbF];rw[Kae,Kag uG];rfl
  have bN:(cC cs s.args).take (j+1)=(cC cs s.args).take j++[cs[m]]:=by rw[<-hAj];exact Kam hjL
  have pq:j=((cC cs s.args).take j).length:=by rw[Kax];omega
  generalize hy:cs[m]=y at *
  refine Sz7 FQ nG j4 g4 h0 hm hy ?_;rw[Qz (f:=PV.aC) (y:=y) (xs:=(cC cs s.args).take j) (ty':=135) (fz:=false) (Tz1 ij) bf (by omega) pq (by omega) (by omega)];refine vF FQ nG j4 j8 g4 g8 h4 h8 h0 h1 h9 bp ?_;refine zu (s.args.length-(j+1)) (by omega) ⟨j+1,rfl,by omega,?_⟩;exact Tz14 FQ nG j4 j8 g4 g8 h4 h8 hn h0 h1 h9 bp bN
 obtain rfl:j=s.args.length:=by omega
 rw[Kai (by omega)]at ij;obtain⟨L,AW⟩:∃L,cC cs s.args=L:=⟨_,rfl⟩
 rw[AW]at ij Fa hL⊢;have hlen:=aO.l;have hq:=aO.q;have hk:s.k=1∨s.k=2∨s.k=3∨s.k=4∨s.k=5∨s.k=6∨(7<=s.k/\s.k<=14):=by
  have:=aO.k;unfold fR at this
  repeat' split at this
  all_goals omega
 clear hs aO;generalize s.args=args at *
 obtain⟨k,nm,ar,n0,a0,d0⟩:=s;simp only at *
 refine Sz1 bp ?_;rcases hk with rfl|rfl|rfl|rfl|rfl|rfl|⟨jx,pd⟩
 ·have hf:=aii (cs:=cs) (vs:=vs) (s:=(i:Nat)) (b:=b) (by omega) hb;rw[show lT 1 (i:Nat) b=qX (i:Nat) b from rfl,show jl 1 (rv n0 a0 d0) L vs.length b=sH vs.length b from rfl];refine Sz6 j4 j8 g4 g8 h4 h8 ?_;refine pJ hP hf (Tz1 h0) (Tz1 h1) rfl rfl rfl (by simp) ?_;refine Sz4 j8 g8 h8 h9 ?_;refine pG (γ:=2000010) (ty:=30) (n:=cs.length) (m:=(vs++qX (i:Nat) b).length) (Tz1 j8) Tz0 (q:=PV.aC (sH vs.length b)) (lf h9) rfl ⟨rfl,by simp+decide (disch:=try exact D0) only[go_sem],by simp+decide (disch:=try exact D0) only[go_sem]⟩
 ·have nk:args.length=2:=by have:fR 2=2:=(by decide);omega
  have bK:∀n,n<2->∃c,(∀h:n<L.length,L[n]'h=c)/\L.getD n ([],[])=c/\CB c:=fun n hn=>by
   have wj:n<L.length:=by omega
   exact⟨L[n],fun _=>rfl,by rw[Kae,Kag wj];rfl,hL _ (Kah _)⟩
  obtain⟨c0,f0,g0,b0⟩:=bK 0 (by omega);obtain⟨c1,f1,g1,b1⟩:=bK 1 (by omega);rw[nk]at nG;obtain⟨q1,q2,q3⟩:=hr rfl;have hC:=N6 (k:=1048576) q3 (by omega);have cG:rs (rv n0 a0 d0)+1<=2^17:=by have:=(show Raw 2 n0 a0 d0 from⟨q3.la,q3.ld,q1,q2,by omega⟩).rs;omega
  have uq:=L8 (m:=cM (rv n0 a0 d0)) b0 b1 ((PQ.const cG).mono (Kad _) (Kad _) (by omega)) (by omega) (by omega) (by omega) (by omega);rw[show lT 2 (i:Nat) b=[]from rfl,show jl 2 (rv n0 a0 d0) L vs.length b=vm (L.getD 0 ([],[])) (L.getD 1 ([],[])) (cM (rv n0 a0 d0))from rfl,g0,g1,Kas];refine Ci j4 j8 nG g4 g8 h4 h8 bp ij f0 f1 ?_;refine Qa hP hC rfl rfl rfl ?_;refine Ci j4 j8 nG g4 g8 h4 h8 bp ij f0 f1 ?_;refine Qa hP uq rfl rfl rfl ?_;refine Sz4 j8 g8 h8 h9 ?_;refine pG (γ:=2000010) (ty:=30) (n:=cs.length) (m:=vs.length) (Tz1 j8) Tz0 (q:=PV.aC (vm c0 c1 (cM (rv n0 a0 d0)))) (lf h9) rfl ⟨rfl,by simp+decide (disch:=try exact D1 h0) only[go_sem,h0],by simp+decide (disch:=try exact D1 h1) only[go_sem,h1]⟩
 ·have nk:args.length=3:=by have:fR 3=3:=(by decide);omega
  have bK:∀n,n<3->∃c,(∀h:n<L.length,L[n]'h=c)/\L.getD n ([],[])=c/\CB c:=fun n hn=>by
   have wj:n<L.length:=by omega
   exact⟨L[n],fun _=>rfl,by rw[Kae,Kag wj];rfl,hL _ (Kah _)⟩
  obtain⟨c0,f0,g0,vQ⟩:=bK 0 (by omega);obtain⟨c1,f1,g1,AU⟩:=bK 1 (by omega);obtain⟨c2,f2,g2,AV⟩:=bK 2 (by omega);rw[nk]at nG;have p1:=Et (vQ.x) (AV.x) (AU.x) (by omega) (by omega) (by omega);have p2:=Et (vQ.y) (AV.y) (AU.y) (by omega) (by omega) (by omega);have e2:jl 3 (rv n0 a0 d0) L vs.length b=(mT c0.1 c2.1 c1.1,mT c0.2 c2.2 c1.2):=by rw[<-g0,<-g1,<-g2];rfl
  rw[show lT 3 (i:Nat) b=[]from rfl,e2,Kas];refine vF j4 j8 nG g4 g8 h4 h8 bp ij f0 f1 f2 ?_;refine Qa hP p1 rfl rfl rfl ?_;refine vF j4 j8 nG g4 g8 h4 h8 bp ij f0 f1 f2 ?_;refine Qa hP p2 rfl rfl rfl ?_;refine Sz4 j8 g8 h8 h9 ?_;refine pG (γ:=2000010) (ty:=30) (n:=cs.length) (m:=vs.length) (Tz1 j8) Tz0 (q:=PV.aC (mT c0.1 c2.1 c1.1,mT c0.2 c2.2 c1.2)) (lf h9) rfl ⟨rfl,by simp+decide (disch:=try exact D1 h0) only[go_sem,h0],by simp+decide (disch:=try exact D1 h1) only[go_sem,h1]⟩
 ·have nk:args.length=3:=by have:fR 4=3:=(by decide);omega
  have bK:∀n,n<3->∃c,(∀h:n<L.length,L[n]'h=c)/\L.getD n ([],[])=c/\CB c:=fun n hn=>by
   have wj:n<L.length:=by omega
   exact⟨L[n],fun _=>rfl,by rw[Kae,Kag wj];rfl,hL _ (Kah _)⟩
  obtain⟨c0,f0,g0,vQ⟩:=bK 0 (by omega);obtain⟨c1,f1,g1,AU⟩:=bK 1 (by omega);obtain⟨c2,f2,g2,AV⟩:=bK 2 (by omega);rw[nk]at nG;have p1:=Et (vQ.x) (AU.y) (AV.y) (by omega) (by omega) (by omega);have p2:=Et (vQ.y) (AV.x) (AU.x) (by omega) (by omega) (by omega);have e2:jl 4 (rv n0 a0 d0) L vs.length b=(mT c0.1 c1.2 c2.2,mT c0.2 c2.1 c1.1):=by rw[<-g0,<-g1,<-g2];rfl
  rw[show lT 4 (i:Nat) b=[]from rfl,e2,Kas];refine vF j4 j8 nG g4 g8 h4 h8 bp ij f0 f1 f2 ?_;refine Qa hP p1 rfl rfl rfl ?_;refine vF j4 j8 nG g4 g8 h4 h8 bp ij f0 f1 f2 ?_;refine Qa hP p2 rfl rfl rfl ?_;refine Sz4 j8 g8 h8 h9 ?_;refine pG (γ:=2000010) (ty:=30) (n:=cs.length) (m:=vs.length) (Tz1 j8) Tz0 (q:=PV.aC (mT c0.1 c1.2 c2.2,mT c0.2 c2.1 c1.1)) (lf h9) rfl ⟨rfl,by simp+decide (disch:=try exact D1 h0) only[go_sem,h0],by simp+decide (disch:=try exact D1 h1) only[go_sem,h1]⟩
 ·have nk:args.length=2:=by have:fR 5=2:=(by decide);omega
  have bK:∀n,n<2->∃c,(∀h:n<L.length,L[n]'h=c)/\L.getD n ([],[])=c/\CB c:=fun n hn=>by
   have wj:n<L.length:=by omega
   exact⟨L[n],fun _=>rfl,by rw[Kae,Kag wj];rfl,hL _ (Kah _)⟩
  obtain⟨c0,f0,g0,b0⟩:=bK 0 (by omega);obtain⟨c1,f1,g1,b1⟩:=bK 1 (by omega);rw[nk]at nG;have hf:=xt (cs:=cs) (vs:=vs) (k:=1) (s:=(i:Nat)) (m:=0) (by omega);have uq:=L8 (m:=Q3 vs.length) b0 b1 ((PQ.var).mono (Kad _) (by omega) (by omega)) (by omega) (by omega) (by omega) (by omega);have e2:jl 5 (rv n0 a0 d0) L vs.length b=vm c0 c1 (Q3 vs.length):=by rw[<-g0,<-g1];rfl
  rw[show lT 5 (i:Nat) b=[(1,((i:Nat):Int),0)]from rfl,e2];refine Sz6 j4 j8 g4 g8 h4 h8 ?_;refine pJ hP hf (Tz1 h0) (Tz1 h1) rfl rfl rfl (by simp) ?_;refine Sz3 j8 g8 h8 ?_;refine bT (pN 14 2000011 (Tz1 hn) (by omega) rfl (by omega)) ?_;refine Sz1 g8 ?_;refine bT (pK (γ:=2000011) (e:=2) (ty:=30) (xs:=[.agg [.aa,.aa]]) (fz:=false) Tz0 (by simp) (by omega) (fun x hx=>by rw[Kay.1 hx];rfl)) ?_;refine Sz5 g8 nG ij f0 f1 ?_;refine Qa hP uq rfl rfl rfl ?_;refine Sz4 j8 g8 h8 h9 ?_;refine pG (γ:=2000010) (ty:=30) (n:=cs.length) (m:=(vs++[(1,((i:Nat):Int),0)]).length) (Tz1 j8) Tz0 (q:=PV.aC (vm c0 c1 (Q3 vs.length))) (lf h9) rfl ⟨rfl,by simp+decide (disch:=try exact D0) only[go_sem],by simp+decide (disch:=try exact D0) only[go_sem]⟩
 ·have hf:=xt (cs:=cs) (vs:=vs) (k:=1) (s:=(i:Nat)) (m:=0) (by omega);have e1:(vs++[(1,((i:Nat):Int),(0:Int))]).length=vs.length+1:=by simp
  have hd:=OI (cs:=cs) (vs:=vs++[(1,((i:Nat):Int),(0:Int))]) (s:=(i:Nat)) (m:=1) (by rw[e1];omega) (by omega);have e3:vs++[(1,((i:Nat):Int),(0:Int))]++[(2,((i:Nat):Int),(1:Int)),(2,((i:Nat):Int),(1:Int)+1)]=vs++lT 6 (i:Nat) b:=by rw[Kbv];rfl
  have e4:(vs++lT 6 (i:Nat) b).length=vs.length+3:=by rw[<-e3];simp
  rw[pV,e3,e1,e4]at hd;rw[pV,e1]at hf;rw[show jl 6 (rv n0 a0 d0) L vs.length b=(Q3 (vs.length+1:Nat),Q3 (vs.length+2:Nat))from rfl,e4];refine Sz6 j4 j8 g4 g8 h4 h8 ?_;refine pJ hP hf (Tz1 h0) (Tz1 h1) rfl rfl rfl (by simp) ?_;refine Sz3 j8 g8 h8 ?_;refine bT (pN 16 2000011 (Tz1 hn) (by omega) rfl (by omega)) ?_;refine Sz1 g8 ?_;refine bT (pK (γ:=2000011) (e:=2) (ty:=30) (xs:=[.agg [.aa,.aa]]) (fz:=false) Tz0 (by simp) (by omega) (fun x hx=>by rw[Kay.1 hx];rfl)) ?_;refine Sz1 g8 ?_;refine pJ hP hd Tz0 Tz0 rfl rfl rfl (by simp) ?_;refine Sz4 j8 g8 h8 h9 ?_;refine pG (γ:=2000010) (ty:=30) (n:=cs.length) (m:=vs.length+3) (Tz1 j8) Tz0 (q:=PV.aC (Q3 (vs.length+1:Nat),Q3 (vs.length+2:Nat))) (lf h9) rfl ⟨rfl,by simp+decide (disch:=try exact D0) only[go_sem],by simp+decide (disch:=try exact D0) only[go_sem]⟩
 ·have hf:=OI (cs:=cs) (vs:=vs) (s:=(i:Nat)) (m:=0) (by omega) (by omega);have d1:decide (k=1)=false:=decide_eq_false (by omega);have d2:decide (k=2)=false:=decide_eq_false (by omega);have d3:decide (k=3)=false:=decide_eq_false (by omega);have d4:decide (k=4)=false:=decide_eq_false (by omega);have d5:decide (k=5)=false:=decide_eq_false (by omega);have d6:decide (k=6)=false:=decide_eq_false (by omega);have e1:lT k (i:Nat) b=[(2,((i:Nat):Int),(0:Int)),(2,((i:Nat):Int),(0:Int)+1)]:=by unfold lT;rw[if_neg (by omega),if_neg (by omega),if_neg (by omega),if_neg (by omega)];rfl
  have e2:jl k (rv n0 a0 d0) L vs.length b=(Q3 vs.length,Q3 (vs.length+1:Nat)):=by unfold jl;rw[if_neg (by omega),if_neg (by omega),if_neg (by omega),if_neg (by omega),if_neg (by omega),if_neg (by omega)]
  rw[e1,e2];refine vF j4 j8 g4 g8 h4 h8 d1 d2 d3 d4 d5 d6 ?_;refine pJ hP hf (Tz1 h0) (Tz1 h1) rfl rfl rfl (by simp) ?_;refine Sz4 j8 g8 h8 h9 ?_;refine pG (γ:=2000010) (ty:=30) (n:=cs.length) (m:=(vs++[(2,((i:Nat):Int),(0:Int)),(2,((i:Nat):Int),(0:Int)+1)]).length) (Tz1 j8) Tz0 (q:=PV.aC (Q3 vs.length,Q3 (vs.length+1:Nat))) (lf h9) rfl ⟨rfl,by simp+decide (disch:=try exact D0) only[go_sem],by simp+decide (disch:=try exact D0) only[go_sem]⟩
def kO(n:Nat):Bool:=(decide (65<=n)&&decide (n<=90))||(decide (97<=n)&&decide (n<=122))
def ru(n:Nat):Bool:=decide (48<=n)&&decide (n<=57)
theorem Xd{n:Nat}:Qd Tryz.prog 164 [.int .u8 n] (· = .bool (kO n)):=by
 refine aB Qg Tryz.func164 aeN fun C hP=>?_;refine Sz0 ?_;refine Q4 (fun h1=>?_) (fun h1=>?_)
 ·refine Sz0 ?_;refine Qo (fun h2=>?_) (fun h2=>?_)
  ·refine Sz0 ?_;exact Qc (by simp[kO,show 65<=n by omega,show n<=90 by omega]) rfl
  refine Sz0 ?_;refine Q4 (fun h3=>?_) (fun h3=>?_)
  ·refine Sz0 ?_;exact Qc (by simp[kO,show ¬n<=90 by omega,show 97<=n by omega];omega) rfl
  ·refine Sz0 ?_;exact Qc (by simp[kO,show ¬n<=90 by omega,show ¬97<=n by omega]) rfl
 ·refine Sz0 ?_;refine Q4 (fun h3=>?_) (fun h3=>?_)
  ·omega
  ·refine Sz0 ?_;exact Qc (by simp[kO,show ¬65<=n by omega,show ¬97<=n by omega]) rfl
theorem aaf{n:Nat}:Qd Tryz.prog 165 [.int .u8 n] (· = .bool (ru n)):=by
 refine aB Qg Tryz.func165 aeO fun C hP=>?_;refine Sz0 ?_;refine Q4 (fun h1=>?_) (fun h1=>?_)
 ·refine Sz0 ?_;exact Qc (by simp[ru,show 48<=n by omega];omega) rfl
 ·refine Sz0 ?_;exact Qc (by simp[ru,show ¬48<=n by omega]) rfl
def ke:List ByteArray:=[⟨#[97,110,103,108,101]⟩,⟨#[97,112,101,120]⟩,⟨#[98,105,115,101,99,116,111,114]⟩,⟨#[99,101,110,116,101,114]⟩,⟨#[99,105,114,99,108,101]⟩,⟨#[99,105,114,99,117,109]⟩,⟨#[99,111,108,108,105,110,101,97,114]⟩,⟨#[99,111,109,109,111,110]⟩,⟨#[99,111,110,99,121,99,108,105,99]⟩,⟨#[99,111,110,103,114,117,101,110,116]⟩,⟨#[99,114,111,115,115]⟩,⟨#[99,117,116]⟩,⟨#[100,105,118,105,100,101]⟩,⟨#[102,111,111,116]⟩,⟨#[108,105,110,101]⟩,⟨#[109,101,101,116]⟩,⟨#[109,105,100,112,111,105,110,116]⟩,⟨#[109,105,114,114,111,114]⟩,⟨#[111,110]⟩,⟨#[111,116,104,101,114]⟩,⟨#[112,97,114,97,108,108,101,108]⟩,⟨#[112,101,114,112,101,110,100,105,99,117,108,97,114]⟩,⟨#[112,111,105,110,116,115]⟩,⟨#[112,114,111,118,101]⟩,⟨#[114,97,116,105,111]⟩,⟨#[114,101,102,108,101,99,116]⟩,⟨#[115,97,109,101]⟩,⟨#[115,104,105,102,116]⟩,⟨#[116,117,114,110]⟩]
def gI(s:ByteArray):Nat->Nat
 |0=>0
 |n+1=>if gI s n<s.size then gI s n+(Utf8.decode s (gI s n)).2 else gI s n
theorem QR{s:ByteArray}{n:Nat}(h:¬gI s n<s.size):∀k,gI s (n+k)=gI s n
 |0=>rfl
 |k+1=>by have e:=QR h k;rw[<-Nat.add_assoc,gI,e,if_neg h]
structure Nq(s:ByteArray):Prop where
 p:0<s.size
 l:s.size<=20
 f:∀h:0<s.size,kO (s[0]'h).toNat=true
 a:∀n (h:gI s n<s.size),kO (s[gI s n]'h).toNat=true∨ru (s[gI s n]'h).toNat=true
 k:∀k∈ke,s≠k
noncomputable def yP (s : ByteArray) : Bool := @decide (Nq s) (Classical.propDecidable _)
theorem Af{s:ByteArray}:yP s=true↔Nq s:= @decide_eq_true_iff (Nq s) (Classical.propDecidable _)
theorem aiu{s:ByteArray}{b:Bool}(h:b=true↔Nq s):b=yP s:=Bool.eq_iff_iff.2 (h.trans Af.symm)
theorem UJ:Qd Tryz.prog 166 [] (· = .sl 1 (ke.map PV.str)):=by
 refine aB Qg Tryz.func166 aeP fun C hP=>?_;refine Sz0 ?_;rw[Ac rfl (fun p hp=>by
  have:∀p∈ke.map PV.str,p.cells.length=1:=fun p hp=>by obtain⟨b,_,rfl⟩:=KaF.1 hp;rfl
  exact this p hp) (by omega)]
 refine Sz0 ?_;exact gj (e:=1) (ty:=9) (xs:=ke.map PV.str) (fz:=false) rfl rfl
structure jR(s:Q8):Prop where
 n:s.name.size<2^40
 l:s.args.length<2^40
 r:Raw 1048576 s.n s.a s.d
def oM:Prop:=∀s:ByteArray,s.size<2^40->Qd Tryz.prog 126 [PV.str s] (· = .bool (yP s))
structure Gm(S:List Q8)(i:Nat)(s:Q8):Prop where
 ok:sC i s
 n:s.name= .empty∨(Nq s.name/\∀j (h:j<S.length),j<i->S[j].name≠s.name)
theorem nI{e:Int}{P:Prop}(h:e≠0)(h2:P->False):e=0↔P:=⟨fun q=>absurd q h,fun p=>(h2 p).elim⟩
theorem aag(k:Int):(k=1∨k=2∨k=3∨k=4∨k=5∨k=6∨k=7∨k=8∨k=9∨k=10∨k=11∨k=12∨k=13∨k=14)∨(k≠1/\k≠2/\k≠3/\k≠4/\k≠5/\k≠6/\k≠7/\k≠8/\k≠9/\k≠10/\k≠11/\k≠12/\k≠13/\k≠14):=by omega
theorem aah{k:Int}:Qd Tryz.prog 124 [.int .i64 k] (· = .int .i64 (fR k)):=by
 rcases aag k with h|⟨h1,h2,h3,h4,h5,h6,h7,h8,h9,bp,cj,ig,eU,fS⟩
 ·rcases h with rfl|rfl|rfl|rfl|rfl|rfl|rfl|rfl|rfl|rfl|rfl|rfl|rfl|rfl
  all_goals
   refine aB Qg Tryz.func124 L7 fun C hP=>?_;refine Sz0 ?_;exact Qc rfl rfl
 ·have e:fR k= -1:=by simp[fR,h1,h2,h3,h4,h5,h6,h7,h8,h9,bp,cj,ig,eU,fS]
  rw[e];have d1:decide (k=1)=false:=decide_eq_false h1;have d2:decide (k=2)=false:=decide_eq_false h2;have d3:decide (k=3)=false:=decide_eq_false h3;have d4:decide (k=4)=false:=decide_eq_false h4;have d5:decide (k=5)=false:=decide_eq_false h5;have d6:decide (k=6)=false:=decide_eq_false h6;have d7:decide (k=7)=false:=decide_eq_false h7;have d8:decide (k=8)=false:=decide_eq_false h8;have d9:decide (k=9)=false:=decide_eq_false h9;have d10:decide (k=10)=false:=decide_eq_false bp;have d11:decide (k=11)=false:=decide_eq_false cj;have d12:decide (k=12)=false:=decide_eq_false ig;have d13:decide (k=13)=false:=decide_eq_false eU;have d14:decide (k=14)=false:=decide_eq_false fS;have dd:decide (k=1)=false/\decide (k=2)=false/\decide (k=3)=false/\decide (k=4)=false/\decide (k=5)=false/\decide (k=6)=false/\decide (k=7)=false/\decide (k=8)=false/\decide (k=9)=false/\decide (k=10)=false/\decide (k=11)=false/\decide (k=12)=false/\decide (k=13)=false/\decide (k=14)=false:=⟨d1,d2,d3,d4,d5,d6,d7,d8,d9,d10,d11,d12,d13,d14⟩
  refine aB Qg Tryz.func124 L7 fun C hP=>?_;refine Sz1 dd ?_;exact Qc rfl rfl
theorem dq{p:PV}{R:PV->Prop}(h:R p)(hd:p.aD=true):vB R p:=⟨hd,p,Qf _,h⟩
theorem aai(hN:oM){S:List Q8}{i:Nat}(hS:S.length<2^40)(hb:∀s∈S,jR s)(hi:i<S.length):Qd Tryz.prog 77 [.sl 6 (S.map PV.oD),.int .i64 (i:Nat)] (fun r=>∃e:Int,r= .int .i64 e/\(e=0↔Gm S i S[i])):=by
 have sX:=hb _ (Kah hi);have hA:∀k,Qd Tryz.prog 124 [.int .i64 k] (· = .int .i64 (fR k)):=fun k=>aah;obtain⟨s,hs⟩:∃s,S[i]=s:=⟨_,rfl⟩
 rw[hs]at sX⊢;have hr:=GV sX.r (by omega);have hz:=acx sX.r;have fY:=hN s.name sX.n;have js:=sX.l;refine aB Qg Tryz.func77 ahz fun C hP=>?_;refine Sz1 hs ?_;refine Qa hP (hA _) rfl rfl rfl ?_;refine Sz0 ?_;refine Qb (fun h0=>?_) (fun h0=>?_)
 ·refine Sz0 ?_;exact dq ⟨8,rfl,nI (by decide) fun q=>absurd q.ok.k (by omega)⟩ rfl
 refine Sz0 ?_;refine Qa hP (hA _) rfl rfl rfl ?_;refine Sz0 ?_;refine Qb (fun hl=>?_) (fun hl=>?_)
 ·refine Sz0 ?_;exact dq ⟨1,rfl,nI (by decide) fun q=>absurd q.ok.l (by omega)⟩ rfl
 replace hl:(s.args.length:Int)=fR s.k:=by omega
 refine Sz0 ?_;refine Qn okB [(4,4),(7,7),(28,39)] [] (fun m J hp=>∃j,m=s.args.length-j/\j<=s.args.length/\(∀n (h:n<s.args.length),n<j->0<=s.args[n]/\s.args[n]<(i:Nat))/\J 28= .int .i64 (j:Nat)/\hp 5=some ⟨6,133,[PV.oD s],false⟩) s.args.length ?_ ?_
 ·refine⟨0,rfl,by omega,by omega,?_⟩;refine Sz0 ?_;rfl
 rintro _ J h ⟨j,rfl,hj,FG,Ks,fH⟩;refine Sz1 Ks ?_;refine Qb (fun hg=>?_) (fun hg=>?_)
 ·have dj:j<s.args.length:=by omega
  have bR:0<=s.args[j]/\s.args[j]<(i:Nat)->∀n (h:n<s.args.length),n<j+1->0<=s.args[n]/\s.args[n]<(i:Nat):=fun h n hn SW=>by
   by_cases e:n=j
   ·subst e;exact h
   ·exact FG n hn (by omega)
  have Sf:=Kah dj;generalize hx:s.args[j]=x at *
  refine Sz2 Ks hx ?_;refine Qo (fun h3=>?_) (fun h3=>?_)
  ·refine Sz0 ?_;exact dq ⟨2,rfl,nI (by decide) fun q=>by have:=q.ok.r x Sf;omega⟩ rfl
  refine Sz0 ?_;refine Qb (fun h4=>?_) (fun h4=>?_)
  ·refine Sz0 ?_;exact dq ⟨2,rfl,nI (by decide) fun q=>by have:=q.ok.r x Sf;omega⟩ rfl
  refine Sz1 Ks ?_;refine Qi (s.args.length-(j+1)) (by omega) ⟨j+1,rfl,by omega,bR ⟨by omega,by omega⟩,?_⟩;exact Tz1 fH
 obtain rfl:j=s.args.length:=by omega
 have Th:∀a∈s.args,0<=a/\a<(i:Nat):=fun a ha=>by obtain⟨n,hn,rfl⟩:=KaA ha;exact FG n hn hn
 refine Sz1 fH ?_;by_cases h2:s.k=2
 ·have d2:decide (s.k=2)=true:=decide_eq_true h2;have vN:decide (¬s.k=2)=false:=by simp[h2]
  refine Sz3 fH d2 vN ?_;refine Qa hP hr rfl rfl rfl ?_;cases hq:ku s.n s.a s.d
  ·refine Sz3 fH d2 vN ?_;exact dq ⟨1,rfl,nI (by decide) fun q=>by have:=q.ok.q;rw[if_pos h2,hq]at this;cases this⟩ rfl
  have dT:sC i s:=⟨by omega,hl,Th,by rw[if_pos h2];exact hq⟩
  refine Sz3 fH d2 vN ?_;have bN:(S.take i).length<=S.length:=by rw[Kax];omega
  refine Qb (fun iq=>?_) (fun iq=>?_)
  ·refine Sz1 fH ?_;exact dq ⟨0,rfl,fun _=>⟨dT,.inl iq⟩,fun _=>rfl⟩ rfl
  refine Sz1 fH ?_;refine Qa hP fY rfl rfl rfl ?_;cases sW:yP s.name
  ·refine Sz1 fH ?_;exact dq ⟨6,rfl,nI (by decide) fun q=>by rcases q.n with q|q;exact absurd q iq;exact absurd (Af.2 q.1) (by rw[sW];decide)⟩ rfl
  refine Sz1 fH ?_;refine Qn okB [(4,4),(9,9),(71,80)] [9] (fun m J hp=>∃j,m=(S.take i).length-j/\j<=(S.take i).length/\(∀n (h:n<(S.take i).length),n<j->(S.take i)[n].name≠s.name)/\J 71= .int .i64 (j:Nat)/\hp 5=some ⟨6,133,[PV.oD s],false⟩) (S.take i).length ?_ ?_
  ·refine⟨0,rfl,by omega,by omega,?_⟩;refine Sz1 fH ?_;rfl
  rintro _ J2 h2 ⟨j,rfl,hj,aT,wG,fH⟩;refine Sz1 wG ?_;refine Qb (fun hg=>?_) (fun hg=>?_)
  ·have dj:j<(S.take i).length:=by omega
   have Bt:(∀j (h:j<S.length),j<i->S[j].name≠s.name)->(S.take i)[j].name≠s.name:=fun q=>by rw[KcW];exact q j (by rw[Kax]at dj;omega) (by rw[Kax]at dj;omega)
   have bR:(S.take i)[j].name≠s.name->∀n (h:n<(S.take i).length),n<j+1->(S.take i)[n].name≠s.name:=fun hh n hn SW=>by
    by_cases e:n=j
    ·subst e;exact hh
    ·exact aT n hn (by omega)
   generalize hx:(S.take i)[j]=x at *
   refine Sz3 wG hx fH ?_;refine Qb (fun he=>?_) (fun he=>?_)
   ·refine Sz1 fH ?_;exact dq ⟨7,rfl,nI (by decide) fun q=>by rcases q.n with q|q;exact absurd q iq;exact absurd he (Bt q.2)⟩ rfl
   refine Sz1 wG ?_;refine Qi ((S.take i).length-(j+1)) (by omega) ⟨j+1,rfl,by omega,bR he,?_⟩;exact Tz1 fH
  obtain rfl:j=(S.take i).length:=by omega
  refine Sz0 ?_;exact dq ⟨0,rfl,fun _=>⟨dT,.inr ⟨Af.1 sW,fun j hj gP=>by
   have h3:j<(S.take i).length:=by rw[Kax];omega
   have:=aT j h3 h3
   rwa[KcW]at this⟩⟩,fun _=>rfl⟩ rfl
 ·have d2:decide (s.k=2)=false:=decide_eq_false h2;have vN:decide (¬s.k=2)=true:=by simp[h2]
  refine Sz3 fH d2 vN ?_;refine Qa hP hz rfl rfl rfl ?_;cases hq:oG s.n s.a s.d
  ·refine Sz3 fH d2 vN ?_;exact dq ⟨1,rfl,nI (by decide) fun q=>by have:=q.ok.q;rw[if_neg h2,hq]at this;cases this⟩ rfl
  have dT:sC i s:=⟨by omega,hl,Th,by rw[if_neg h2];exact hq⟩
  refine Sz3 fH d2 vN ?_;have bN:(S.take i).length<=S.length:=by rw[Kax];omega
  refine Qb (fun iq=>?_) (fun iq=>?_)
  ·refine Sz1 fH ?_;exact dq ⟨0,rfl,fun _=>⟨dT,.inl iq⟩,fun _=>rfl⟩ rfl
  refine Sz1 fH ?_;refine Qa hP fY rfl rfl rfl ?_;cases sW:yP s.name
  ·refine Sz1 fH ?_;exact dq ⟨6,rfl,nI (by decide) fun q=>by rcases q.n with q|q;exact absurd q iq;exact absurd (Af.2 q.1) (by rw[sW];decide)⟩ rfl
  refine Sz1 fH ?_;refine Qn okB [(4,4),(9,9),(71,80)] [9] (fun m J hp=>∃j,m=(S.take i).length-j/\j<=(S.take i).length/\(∀n (h:n<(S.take i).length),n<j->(S.take i)[n].name≠s.name)/\J 71= .int .i64 (j:Nat)/\hp 5=some ⟨6,133,[PV.oD s],false⟩) (S.take i).length ?_ ?_
  ·refine⟨0,rfl,by omega,by omega,?_⟩;refine Sz1 fH ?_;rfl
  rintro _ J2 h2 ⟨j,rfl,hj,aT,wG,fH⟩;refine Sz1 wG ?_;refine Qb (fun hg=>?_) (fun hg=>?_)
  ·have dj:j<(S.take i).length:=by omega
   have Bt:(∀j (h:j<S.length),j<i->S[j].name≠s.name)->(S.take i)[j].name≠s.name:=fun q=>by rw[KcW];exact q j (by rw[Kax]at dj;omega) (by rw[Kax]at dj;omega)
   have bR:(S.take i)[j].name≠s.name->∀n (h:n<(S.take i).length),n<j+1->(S.take i)[n].name≠s.name:=fun hh n hn SW=>by
    by_cases e:n=j
    ·subst e;exact hh
    ·exact aT n hn (by omega)
   generalize hx:(S.take i)[j]=x at *
   refine Sz3 wG hx fH ?_;refine Qb (fun he=>?_) (fun he=>?_)
   ·refine Sz1 fH ?_;exact dq ⟨7,rfl,nI (by decide) fun q=>by rcases q.n with q|q;exact absurd q iq;exact absurd he (Bt q.2)⟩ rfl
   refine Sz1 wG ?_;refine Qi ((S.take i).length-(j+1)) (by omega) ⟨j+1,rfl,by omega,bR he,?_⟩;exact Tz1 fH
  obtain rfl:j=(S.take i).length:=by omega
  refine Sz0 ?_;exact dq ⟨0,rfl,fun _=>⟨dT,.inr ⟨Af.1 sW,fun j hj gP=>by
   have h3:j<(S.take i).length:=by rw[Kax];omega
   have:=aT j h3 h3
   rwa[KcW]at this⟩⟩,fun _=>rfl⟩ rfl
structure B7(S:List Q8)(G:List bD):Prop where
 s:∀i (h:i<S.length),sC i S[i]
 g:∀g∈G,fL g S.length=0
 l:S.length<=40
structure L9(S:List Q8)(G:List bD):Prop where
 ok:B7 S G
 s:∀i (h:i<S.length),Gm S i S[i]
 gl:G.length<=8
theorem HN(hN:oM){S:List Q8}{G:List bD}(hS:S.length<2^40)(hG:G.length<2^40)(hb:∀s∈S,jR s)(hg:∀g∈G,l9 g):
  Qd Tryz.prog 38 [PV.cw S G] (fun r=>∃e:Int,r= .int .i64 e/\(e=0↔L9 S G)):=by
 refine aB Qg Tryz.func38 ahy fun C hP=>?_;refine Sz0 ?_;refine Qo (fun rz=>?_) (fun rz=>?_)
 ·refine Sz0 ?_;exact dq ⟨4,rfl,nI (by decide) fun q=>absurd q.ok.l (by omega)⟩ rfl
 refine Sz0 ?_;refine Qb (fun h8=>?_) (fun h8=>?_)
 ·refine Sz0 ?_;exact dq ⟨4,rfl,nI (by decide) fun q=>absurd q.gl (by omega)⟩ rfl
 refine Sz0 ?_;refine Qn okB [(2,4),(21,31)] [] (fun m J hp=>∃i,m=S.length-i/\i<=S.length/\(∀n (h:n<S.length),n<i->Gm S n S[n])/\J 21= .int .i64 (i:Nat)/\hp 1=some ⟨2,25,[PV.cw S G],false⟩) S.length ?_ ?_
 ·refine⟨0,rfl,by omega,by omega,?_⟩;refine Sz0 ?_;rfl
 rintro _ J h ⟨i,rfl,hi,aL,uR,aZ⟩;refine Sz1 uR ?_;refine Qb (fun hc=>?_) (fun hc=>?_)
 ·have az:i<S.length:=by omega
  have hr:=aai hN hS hb az;refine Sz2 uR aZ ?_;refine fM hP hr rfl rfl rfl ?_;rintro _ ⟨e,rfl,he⟩;by_cases h0:e=0
  ·subst h0;have aO:=he.1 rfl;refine Sz2 uR aZ ?_;refine Qi (S.length-(i+1)) (by omega) ⟨i+1,rfl,by omega,fun n hn rG=>?_,?_⟩
   ·by_cases e:n=i
    ·subst e;exact aO
    ·exact aL n hn (by omega)
   exact Tz1 aZ
  ·have d:decide (¬e=0)=true:=decide_eq_true h0;refine Sz3 uR aZ d ?_;exact dq ⟨e,rfl,nI h0 fun q=>absurd (he.2 (q.s i az)) h0⟩ rfl
 obtain rfl:i=S.length:=by omega
 refine Sz1 aZ ?_;refine Qn okB [(2,2),(6,7),(35,47)] [6] (fun m J hp=>∃i,m=G.length-i/\i<=G.length/\(∀n (h:n<G.length),n<i->fL G[n] S.length=0)/\J 35= .int .i64 (i:Nat)/\hp 1=some ⟨2,25,[PV.cw S G],false⟩) G.length ?_ ?_
 ·refine⟨0,rfl,by omega,by omega,?_⟩;refine Sz1 aZ ?_;rfl
 rintro _ J2 h2 ⟨i,rfl,nu,o7,FR,aZ⟩;refine Sz1 FR ?_;refine Qb (fun hc=>?_) (fun hc=>?_)
 ·have az:i<G.length:=by omega
  have hr:=QQ (n:=S.length) (hg _ (Kah az));have bR:fL G[i] S.length=0->∀n (h:n<G.length),n<i+1->fL G[n] S.length=0:=fun h n hn rG=>by
   by_cases e:n=i
   ·subst e;exact h
   ·exact o7 n hn (by omega)
  have hgm:=Kah az;generalize hx:G[i]=x at *
  refine Sz3 FR aZ hx ?_;refine Qa hP hr rfl rfl rfl ?_;by_cases h0:fL x S.length=0
  ·have d:decide (¬fL x S.length=0)=false:=by simp[h0]
   refine Sz3 FR aZ d ?_;refine Qi (G.length-(i+1)) (by omega) ⟨i+1,rfl,by omega,bR h0,?_⟩;exact Tz1 aZ
  ·have d:decide (¬fL x S.length=0)=true:=decide_eq_true h0;refine Sz3 FR aZ d ?_;exact dq ⟨_,rfl,nI h0 fun q=>absurd (q.ok.g x hgm) h0⟩ rfl
 obtain rfl:i=G.length:=by omega
 refine Sz0 ?_;refine dq ⟨0,rfl,fun _=>⟨⟨fun i h=>(aL i h h).ok,fun g hm=>?_,by omega⟩,fun i h=>aL i h h,by omega⟩,fun _=>rfl⟩ rfl;obtain⟨n,hn,rfl⟩:=KaA hm;exact o7 n hn hn
def m9(w l:List Int)(n:Nat):Int:=w.getD (l.getD n 0).toNat 0
def iy(w:List Int)(k:Int)(l:List Int):Int:=if k=2 then m9 w l 0+m9 w l 1 else if k=3∨k=4 then m9 w l 0+m9 w l 1+m9 w l 2 else if k=5 then 2*m9 w l 0+m9 w l 1 else 1
def cJ:Q8:=⟨0,.empty,[],false,[],[]⟩
def dF(S:List Q8):Nat->List Int
 |0=>[]
 |i+1=>dF S i++[iy (dF S i) (S.getD i cJ).k (S.getD i cJ).args]
theorem qF(S:List Q8):∀n,(dF S n).length=n
 |0=>rfl
 |n+1=>by rw[dF,Kaw,qF S n];rfl
theorem afy{w l:List Int}{B:Int}(h:∀x∈w,0<=x/\x<=B)(hB:0<=B)(n:Nat):0<=m9 w l n/\m9 w l n<=B:=by
 unfold m9;rw[Kae];cases hq:w[(l.getD n 0).toNat]? with
 |none=>exact⟨Int.le_refl _,hB⟩
 |some x=>exact h x (Kaj hq)
theorem Nn(S:List Q8):∀n,∀x∈dF S n,0<=x/\x<=(4^n:Nat)
 |0,x,h=>by cases h
 | n+1,x,h=>by
  have ih:=Nn S n;have h4:4^(n+1)=4*4^n:=by rw[Kbz,KaQ]
  have hp:1<=4^n:=Nat.one_le_pow _ _ (by omega);rw[dF]at h;rcases KaM.1 h with h|h
  ·have:=ih x h;omega
  ·obtain rfl:x=iy (dF S n) (S.getD n cJ).k (S.getD n cJ).args:=by simpa using h
   have b:=fun m=>afy (l:=(S.getD n cJ).args) ih (by omega) m;have b0:=b 0;have b1:=b 1;have b2:=b 2;unfold iy
   repeat' split
   all_goals omega
theorem acy{α:Type}{f:α->PV}{fr:Fr}{hp:HP}{K:Qh}{e d:Nat}{k:IntKind}{xs:List α}(h:2<xs.length):Q7 e (.sl e (xs.map f)) (.int k 2) d fr hp K=K (ae fr d (.pt (f (xs[2]'h)).cells)) hp:=by rw[vh (by omega) (by omega)];rfl
attribute [go_sem] acy
theorem Vm{S:List Q8}{G:List bD}(hf:B7 S G)(rA:S.length<=8):Qd Tryz.prog 163 [PV.cw S G] (· =PV.mono (dF S S.length)):=by
 refine aB Qg Tryz.func163 aeR fun C hP=>?_;refine Sz0 ?_;refine oL 3 900 1 3 (by omega) Tz0 ?_;refine Qn okB [(3,83)] [82,83,900] (fun m J hp=>∃i,m=S.length-i/\i<=S.length/\J 3= .ms 900 i/\J 4= .int .i64 (i:Nat)/\hp 1=some ⟨2,25,[PV.cw S G],false⟩/\hp 900=some ⟨1,3,pU (dF S i),false⟩) S.length ?_ ?_
 ·refine⟨0,rfl,by omega,?_⟩;refine Sz0 ?_;exact⟨rfl,rfl⟩
 rintro _ J h ⟨i,rfl,hi,j3,j4,aZ,ij⟩;refine Sz2 j4 aZ ?_;refine Qb (fun hc=>?_) (fun hc=>?_)
 ·have az:i<S.length:=by omega
  have aO:=hf.s i az;have hd:S.getD i cJ=S[i]:=by rw[Kae,Kag az];rfl
  have s9:dF S (i+1)=dF S i++[iy (dF S i) S[i].k S[i].args]:=by rw[dF,hd]
  have lD:=qF S i;have Sh:=Nn S i;generalize hx:S[i]=s at *
  have h48:4^i<=4^8:=Kbu (by omega) (by omega);have bK:∀n,n<s.args.length->∃(m:Nat)(v:Int),m<i/\(∀h:n<s.args.length,s.args[n]'h=(m:Int))/\(∀h:m<(dF S i).length,(dF S i)[m]'h=v)/\m9 (dF S i) s.args n=v/\0<=v/\v<=65536:=fun n hn=>by
   have hr:=aO.r _ (Kah hn);have uH:s.args[n].toNat<(dF S i).length:=by omega
   have hv:=Sh _ (Kah uH);refine⟨s.args[n].toNat,(dF S i)[s.args[n].toNat],by omega,fun _=>by omega,fun _=>rfl,?_,hv.1,by omega⟩;unfold m9;rw[Kae,Kae,Kag hn];simp only[Kbd];rw[Kag uH];rfl
  have hlen:=aO.l;generalize dF S i=w at *
  clear aO Sh;by_cases k2:s.k=2
  ·have nw:s.args.length=2:=by rw[k2]at hlen;have:fR 2=2:=(by decide);omega
   obtain⟨m0,v0,a0,a1,a2,a3,a4,a5⟩:=bK 0 (by omega);obtain⟨m1,v1,b0,b1,b2,b3,b4,b5⟩:=bK 1 (by omega);rw[show iy w s.k s.args=v0+v1 by rw[iy,if_pos k2,a3,b3]]at s9;have d2:decide (s.k=2)=true:=decide_eq_true k2;refine y4 j3 j4 ij aZ hx d2 a1 a2 b1 b2 ?_;rw[Qz (f:=PV.int .i64) (y:=(v0+v1)) (xs:=w) (ty':=3) (fz:=false) (lf ij) bf (by omega) lD.symm (by omega) (by omega)];refine Sz2 j4 aZ ?_;refine Qi (S.length-(i+1)) (by omega) ⟨i+1,rfl,by omega,?_⟩;exact Tz3 j4 aZ s9
  by_cases k3:s.k=3∨s.k=4
  ·have nw:s.args.length=3:=by
    rcases k3 with k3|k3
    ·rw[k3]at hlen;have:fR 3=3:=by decide
     omega
    ·rw[k3]at hlen;have:fR 4=3:=by decide
     omega
   obtain⟨m0,v0,a0,a1,a2,a3,a4,a5⟩:=bK 0 (by omega);obtain⟨m1,v1,b0,b1,b2,b3,b4,b5⟩:=bK 1 (by omega);obtain⟨m2,v2,c0,c1,c2,c3,c4,c5⟩:=bK 2 (by omega);rw[show iy w s.k s.args=v0+v1+v2 by rw[iy,if_neg k2,if_pos k3,a3,b3,c3]]at s9;have d2:decide (s.k=2)=false:=decide_eq_false k2;rcases k3 with k3|k3
   ·have d3:decide (s.k=3)=true:=decide_eq_true k3;refine Sz13 j3 j4 ij aZ hx d2 d3 a1 a2 b1 b2 c1 c2 ?_;rw[Qz (f:=PV.int .i64) (y:=(v0+v1+v2)) (xs:=w) (ty':=3) (fz:=false) (lf ij) bf (by omega) lD.symm (by omega) (by omega)];refine Sz2 j4 aZ ?_;refine Qi (S.length-(i+1)) (by omega) ⟨i+1,rfl,by omega,?_⟩;exact Tz3 j4 aZ s9
   ·have d3:decide (s.k=3)=false:=decide_eq_false (by omega);have d4:decide (s.k=4)=true:=decide_eq_true k3;have dd:decide (s.k=2)=false/\decide (s.k=3)=false/\decide (s.k=4)=true:=⟨d2,d3,d4⟩
    refine vF j3 j4 ij aZ hx dd a1 a2 b1 b2 c1 c2 ?_;rw[Qz (f:=PV.int .i64) (y:=(v0+v1+v2)) (xs:=w) (ty':=3) (fz:=false) (lf ij) bf (by omega) lD.symm (by omega) (by omega)];refine Sz2 j4 aZ ?_;refine Qi (S.length-(i+1)) (by omega) ⟨i+1,rfl,by omega,?_⟩;exact Tz3 j4 aZ s9
  have dd:decide (s.k=2)=false/\decide (s.k=3)=false/\decide (s.k=4)=false:=⟨decide_eq_false k2,decide_eq_false (by omega),decide_eq_false (by omega)⟩
  by_cases k5:s.k=5
  ·have nw:s.args.length=2:=by rw[k5]at hlen;have:fR 5=2:=(by decide);omega
   obtain⟨m0,v0,a0,a1,a2,a3,a4,a5⟩:=bK 0 (by omega);obtain⟨m1,v1,b0,b1,b2,b3,b4,b5⟩:=bK 1 (by omega);rw[show iy w s.k s.args=2*v0+v1 by rw[iy,if_neg k2,if_neg k3,if_pos k5,a3,b3]]at s9;have d5:decide (s.k=5)=true:=decide_eq_true k5;refine Ci j3 j4 ij aZ hx dd d5 a1 a2 b1 b2 ?_;rw[Qz (f:=PV.int .i64) (y:=(2*v0+v1)) (xs:=w) (ty':=3) (fz:=false) (lf ij) bf (by omega) lD.symm (by omega) (by omega)];refine Sz2 j4 aZ ?_;refine Qi (S.length-(i+1)) (by omega) ⟨i+1,rfl,by omega,?_⟩;exact Tz3 j4 aZ s9
  ·rw[show iy w s.k s.args=1 by rw[iy,if_neg k2,if_neg k3,if_neg k5]]at s9;have d5:decide (s.k=5)=false:=decide_eq_false k5;refine Sz7 j3 j4 ij aZ hx dd d5 ?_;rw[Qz (f:=PV.int .i64) (y:=1) (xs:=w) (ty':=3) (fz:=false) (lf ij) bf (by omega) lD.symm (by omega) (by omega)];refine Sz2 j4 aZ ?_;refine Qi (S.length-(i+1)) (by omega) ⟨i+1,rfl,by omega,?_⟩;exact Tz3 j4 aZ s9
 obtain rfl:i=S.length:=by omega
 refine Sz1 j3 ?_;exact gj (e:=1) (ty:=3) (xs:=pU (dF S S.length)) (fz:=false) ij (by rw[Kai (by simp[qF])])
structure No(S:List Q8)(G:List bD):Prop where
 w:∀x∈dF S S.length,x<=8
 g:∀g∈G,g.k=6∨g.k=7->∀a∈g.args,(dF S S.length).getD a.toNat 0<=3
theorem Eu{g:bD}{n:Int}(h:fL g n=0):fb g.k≠0/\(g.args.length:Int)=fb g.k/\(∀a∈g.args,0<=a/\a<n)/\(if g.k=9 then ku g.n g.a g.d else oG g.n g.a g.d)=true:=by
 unfold fL at h;split at h
 ·cases h
 split at h
 ·cases h
 split at h
 ·cases h
 rename_i h1 h2 h3;by_cases h4:(if g.k=9 then ku g.n g.a g.d else oG g.n g.a g.d)=true
 ·refine⟨h1,by omega,fun a ha=>?_,h4⟩;have:¬(a<0∨n<=a):=fun hq=>h3 (KaW.2 ⟨a,ha,decide_eq_true hq⟩);omega
 ·rw[if_neg h4]at h;cases h
theorem acz{S:List Q8}{G:List bD}(hf:B7 S G)(rA:S.length<=8)(hG:G.length<2^40):Qd Tryz.prog 123 [PV.cw S G] (fun r=>∃b,r= .bool b/\(b=true->No S G)):=by
 have hw:=Vm hf rA;have lD:(dF S S.length).length=S.length:=qF S _;have im:∀x∈dF S S.length,x=x:=fun _ _=>rfl;refine aB Qg Tryz.func123 aeQ fun C hP=>?_;refine Sz0 ?_;refine Qa hP hw rfl rfl rfl ?_;obtain⟨w,FK⟩:∃w,dF S S.length=w:=⟨_,rfl⟩
 rw[FK]at lD⊢;refine Sz0 ?_;refine Qn okB [(2,2),(4,4),(10,20)] [] (fun m J hp=>∃i,m=w.length-i/\i<=w.length/\(∀n (h:n<w.length),n<i->w[n]<=8)/\J 4= .int .i64 (i:Nat)/\hp 1=some ⟨2,25,[PV.cw S G],false⟩) w.length ?_ ?_
 ·refine⟨0,rfl,by omega,by omega,?_⟩;refine Sz0 ?_;rfl
 rintro _ J h ⟨i,rfl,hi,h8,j4,aZ⟩;refine Sz1 j4 ?_;refine Qb (fun hc=>?_) (fun hc=>?_)
 ·have az:i<w.length:=by omega
  have bR:w[i]<=8->∀n (h:n<w.length),n<i+1->w[n]<=8:=fun h n hn rG=>by
   by_cases e:n=i
   ·subst e;exact h
   ·exact h8 n hn (by omega)
  generalize hx:w[i]=x at *
  refine Sz2 j4 hx ?_;refine Qb (fun hq=>?_) (fun hq=>?_)
  ·refine Sz0 ?_;exact dq ⟨false,rfl,fun h=>by cases h⟩ rfl
  refine Sz1 j4 ?_;refine Qi (w.length-(i+1)) (by omega) ⟨i+1,rfl,by omega,bR (by omega),?_⟩;exact Tz1 aZ
 obtain rfl:i=w.length:=by omega
 have aW:∀x∈w,x<=8:=fun x hx=>by obtain⟨n,hn,rfl⟩:=KaA hx;exact h8 n hn hn
 refine Sz1 aZ ?_;refine Qn okB [(2,2),(5,7),(21,58)] [6] (fun m J hp=>∃i,m=G.length-i/\i<=G.length/\(∀n (h:n<G.length),n<i->G[n].k=6∨G[n].k=7->∀a∈G[n].args,w.getD a.toNat 0<=3)/\J 5= .int .i64 (i:Nat)/\hp 1=some ⟨2,25,[PV.cw S G],false⟩) G.length ?_ ?_
 ·refine⟨0,rfl,by omega,by omega,?_⟩;refine Sz1 aZ ?_;rfl
 rintro _ J2 h2 ⟨i,rfl,nu,o7,j5,aZ⟩;refine Sz2 j5 aZ ?_;refine Qb (fun hc=>?_) (fun hc=>?_)
 ·have az:i<G.length:=by omega
  obtain⟨_,Sd,FG,_⟩:=Eu (hf.g _ (Kah az));have bR:(G[i].k=6∨G[i].k=7->∀a∈G[i].args,w.getD a.toNat 0<=3)->∀n (h:n<G.length),n<i+1->G[n].k=6∨G[n].k=7->∀a∈G[n].args,w.getD a.toNat 0<=3:=fun h n hn rG=>by
   by_cases e:n=i
   ·subst e;exact h
   ·exact o7 n hn (by omega)
  generalize hx:G[i]=g at *
  refine Sz3 j5 aZ hx ?_;have uD:g.args.length<=8:=by
   unfold fb at Sd
   repeat' split at Sd
   all_goals omega
  refine Qn okB [(2,2),(7,7),(33,58)] [] (fun m J hp=>∃j,m=g.args.length-j/\j<=g.args.length/\(∀n (h:n<g.args.length),n<j->g.k=6∨g.k=7->w.getD g.args[n].toNat 0<=3)/\J 7= .int .i64 (j:Nat)/\hp 1=some ⟨2,25,[PV.cw S G],false⟩/\hp 6=some ⟨5,103,[PV.nJ g],false⟩) g.args.length ?_ ?_
  ·refine⟨0,rfl,by omega,by omega,?_⟩;refine Sz1 aZ ?_;rfl
  rintro _ J3 h3 ⟨j,rfl,hj,SI,j7,aZ,vT⟩;refine Sz2 j7 vT ?_;refine Qb (fun eL=>?_) (fun eL=>?_)
  ·have dj:j<g.args.length:=by omega
   have uL:=FG _ (Kah dj);have oe:(g.k=6∨g.k=7->w.getD g.args[j].toNat 0<=3)->∀n (h:n<g.args.length),n<j+1->g.k=6∨g.k=7->w.getD g.args[n].toNat 0<=3:=fun h n hn rG=>by
    by_cases e:n=j
    ·subst e;exact h
    ·exact SI n hn (by omega)
   obtain⟨m,hm⟩:∃m:Nat,g.args[j]=(m:Int):=⟨g.args[j].toNat,by omega⟩
   have hmw:m<w.length:=by omega
   rw[hm,KbF,Kae,Kag hmw]at oe;simp only[Kbd]at oe;generalize hy:w[m]=y at *
   by_cases k6:g.k=6
   ·have d6:decide (g.k=6)=true:=decide_eq_true k6;refine Sz5 j7 vT d6 hm hy ?_;refine Qb (fun hq=>?_) (fun hq=>?_)
    ·refine Sz0 ?_;exact dq ⟨false,rfl,fun h=>by cases h⟩ rfl
    refine Sz1 j7 ?_;refine Qi (g.args.length-(j+1)) (by omega) ⟨j+1,rfl,by omega,oe (fun _=>by omega),?_⟩;exact Tz2 aZ vT
   have d6:decide (g.k=6)=false:=decide_eq_false k6;by_cases k7:g.k=7
   ·have d7:decide (g.k=6)=false/\decide (g.k=7)=true:=⟨d6,decide_eq_true k7⟩
    refine Sz5 j7 vT d7 hm hy ?_;refine Qb (fun hq=>?_) (fun hq=>?_)
    ·refine Sz0 ?_;exact dq ⟨false,rfl,fun h=>by cases h⟩ rfl
    refine Sz1 j7 ?_;refine Qi (g.args.length-(j+1)) (by omega) ⟨j+1,rfl,by omega,oe (fun _=>by omega),?_⟩;exact Tz2 aZ vT
   ·have d7:decide (g.k=6)=false/\decide (g.k=7)=false:=⟨d6,decide_eq_false k7⟩
    refine Sz4 j7 vT d7 hm ?_;refine Qi (g.args.length-(j+1)) (by omega) ⟨j+1,rfl,by omega,oe (fun hk=>by omega),?_⟩;exact Tz2 aZ vT
  obtain rfl:j=g.args.length:=by omega
  refine Sz1 j5 ?_;simp (disch:=decide) only[jG,pI];refine Qi (G.length-(i+1)) (by omega) ⟨i+1,rfl,by omega,bR (fun hk a ha=>?_),?_⟩
  ·obtain⟨n,hn,rfl⟩:=KaA ha;exact SI n hn hn hk
  exact Tz1 aZ
 obtain rfl:i=G.length:=by omega
 refine Sz0 ?_;refine dq ⟨true,rfl,fun _=>⟨by rw[FK];exact aW,fun g hm=>?_⟩⟩ rfl;rw[FK];obtain⟨n,hn,rfl⟩:=KaA hm;exact o7 n hn hn
structure nS(S:List Q8)(G:List bD):Prop where
 f:B7 S G
 l:S.length<=8
 gl:G.length<=3
 t:No S G
 s:∀s∈S,s.a.length<=2/\s.d.length<=2
 g:∀g∈G,g.a.length<=2/\g.d.length<=2
 o:L9 S G
theorem afz(hN:oM){S:List Q8}{G:List bD}(hS:S.length<2^40)(hG:G.length<2^40)(hb:∀s∈S,jR s)(hg:∀g∈G,l9 g):
  Qd Tryz.prog 76 [PV.cw S G] (fun r=>∃b,r= .bool b/\(b=true->nS S G)):=by
 have hR:=HN hN hS hG hb hg;refine aB Qg Tryz.func76 ahx fun C hP=>?_;refine Sz0 ?_;refine Qo (fun h8=>?_) (fun h8=>?_)
 ·refine Sz0 ?_;exact dq ⟨false,rfl,fun h=>by cases h⟩ rfl
 refine Sz0 ?_;refine Qo (fun h3=>?_) (fun h3=>?_)
 ·refine Sz0 ?_;exact dq ⟨false,rfl,fun h=>by cases h⟩ rfl
 refine Sz0 ?_;refine fM hP hR rfl rfl rfl ?_;rintro _ ⟨e,rfl,he⟩;by_cases h0:¬e=0
 ·have d:decide (¬e=0)=true:=decide_eq_true h0;refine Sz1 d ?_;exact dq ⟨false,rfl,fun h=>by cases h⟩ rfl
 obtain rfl:e=0:=by omega
 have ho:=he.1 rfl;have hf:=ho.ok;have hT:=acz hf (by omega) hG;refine Sz0 ?_;refine fM hP hT rfl rfl rfl ?_;rintro _ ⟨b,rfl,ht⟩;cases b
 ·refine Sz0 ?_;exact dq ⟨false,rfl,fun h=>by cases h⟩ rfl
 replace ht:=ht rfl;refine Sz0 ?_;refine Qn okB [(2,3),(25,52)] [] (fun m J hp=>∃i,m=S.length-i/\i<=S.length/\(∀n (h:n<S.length),n<i->S[n].a.length<=2/\S[n].d.length<=2)/\J 3= .int .i64 (i:Nat)/\hp 1=some ⟨2,25,[PV.cw S G],false⟩) S.length ?_ ?_
 ·refine⟨0,rfl,by omega,by omega,?_⟩;refine Sz0 ?_;rfl
 rintro _ J h ⟨i,rfl,hi,aL,j3,aZ⟩;refine Sz2 j3 aZ ?_;refine Qb (fun hc=>?_) (fun hc=>?_)
 ·have az:i<S.length:=by omega
  have bR:S[i].a.length<=2/\S[i].d.length<=2->∀n (h:n<S.length),n<i+1->S[n].a.length<=2/\S[n].d.length<=2:=fun h n hn rG=>by
   by_cases e:n=i
   ·subst e;exact h
   ·exact aL n hn (by omega)
  generalize hx:S[i]=s at *
  refine Sz3 j3 aZ hx ?_;refine Qo (fun q1=>?_) (fun q1=>?_)
  ·refine Sz0 ?_;exact dq ⟨false,rfl,fun h=>by cases h⟩ rfl
  refine Sz3 j3 aZ hx ?_;refine Qb (fun q2=>?_) (fun q2=>?_)
  ·refine Sz0 ?_;exact dq ⟨false,rfl,fun h=>by cases h⟩ rfl
  refine Sz1 j3 ?_;refine Qi (S.length-(i+1)) (by omega) ⟨i+1,rfl,by omega,bR ⟨by omega,by omega⟩,?_⟩;exact Tz1 aZ
 obtain rfl:i=S.length:=by omega
 refine Sz1 aZ ?_;refine Qn okB [(2,2),(4,4),(53,80)] [] (fun m J hp=>∃i,m=G.length-i/\i<=G.length/\(∀n (h:n<G.length),n<i->G[n].a.length<=2/\G[n].d.length<=2)/\J 4= .int .i64 (i:Nat)/\hp 1=some ⟨2,25,[PV.cw S G],false⟩) G.length ?_ ?_
 ·refine⟨0,rfl,by omega,by omega,?_⟩;refine Sz1 aZ ?_;rfl
 rintro _ J2 h2 ⟨i,rfl,nu,o7,j4,aZ⟩;refine Sz2 j4 aZ ?_;refine Qb (fun hc=>?_) (fun hc=>?_)
 ·have az:i<G.length:=by omega
  have bR:G[i].a.length<=2/\G[i].d.length<=2->∀n (h:n<G.length),n<i+1->G[n].a.length<=2/\G[n].d.length<=2:=fun h n hn rG=>by
   by_cases e:n=i
   ·subst e;exact h
   ·exact o7 n hn (by omega)
  generalize hx:G[i]=g at *
  refine Sz3 j4 aZ hx ?_;refine Qo (fun q1=>?_) (fun q1=>?_)
  ·refine Sz0 ?_;exact dq ⟨false,rfl,fun h=>by cases h⟩ rfl
  refine Sz3 j4 aZ hx ?_;refine Qb (fun q2=>?_) (fun q2=>?_)
  ·refine Sz0 ?_;exact dq ⟨false,rfl,fun h=>by cases h⟩ rfl
  refine Sz1 j4 ?_;refine Qi (G.length-(i+1)) (by omega) ⟨i+1,rfl,by omega,bR ⟨by omega,by omega⟩,?_⟩;exact Tz1 aZ
 obtain rfl:i=G.length:=by omega
 refine Sz0 ?_;refine dq ⟨true,rfl,fun _=>⟨hf,by omega,by omega,ht,fun s hm=>?_,fun g hm=>?_,ho⟩⟩ rfl
 ·obtain⟨n,hn,rfl⟩:=KaA hm;exact aL n hn hn
 ·obtain⟨n,hn,rfl⟩:=KaA hm;exact o7 n hn hn
open Go Go.FW Go.ChangeShapes Go.WideShapes Go.ChangeAt Go.RowKit
variable {H : Type} {enc : TypeId × Value -> H}
def AF(l:List Int):Prop:=l.length<=1048576/\∀x∈l,-9223372036854775808<=x/\x<=9223372036854775807
theorem Mw:Rd enc 60 fun ps=>∃l:List Int,ps=[PV.mono l]/\AF l:=by refine(wV (α:=Int) (f:=fun(x:Int)=>.int .i64 x) bZ Tryz.underlying60 (by rw[zG];omega) (zw Tryz.underlying3)).mono ?_;rintro ps ⟨l,rfl,h1,h2⟩;exact⟨l,by rw[zG],h1,h2⟩
instance : Inhabited bD := ⟨⟨0, [], false, [], []⟩⟩
instance : Inhabited Q8 := ⟨⟨0, .empty, [], false, [], []⟩⟩
def B8(f:bD):Prop:=AF f.args/\Raw 1048576 f.n f.a f.d
theorem afA:Rd enc 103 fun ps=>∃f:bD,ps=(PV.nJ f).cells/\B8 f:=by refine(GX (Qs:=[fun ps=>∃n:Int,ps=[.int .i64 n]/\ -9223372036854775808<=n/\n<=9223372036854775807,fun ps=>∃l:List Int,ps=[PV.mono l]/\AF l,fun ps=>∃(n:Bool)(a d:List Nat),ps=[.bool n,PV.nat a,PV.nat d]/\Raw 1048576 n a d]) bZ Tryz.underlying103 (by kernel_rfl) ⟨rfl,zw Tryz.underlying3,rfl,Mw,rfl,Gq,trivial⟩).mono ?_;rintro ps ⟨p,q,rfl,⟨k,rfl,h0⟩,p1,q1,rfl,⟨l,rfl,h1⟩,p2,q2,rfl,⟨n,a,d,rfl,h2⟩,rfl⟩;exact⟨⟨k,l,n,a,d⟩,rfl,h1,h2⟩
def Ar(s:Q8):Prop:=s.name.size<=1048576/\AF s.args/\Raw 1048576 s.n s.a s.d
theorem acA{l:List UInt8}:l.length<=Rows.uptoBulk (H:=H) (.lit (.string l)):=by simp[Rows.uptoBulk]
theorem afB:Rd enc 133 fun ps=>∃s:Q8,ps=(PV.oD s).cells/\Ar s:=by refine(GX (Qs:=[fun ps=>∃n:Int,ps=[.int .i64 n]/\ -9223372036854775808<=n/\n<=9223372036854775807,fun ps=>∃s:ByteArray,ps=[.str s]/\s.size<=1048576,fun ps=>∃l:List Int,ps=[PV.mono l]/\AF l,fun ps=>∃(n:Bool)(a d:List Nat),ps=[.bool n,PV.nat a,PV.nat d]/\Raw 1048576 n a d]) bZ Tryz.underlying133 (by kernel_rfl) ⟨rfl,zw Tryz.underlying3,rfl,UM Tryz.underlying9 (fun l=>acA),rfl,Mw,rfl,Gq,trivial⟩).mono ?_;rintro ps ⟨p,q,rfl,⟨k,rfl,h0⟩,p3,q3,rfl,⟨s,rfl,h3⟩,p1,q1,rfl,⟨l,rfl,h1⟩,p2,q2,rfl,⟨n,a,d,rfl,h2⟩,rfl⟩;exact⟨⟨k,s,l,n,a,d⟩,rfl,h3,h1,h2⟩
theorem Pz:Tryz.prog.cellsOf 103=5:=by kernel_rfl
theorem PA:Tryz.prog.cellsOf 133=6:=by kernel_rfl
def Gn(G:List bD):Prop:=G.length<=1048576/\∀g∈G,B8 g
def Ih(S:List Q8)(G:List bD):Prop:=(S.length<=1048576/\∀s∈S,Ar s)/\Gn G
theorem acB:Rd enc 23 fun ps=>∃G:List bD,ps=[.sl 5 (G.map PV.nJ)]/\Gn G:=by refine(wV (α:=bD) (f:=PV.nJ) (G:=B8) bZ Tryz.underlying23 (by rw[Pz];omega) afA).mono ?_;rintro ps ⟨l,rfl,h1,h2⟩;exact⟨l,by rw[Pz],h1,h2⟩
theorem aaj:Rd enc 25 fun ps=>∃(S:List Q8)(G:List bD),ps=(PV.cw S G).cells/\Ih S G:=by
 refine(GX (Qs:=[fun ps=>∃l:List Q8,ps=[.sl 6 (l.map PV.oD)]/\l.length<=1048576/\∀s∈l,Ar s,fun ps=>∃G:List bD,ps=[.sl 5 (G.map PV.nJ)]/\Gn G]) bZ Tryz.underlying25 (by kernel_rfl) ⟨rfl,?_,rfl,acB,trivial⟩).mono ?_
 ·refine(wV (α:=Q8) (f:=PV.oD) (G:=Ar) bZ Tryz.underlying22 (by rw[PA];omega) afB).mono ?_;rintro ps ⟨l,rfl,h1,h2⟩;exact⟨l,by rw[PA],h1,h2⟩
 rintro ps ⟨p,q,rfl,⟨S,rfl,h1⟩,p2,q2,rfl,⟨G,rfl,h2⟩,rfl⟩;exact⟨S,G,rfl,h1,h2⟩
variable {w : World} {base : Nat} {spare : Nat -> Bool} {held : Bool} {r : Reach} {b0 : Nat} {v : Value} {d : DataW H} {ps : List MemPlace}
theorem Xe(dH:Value.okWide Tryz.prog w r b0 25 v)(hd:DataW.Trod enc Tryz.prog w base spare held 25 v d ps)(hn:Rows.uptoBulk d<=1048576):∃S G,Q6 w cg (PV.cw S G) v/\Ih S G:=by obtain⟨p,⟨S,G,rfl,h⟩,h2⟩:=Wl Tryz.underlying25 dH aaj hd hn;exact⟨S,G,h2,h⟩
theorem aiv{f:bD}(h:B8 f):l9 f:=⟨by have:=h.1.1;omega,h.2⟩
theorem aiw{s:Q8}(h:Ar s):jR s:=⟨by have:=h.1;omega,by have:=h.2.1.1;omega,h.2.2⟩
end Go.Proofs.YtccppnepkfbpkaaGreat
namespace Go.Proofs.YtccppnepkfbpkaaGreat
open Go Go.FW
def IK:ay:=⟨63,[.t 2],Zr (Ye 2)<| .seq (Zr (Yq 5 0<|
 gK 7 6 6)<| .cond (.t 7) (Zr (Ye 2) .ret) .skip)<| .seq (Zr (Yi 3 0)<| .block 0<| .loop<| .seq (Zr (YK 8 3 0)<| .cond (.t 11) .skip (.exit 0))<| .seq (.block 1<| .seq (Zr (jq 14 0 3<|
 YT 17 3 16<|
 Zk 20 .gtr 19 4<|
 vI 21 20 0<|
 AI 21 0 1<|
 vI 32 31 0<|
 Zg 32 false (.cc 37 2 (.t 36))<|
 Zg 32 false (.ld 38 1 false (.t 37))<|
 Zg 32 false (.len 39 (.t 38))<|
 Zg 32 false (.bin 40 .gtr false (.t 39) (.c (Zz 2)))<|
 ep 41 32 40)<| .cond (.t 41) (Zr (Ye 2) .ret) .skip)<|Zr (Yi 4 0)<| .block 2<| .loop<| .seq (Zr (de 42 4 0 3<|
 Zi 45 4 43 44<|
 YT 46 3 45<|
 Yu 49 42 48)<| .cond (.t 49) .skip (.exit 2))<| .seq (.block 3<|Zr (jq 52 0 3<|
 jS 55 3 54 4<|
 gK 60 59 4)<| .cond (.t 60) (Zr (Ye 2) .ret) .skip)<| .rg (YX 50 4))<| .rg (Zm 12 3<|
 YE 13 12 3))<|Zr (YH 61 0 26<|
 Yc 2 62) .ret⟩
theorem aix:Qe Tryz.prog Tryz.f10=some IK:=by kernel_rfl
def c98:ay:=⟨19,[.t 6,.t 7],Zr (fo 6 0)<| .seq (Zr (Zm 8 2<|
 Yi 9 0)<| .block 0<| .loop<|Zr (Yu 10 9 8)<| .seq (.cond (.t 10) .skip (.exit 0))<| .seq (.block 1<|Zr (er 11 0 1 149<|
 Yc 0 13)<|Zr (Yq 14 0<|
 gK 16 15 4000)<| .cond (.t 16) (Zr (fo 6 4) .ret) .skip)<| .rg (YE 17 9 9))<|Zr (Zm 18 0<|
 Zm 6 18<|
 Yi 7 0) .ret⟩
theorem aiy:Qe Tryz.prog Tryz.f98=some c98:=by kernel_rfl
def c99:ay:=⟨34,[.t 4,.t 5],Zr (fo 4 0)<| .seq (Zr (jr 8<|
 Zb 12 .neq 9 11 .nil)<| .cond (.t 12) (Zr (fo 4 16) .ret) .skip)<|Zr (YG 6)<| .seq (Zr (eT 13 1)<| .block 0<| .loop<|Zr (Yu 16 15 14)<| .seq (.cond (.t 16) .skip (.exit 0))<| .seq (.block 1<|Zr (Zm 17 15<|
 Zm 7 17 .nil)<|Zr (de 18 6 0 7<|
 Yo 21 19 20<|
 fE 23 1 7<|
 Yl 27 149 22 26<|
 Yl 28 150 18 27<|
 Yc 6 28)<|Zr (Yq 29 6<|
 gK 31 30 4000)<| .cond (.t 31) (Zr (fo 4 4) .ret) .skip)<| .rg (Yz 32 15 15))<|Zr (Zm 33 6<|
 Zm 4 33<|
 Yi 5 0) .ret⟩
theorem aiz:Qe Tryz.prog Tryz.f99=some c99:=by kernel_rfl
def c97:ay:=⟨56,[.t 4,.t 5],Zr (fo 4 0)<| .seq (Zr (jr 12<|
 Zb 16 .neq 13 15 .nil)<| .cond (.t 16) (Zr (fo 4 16) .ret) .skip)<| .seq (Zr (eT 17 1)<| .block 0<| .loop<|Zr (Yu 20 19 18)<| .seq (.cond (.t 20) .skip (.exit 0))<| .seq (.block 1<|Zr (Yo 21 17 19<|
 Yc 7 22)<|Zr (iX 23 7<|
 ri 25 24 7 64<|
 ep 28 25 27)<| .cond (.t 28) (Zr (fo 4 2) .ret) .skip)<| .rg (YE 29 19 19))<|Zr (Zq 30 false 90 [.c (Zz 1)]<|
 Yn 31 148 30<|
 Yc 8 31)<| .seq (Zr (eT 32 0)<| .block 2<| .loop<|Zr (Yu 35 34 33)<| .seq (.cond (.t 35) .skip (.exit 2))<| .seq (.block 3<|Zr (dn 36 34 9)<|Zr (de 38 8 0 9<|
 Yo 41 39 40<|
 fE 43 1 9<|
 Zq 47 false 98 [.t 38,.t 42,.t 46]<|
 Zm 37 47<|
 Yd 48 37<|
 dS 10 48 49)<| .seq (Zr (YW 50 11)<| .cond (.t 51) (Zr (Zm 52 11<|
 Yj 4<|
 Yc 5 52) .ret) .skip)<| .rg (dn 53 10 8))<| .rg (Yz 54 34 34))<|Zr (Zm 55 8<|
 Zm 4 55<|
 Yi 5 0) .ret⟩
theorem aiA:Qe Tryz.prog Tryz.f97=some c97:=by kernel_rfl
def c52:ay:=⟨73,[.t 6],Zr (YZ 3 62 0<|
 Yi 6 0)<|Zr (cF 13 0 3 1 3<|
 YV 17 97 14 16 12<|
 Zm 7 18<|
 Zm 8 19 .nil)<| .seq (Zr (YW 20 8)<| .cond (.t 21) (Zr (dn 22 8 6) .ret) .skip)<| .seq (Zr (YT 23 0 3<|
 Yi 26 0)<| .block 0<| .loop<|Zr (Yu 27 26 25)<| .seq (.cond (.t 27) .skip (.exit 0))<| .seq (.block 1<|Zr (Yo 28 24 26<|
 Yc 10 29)<|Zr (Yq 30 10<|
 gp 32 31 0)<| .cond (.t 32) (Zr (Yi 6 3) .ret) .skip)<| .rg (YE 33 26 26))<| .seq (Zr (Yb 34 2 3<|
 Zk 36 .lss 35 1<|
 Yx 37 36 2 3<|
 Zg 37 false (.bin 40 .gtr false (.t 39) (.c (Zz 64)))<|
 ep 41 37 40)<| .cond (.t 41) (Zr (Yi 6 2) .ret) .skip)<| .seq (Zr (YT 42 3 3<|
 Yq 45 1<|
 Zb 47 .neq 44 46 .nil)<| .cond (.t 47) (Zr (Yi 6 16) .ret) .skip)<| .seq (Zr (Yf 49 7 2<|
 Yb 51 2 3<|
 Zq 53 false 98 [.t 49,.t 50,.t 52]<|
 Zm 48 53<|
 Yd 54 48<|
 dS 7 54 55)<|Zr (YW 56 8)<| .cond (.t 57) (Zr (dn 58 8 6) .ret) .skip)<|Zr (dC 60 3 3 1<|
 YV 63 99 61 62 59<|
 Zm 11 64<|
 Yc 8 65)<| .seq (Zr (YW 66 8)<| .cond (.t 67) (Zr (dn 68 8 6) .ret) .skip)<| .seq (Zr (er 69 7 11 28<|
 Zu 72 71 .nil)<| .cond (.t 72) (Zr (Yi 6 17) .ret) .skip)<|Zr (Yi 6 0) .ret⟩
theorem ah2:Qe Tryz.prog Tryz.f52=some c52:=by kernel_rfl
def c22:ay:=⟨58,[.t 2],Zr (YG 2)<|Zr (YG 3)<| .seq (Zr (eT 11 0)<| .block 0<| .loop<|Zr (Yu 14 13 12)<| .seq (.cond (.t 14) .skip (.exit 0))<| .seq (.block 1<|Zr (YM 15 4 11 13<|
 Zo (.alloc 5 4 62 (.agg [.aa,.aa,Zz 0,.aa]))<|
 Zs 4 5 16 .nil)<|Zr (YT 17 0 5<|
 Yi 20 0)<| .block 2<| .loop<|Zr (Yu 21 20 19)<| .seq (.cond (.t 21) .skip (.exit 2))<| .seq (.block 3<|Zr (qb 22 20 18 6)<| .seq (Zr (jS 25 1 5 6<|
 Zk 30 .lss 29 1<|
 Yw 31 30 7<|
 Zg 31 false (.call (some 33) false (.c (.fn 50 [] [])) [.t 32])<|
 Zg 31 false (.bin 34 .lss false (.t 33) (.c (Zz 1)))<|
 ep 35 31 34)<| .cond (.t 35) (.exit 3) .skip)<|Zr (Ye 8)<| .seq (Zr (eT 36 3)<| .block 4<| .loop<|Zr (Yu 39 38 37)<| .seq (.cond (.t 39) .skip (.exit 4))<| .seq (.block 5<|Zr (Yo 40 36 38<|
 Yc 10 41)<| .rg (Zm 42 8<|
 oa 43 42 7 10<|
 Zg 43 false (.call (some 46) false (.c (.fn 28 [] [])) [.t 44,.t 45])<|
 Yh 47 43 46<|
 Yc 8 47))<| .rg (YE 48 38 38))<|Zr (Zm 49 8<|
 Zu 50 49 .nil)<| .cond (.t 50) (.rg (Yf 51 3 7<|
 YB 53 1 43 52 24 51<|
 Yc 3 54)) .skip)<| .rg (Yz 55 20 20))<| .rg (Yz 56 13 13))<|Zr (dn 57 3 2) .ret⟩
theorem ah3:Qe Tryz.prog Tryz.f22=some c22:=by kernel_rfl
def c21:ay:=⟨35,[.t 4,.t 5],Zr (Zo (.mv 4 (.c (.bool false)))<|
 Yi 5 0)<|Zr (YL 6)<| .seq (Zr (Zm 11 0<|
 Zq 12 false 22 [.t 11]<|
 Zn 13 12<|
 Yi 14 0)<| .block 0<| .loop<|Zr (Yu 15 14 13)<| .seq (.cond (.t 15) .skip (.exit 0))<| .seq (.block 1<|Zr (Yo 16 12 14<|
 Zm 8 17 .nil)<|Zr (Yf 19 8 1<|
 YV 21 48 19 20 18<|
 Yr 9<|
 Zs 3 9 22<|
 Yc 10 23)<| .seq (Zr (YW 24 10)<| .cond (.t 25) (Zr (Zm 26 10<|
 Zo (.mv 4 (.c (.bool false)))<|
 Yc 5 26) .ret) .skip)<| .rg (Zm 27 6<|
 Zm 28 27<|
 Zg 28 true (.ld 29 3 true (.t 9))<|
 vL 28 49<|
 Zg 28 true (.bin 31 .neq false (.t 30) (.c (Zz 0)))<|
 Yk 32 28 31<|
 Yc 6 32))<| .rg (Yz 33 14 14))<|Zr (Zm 34 6<|
 Zm 4 34<|
 Yi 5 0) .ret⟩
theorem ah4:Qe Tryz.prog Tryz.f21=some c21:=by kernel_rfl
def IM:ay:=⟨43,[.t 4,.t 5],Zr (Zo (.box 2 7 34 (.t 0))<|
 Zc 4 0<|
 Ye 5)<| .seq (Zr (Yq 10 1<|
 gp 12 11 0)<| .cond (.t 12) (Zr (Zc 4 0<|
 Ye 5) .ret) .skip)<| .seq (Zr (YT 13 5 2<|
 Yi 16 0)<| .block 0<| .loop<|Zr (Yu 17 16 15)<| .seq (.cond (.t 17) .skip (.exit 0))<| .seq (.block 1<|Zr (Zm 18 16<|
 Yo 19 14 16<|
 Zm 6 18<|
 Yc 7 20)<| .seq (Zr (Yq 21 7<|
 gp 23 22 0)<| .cond (.t 23) (.exit 1) .skip)<|Zr (YO 25 7 4 0<|
 dY 27 26 3<|
 YO 29 1 4 0<|
 dY 31 30 3<|
 .br (Ym 33 27 28 32<|
 Zm 24 33<|
 Yd 34 24<|
 Yr 8<|
 Zs 3 8 34<|
 Yc 9 35) (Yr 8<|
 Ym 33 27 28 32<|
 Zm 24 33<|
 Yd 34 24<|
 Zs 3 8 34<|
 Yc 9 35))<|Zr (Yf 36 7 1<|
 Zh 38 3 8<|
 Yl 39 29 37 38<|
 Yl 40 28 36 39 .nil)<| .cond (.t 40) (Zr (Zm 41 6<|
 Zm 4 41<|
 YL 5) .ret) .skip)<| .rg (Yz 42 16 16))<|Zr (Zc 4 0<|
 Ye 5) .ret⟩
theorem Np:Qe Tryz.prog Tryz.f11=some IM:=by kernel_rfl
def c8:ay:=⟨62,[.t 6],Zr (Zo (.box 3 7 34 (.t 0))<|
 Yi 6 0)<| .seq (Zr (iX 10 1<|
 yd 12 11 1 6 3 .nil)<| .cond (.t 18) (Zr (Yi 6 2) .ret) .skip)<| .seq (Zr (Yq 19 2<|
 jS 21 6 3 1<|
 Zn 26 25<|
 Zb 27 .neq 20 26 .nil)<| .cond (.t 27) (Zr (Yi 6 16) .ret) .skip)<| .seq (Zr (eT 28 2)<| .block 0<| .loop<|Zr (Yu 31 30 29)<| .seq (.cond (.t 31) .skip (.exit 0))<| .seq (.block 1<|Zr (Zm 32 30<|
 YM 33 4 28 30<|
 Zo (.alloc 8 4 62 (.agg [.aa,.aa,Zz 0,.aa]))<|
 Zm 7 32<|
 Zs 4 8 34 .nil)<|Zr (Zh 35 7 3<|
 jS 36 6 3 1<|
 Zm 41 7<|
 Yo 42 40 41<|
 Zh 44 4 8<|
 .br (Zq 45 true 23 [.t 35,.t 43,.t 44]<|
 Zo (.alloc 9 4 72 (.agg [Zz 0,Zz 0,Zz 0,Zz 0]))<|
 Zs 4 9 45 .nil) (Zo (.alloc 9 4 72 (.agg [Zz 0,Zz 0,Zz 0,Zz 0]))<|
 Zq 45 true 23 [.t 35,.t 43,.t 44]<|
 Zs 4 9 45 .nil))<| .seq (Zr (n8 46 2 9 0<|
 Zh 47 2 46<|
 n8 48 2 9 1<|
 Zh 49 2 48<|
 Zo (.eqs 50 false (.t 47) (.t 49)) .nil)<| .cond (.t 50) (.exit 1) .skip)<| .seq (Zr (n8 51 2 9 1<|
 Yb 52 0 51<|
 Zk 54 .neq 53 0 .nil)<| .cond (.t 54) (Zr (n8 55 2 9 1<|
 Yb 56 0 55<|
 Yc 6 57) .ret) .skip)<|Zr (n8 58 2 9 1<|
 Yb 59 1 58<|
 Yc 6 60) .ret)<| .rg (Yz 61 30 30))<|Zr (Yi 6 0) .ret⟩
theorem GL:Qe Tryz.prog Tryz.f8=some c8:=by kernel_rfl
def c23:ay:=⟨22,[.cell 6 4 true],Zr (Zo (.box 3 7 34 (.t 0))<|
 Zo (.box 5 4 62 (.t 2))<|
 Zo (.alloc 6 4 72 (.agg [Zz 0,Zz 0,Zz 0,Zz 0])) .nil)<|Zr (Zo (.alloc 7 4 72 (.agg [Zz 0,Zz 0,Zz 0,Zz 0])) .nil)<| .seq (Zr (fm 8 4 5 51<|
 Zu 10 9 .nil)<| .cond (.t 10) (Zr (n8 11 2 7 1<|
 Zf 12 0 11<|
 Zo (.st 1 (.t 12) (.c (Zz 1))) .nil)<|Zr (Zh 13 4 7<|
 Zs 4 6 13 .nil) .ret) .skip)<|Zr (Zh 14 4 5<|
 dC 15 4 3 1<|
 Zq 18 false 52 [.t 14,.t 16,.t 17]<|
 n8 19 2 7 1<|
 Zf 20 1 19<|
 Zs 1 20 18 .nil)<|Zr (Zh 21 4 7<|
 Zs 4 6 21 .nil) .ret⟩
theorem ah5:Qe Tryz.prog Tryz.f23=some c23:=by kernel_rfl
def c51:ay:=⟨68,[.t 2],Zr (Zo (.box 1 4 62 (.t 0))<|
 Ye 2)<| .seq (Zr (YT 7 1 1<|
 YT 10 0 1<|
 Zb 13 .neq 9 12<|
 Yx 14 13 2 1<|
 Zg 14 false (.bin 17 .lss false (.t 16) (.c (Zz 1)))<|
 Yh 18 14 17<|
 Yx 19 18 2 1<|
 Zg 19 false (.bin 22 .gtr false (.t 21) (.c (Zz 64)))<|
 ep 23 19 22)<| .cond (.t 23) (Zr (Ye 2) .ret) .skip)<| .seq (Zr (YT 24 0 1<|
 Yi 27 0)<| .block 0<| .loop<|Zr (Yu 28 27 26)<| .seq (.cond (.t 28) .skip (.exit 0))<| .seq (.block 1<|Zr (qb 29 27 25 3)<|Zr (jS 32 1 1 3<|
 Zk 37 .lss 36 0<|
 Yx 38 37 1 1<|
 Zg 38 false (.mv 41 (.t 3))<|
 Zg 38 false (.idx 42 1 (.t 40) (.t 41))<|
 Zg 38 false (.ld 43 1 false (.t 42))<|
 Zg 38 false (.bin 44 .gtr false (.t 43) (.c (Zz 64)))<|
 Yh 45 38 44<|
 Yw 46 45 4<|
 Zg 46 false (.len 48 (.t 47))<|
 Zg 46 false (.bin 49 .eql false (.t 48) (.c (Zz 0)))<|
 Yh 50 46 49<|
 Yw 51 50 4<|
 xZ 51 96 .nil)<| .cond (.t 55) (Zr (Ye 2) .ret) .skip)<| .rg (Yz 56 27 27))<| .seq (Zr (YT 57 3 1<|
 Yi 60 0)<| .block 2<| .loop<|Zr (Yu 61 60 59)<| .seq (.cond (.t 61) .skip (.exit 2))<| .seq (.block 3<|Zr (Yo 62 58 60<|
 Yc 6 63)<|Zr (YH 64 6 96<|
 Zu 66 65 .nil)<| .cond (.t 66) (Zr (Ye 2) .ret) .skip)<| .rg (YE 67 60 60))<|Zr (YL 2) .ret⟩
theorem ah6:Qe Tryz.prog Tryz.f51=some c51:=by kernel_rfl
def alL:ay:=⟨6,[.t 2],Zr (YG 2)<|Zr (er 3 0 0 46<|
 Zm 2 5 .nil) .ret⟩
theorem afC:Qe Tryz.prog Tryz.f186=some alL:=by kernel_rfl
def c85:ay:=⟨18,[.t 4,.t 5],Zr (fp 2 30 0<|
 Yj 4<|
 YG 5)<|Zr (fG 7 2 2 1<|
 Yl 9 138 7 8<|
 Zq 10 false 18 [.t 9]<|
 Zm 6 10 .nil)<|Zr (Zq 11 false 14 [.c (Zz 1)]<|
 Zq 12 false 20 [.t 11]<|
 Yf 13 6 6<|
 Zq 15 false 19 [.t 13,.t 14]<|
 Yl 16 46 12 15<|
 Zm 17 6<|
 Zm 4 16<|
 Zm 5 17 .nil) .ret⟩
theorem ah7:Qe Tryz.prog Tryz.f85=some c85:=by kernel_rfl
def ak2:ay:=⟨22,[.t 4],Zr (fp 2 30 0<|
 Yi 4 0)<| .seq (Zr (Yi 5 0)<| .block 0<| .loop<| .seq (Zr (nh 6 5 1 2)<| .cond (.t 10) .skip (.exit 0))<| .seq (.block 1<|Zr (dC 13 1 2 5<|
 Zi 16 3 14 15<|
 dC 17 1 16 1<|
 Zb 20 .eql 18 19 .nil)<| .cond (.t 20) (Zr (dn 21 5 4) .ret) .skip)<| .rg (Zm 11 5<|
 YE 12 11 5))<|Zr (Yi 4 0) .ret⟩
theorem afD:Qe Tryz.prog Tryz.f138=some ak2:=by kernel_rfl
def alu:ay:=⟨55,[.t 10],Zr (YI 5 30 0<|
 YI 7 135 2<|
 YI 8 135 3<|
 YI 9 135 4<|
 YG 10)<|Zr (fG 15 2 5 1<|
 YV 17 85 15 16 14<|
 Zm 11 18<|
 Zm 12 19 .nil)<|Zr (cF 20 0 7 0 8<|
 Zm 25 12<|
 cF 26 1 7 1 8<|
 Ym 24 137 21 23<|
 eD 30 137 27 29 19 25<|
 Ym 32 46 24 31<|
 ek 33 186 32<|
 Yc 13 33)<|Zr (Zm 34 11<|
 cF 35 0 9 0 8<|
 Zm 41 13<|
 Zm 43 11<|
 cF 44 1 9 1 8<|
 Yf 50 12 13<|
 eD 39 137 36 38 19 34<|
 Ym 42 137 40 41<|
 eD 48 137 45 47 19 43<|
 eD 52 19 50 51 137 49<|
 rq 54 42 53 10) .ret⟩
theorem afE:Qe Tryz.prog Tryz.f167=some alu:=by kernel_rfl
def alv:ay:=⟨51,[.t 8],Zr (YI 4 135 0<|
 YI 5 135 1<|
 YI 6 135 2<|
 YI 7 135 3<|
 YG 8)<|Zr (YN 11 4 5<|
 YN 14 4 6<|
 YN 16 4 5<|
 Ym 13 83 11 12<|
 Zq 18 true 136 [.t 14,.t 15,.t 16,.t 17]<|
 ek 19 186 18<|
 Zm 9 13<|
 Zm 10 19 .nil)<|Zr (Zm 20 9<|
 cF 21 0 7 0 4<|
 Zm 27 10<|
 cF 28 0 5 0 4<|
 Zm 35 9<|
 cF 36 1 7 1 4<|
 Zm 42 10<|
 cF 43 1 5 1 4<|
 eD 25 137 22 24 19 20<|
 eD 32 137 29 31 19 27<|
 Ym 34 137 26 33<|
 eD 40 137 37 39 19 35<|
 eD 47 137 44 46 19 42<|
 Ym 49 137 41 48<|
 rq 50 34 49 8) .ret⟩
theorem afF:Qe Tryz.prog Tryz.f168=some alv:=by kernel_rfl
def akW:ay:=⟨149,[.t 16],Zr (YI 8 25 0<|
 YI 9 30 1<|
 YI 11 135 3<|
 YI 12 135 4<|
 YI 13 135 5<|
 YI 14 135 6<|
 YI 15 135 7<|
 YG 16)<| .seq (Zr (dC 17 0 8 2<|
 Zi 20 6 18 19<|
 Yb 21 0 20 .nil)<| .block 0<|Zr (Ys 24 22 6 23)<| .cond (.t 23) (Zr (fG 25 2 9 2<|
 YN 27 11 12<|
 Zh 29 2 15<|
 Zq 30 false 167 [.t 25,.t 26,.t 27,.t 28,.t 29]<|
 Yc 16 30) .ret) (Zr (Ys 32 22 7 31)<| .cond (.t 31) (Zr (YN 33 12 13<|
 YN 35 12 15<|
 YN 38 12 13<|
 YN 40 11 15<|
 Zq 37 true 84 [.t 33,.t 34,.t 35,.t 36]<|
 Zq 42 true 136 [.t 38,.t 39,.t 40,.t 41]<|
 Zo (.bs 43 1 43 [.t 37,.t 42])<|
 Yc 16 43) .ret) (Zr (Ys 45 22 8 44)<| .cond (.t 44) (Zr (YN 46 12 13<|
 YN 48 11 15<|
 YN 51 12 13<|
 YN 53 12 11<|
 YN 56 12 13<|
 YN 58 12 15<|
 Zq 50 true 136 [.t 46,.t 47,.t 48,.t 49]<|
 Zq 55 true 84 [.t 51,.t 52,.t 53,.t 54]<|
 Zq 60 true 84 [.t 56,.t 57,.t 58,.t 59]<|
 Ym 61 46 55 60<|
 rq 62 50 61 16) .ret) (Zr (Ys 64 22 9 63)<| .cond (.t 63) (Zr (YN 65 11 12<|
 YN 67 11 15<|
 YN 70 13 14<|
 YN 72 13 15<|
 Zq 69 true 84 [.t 65,.t 66,.t 67,.t 68]<|
 Zq 74 true 84 [.t 70,.t 71,.t 72,.t 73]<|
 rq 75 69 74 16) .ret) (Zr (Ys 77 22 10 76)<| .cond (.t 76) (Zr (YN 78 11 12<|
 YN 80 13 15<|
 Zq 82 false 168 [.t 78,.t 79,.t 80,.t 81]<|
 Yc 16 82) .ret) (Zr (Ys 84 22 11 83)<| .cond (.t 83) (Zr (YN 85 11 15<|
 YN 88 12 15<|
 YN 92 11 15<|
 YN 95 13 15<|
 Ym 87 83 85 86<|
 eD 90 83 88 89 137 87<|
 Ym 94 83 92 93<|
 eD 97 83 95 96 137 94<|
 rq 99 91 98 16) .ret) (Zr (Ys 101 22 12 100)<| .cond (.t 100) (Zr (YN 102 11 12<|
 YN 104 11 15<|
 YN 107 13 15<|
 YN 110 13 14<|
 Zq 106 true 84 [.t 102,.t 103,.t 104,.t 105]<|
 Ym 109 83 107 108<|
 eD 112 83 110 111 137 109<|
 rq 114 106 113 16) .ret) (Zr (Ys 116 22 13 115)<| .cond (.t 115) (Zr (YN 117 11 15<|
 YN 120 11 12<|
 YN 124 13 15<|
 YN 127 13 14<|
 Ym 119 83 117 118<|
 eD 122 83 120 121 137 119<|
 Ym 126 83 124 125<|
 Ym 129 83 127 128<|
 Zq 130 true 137 [.t 126,.t 129]<|
 rq 131 123 130 16) .ret) (Zr (Ys 133 22 14 132)<| .cond (.t 132) (Zr (YN 134 11 15<|
 YN 137 11 12<|
 YN 141 12 15<|
 YN 144 11 12<|
 Ym 136 83 134 135<|
 eD 139 83 137 138 137 136<|
 Ym 143 83 141 142<|
 eD 146 83 144 145 137 143<|
 rq 148 140 147 16) .ret) .skip)))))))))<|Zr (YG 16) .ret⟩
theorem qO:Qe Tryz.prog Tryz.f129=some akW:=by kernel_rfl
def c79:ay:=⟨73,[.t 6,.t 7],Zr (YI 3 25 0<|
 YI 4 30 1<|
 fo 6 0)<| .seq (Zr (iX 10 2<|
 yd 12 11 2 0 3<|
 yd 19 18 2 0 4 .nil)<| .cond (.t 25) (Zr (fo 6 2) .ret) .skip)<|Zr (Zo (.alloc 8 8 167 (.agg [.aa,.aa,.aa,.aa,.aa,.aa,.aa,.aa])) .nil)<| .seq (Zr (Yi 9 0)<| .block 0<| .loop<| .seq (Zr (Zm 26 9<|
 dC 27 0 3 2<|
 Zi 30 6 28 29<|
 YT 31 2 30<|
 Zb 34 .lss 26 33<|
 YJ 35 34 9<|
 Zg 35 true (.bin 37 .lss false (.t 36) (.c (Zz 4)))<|
 Yk 38 35 37 .nil)<| .cond (.t 38) .skip (.exit 0))<| .seq (.block 1<| .rg (Zm 41 9<|
 Yb 42 0 4<|
 dC 44 0 3 2<|
 Zi 47 6 45 46<|
 jS 48 2 47 9<|
 YM 53 2 43 52<|
 Zo (.wE 55 4 2 (.t 8) (.t 41))<|
 Zs 2 55 54 .nil))<| .rg (YX 39 9))<|Zr (YN 56 3 4<|
 Zm 58 2<|
 n8 59 4 8 0<|
 Zh 60 2 59<|
 n8 61 4 8 1<|
 Zh 62 2 61<|
 n8 63 4 8 2<|
 Zh 64 2 63<|
 n8 65 4 8 3<|
 Zh 66 2 65<|
 dC 67 0 4 2<|
 YM 70 2 68 69<|
 Zq 72 false 129 [.t 56,.t 57,.t 58,.t 60,.t 62,.t 64,.t 66,.t 71]<|
 Zm 6 72<|
 Yi 7 0) .ret⟩
theorem ah8:Qe Tryz.prog Tryz.f79=some c79:=by kernel_rfl
def c39:ay:=⟨49,[.t 2,.t 3],Zr (YZ 1 25 0<|
 fo 2 0)<|Zr (fm 12 2 1 40<|
 Zm 11 13<|
 Yd 14 11<|
 YS 4 30<|
 Zs 2 4 14<|
 Zm 5 15 .nil)<| .seq (Zr (YW 16 5)<| .cond (.t 17) (Zr (Zm 18 5<|
 Yj 2<|
 Yc 3 18) .ret) .skip)<|Zr (YG 6)<| .seq (Zr (Yi 7 0)<| .block 0<| .loop<| .seq (Zr (nh 19 7 0 1)<| .cond (.t 23) .skip (.exit 0))<| .seq (.block 1<|Zr (YN 27 1 4<|
 Zm 29 7<|
 Zq 30 false 79 [.t 27,.t 28,.t 29]<|
 Zm 26 30<|
 Yd 31 26<|
 dS 8 31 32)<| .seq (Zr (Yi 10 0)<| .block 2<| .loop<| .seq (Zr (YK 33 10 8)<| .cond (.t 36) .skip (.exit 2))<| .seq (.block 3<|Zr (fE 39 8 10<|
 Zn 43 42<|
 gK 44 43 4000)<| .cond (.t 44) (Zr (fo 2 4) .ret) .skip)<| .rg (YX 37 10))<| .rg (Yf 45 6 8<|
 Zo (.app 47 1 24 43 (.t 45) (.t 46))<|
 Yc 6 47))<| .rg (YX 24 7))<|Zr (Zm 48 6<|
 Zm 2 48<|
 Yi 3 0) .ret⟩
theorem ah9:Qe Tryz.prog Tryz.f39=some c39:=by kernel_rfl
def akZ:ay:=⟨45,[.t 4],Zr (YZ 2 100 0<|
 fp 3 100 1<|
 Ye 4)<| .seq (Zr (cF 6 0 2 0 3<|
 Zb 10 .neq 7 9<|
 Yx 11 10 2 2<|
 Zg 11 false (.cc 14 2 (.t 3))<|
 Zg 11 false (.ld 15 1 false (.t 14))<|
 Zg 11 false (.bin 16 .neq false (.t 13) (.t 15))<|
 Yh 17 11 16<|
 Yx 18 17 1 2<|
 Zg 18 false (.len 21 (.t 20))<|
 Zg 18 false (.cc 22 1 (.t 3))<|
 Zg 18 false (.ld 23 1 false (.t 22))<|
 Zg 18 false (.len 24 (.t 23))<|
 Zg 18 false (.bin 25 .neq false (.t 21) (.t 24))<|
 ep 26 18 25)<| .cond (.t 26) (Zr (Ye 4) .ret) .skip)<| .seq (Zr (Yi 5 0)<| .block 0<| .loop<| .seq (Zr (nh 27 5 1 2)<| .cond (.t 31) .skip (.exit 0))<| .seq (.block 1<|Zr (jS 34 1 2 5<|
 jS 39 1 3 5<|
 Zb 44 .neq 38 43 .nil)<| .cond (.t 44) (Zr (Ye 4) .ret) .skip)<| .rg (YX 32 5))<|Zr (YL 4) .ret⟩
theorem afG:Qe Tryz.prog Tryz.f135=some akZ:=by kernel_rfl
def c82:ay:=⟨31,[.t 4],Zr (YZ 2 100 0<|
 YI 3 25 1<|
 Ye 4)<| .seq (Zr (Yb 7 2 2<|
 Zk 9 .lss 8 0<|
 Yx 10 9 2 2<|
 Zg 10 false (.cc 13 0 (.t 3))<|
 Zg 10 false (.ld 14 1 false (.t 13))<|
 Zg 10 false (.len 15 (.t 14))<|
 Zg 10 false (.bin 16 .geq false (.t 12) (.t 15))<|
 ep 17 10 16)<| .cond (.t 17) (Zr (Ye 4) .ret) .skip)<|Zr (Zh 19 2 3<|
 Yb 20 2 2<|
 YV 22 81 19 21 18<|
 Zo (.alloc 5 3 100 (.agg [Zz 0,.aa,Zz 0]))<|
 Zs 3 5 23<|
 Yc 6 24)<|Zr (Zm 25 6<|
 Zm 26 25<|
 Zg 26 true (.ld 27 3 true (.t 2))<|
 Zg 26 true (.ld 28 3 true (.t 5))<|
 Zg 26 true (.call (some 29) false (.c (.fn 135 [] [])) [.t 27,.t 28])<|
 Yk 30 26 29<|
 Yc 4 30) .ret⟩
theorem aia:Qe Tryz.prog Tryz.f82=some c82:=by kernel_rfl
def c42:ay:=⟨106,[.t 6,.t 7],Zr (fp 3 100 0<|
 YI 4 25 1<|
 YI 5 30 2<|
 fo 6 0)<| .seq (Zr (Zh 11 3 3<|
 Zh 12 2 4<|
 Yl 13 82 11 12<|
 Zu 14 13 .nil)<| .cond (.t 14) (Zr (fo 6 1) .ret) .skip)<|Zr (Yb 15 0 5<|
 Zm 8 16 .nil)<| .seq (Zr (Yb 17 0 3 .nil)<| .block 0<|Zr (Ys 20 18 1 19)<| .cond (.t 19) (Zr (oZ 21 0<|
 oZ 28 1<|
 Yl 35 83 27 34<|
 Zm 6 35<|
 Yi 7 0) .ret) (Zr (Ys 37 18 2 36)<| .cond (.t 36) (Zr (oZ 38 0<|
 oZ 45 1<|
 oZ 52 0<|
 oZ 59 2<|
 Zq 66 false 84 [.t 44,.t 51,.t 58,.t 65]<|
 Zm 6 66<|
 Yi 7 0) .ret) (Zr (Ys 68 18 3 67)<| .cond (.t 67) (Zr (oZ 69 0<|
 oZ 76 1<|
 oZ 83 2<|
 oZ 90 3<|
 Zq 97 false 84 [.t 75,.t 82,.t 89,.t 96]<|
 Zm 6 97<|
 Yi 7 0) .ret) .skip)))<|Zr (Zh 99 2 5<|
 Yb 100 2 3<|
 YV 102 85 99 101 98<|
 dS 9 103 104)<|Zr (Zm 105 9<|
 Zm 6 105<|
 Yi 7 0) .ret⟩
theorem Ev:Qe Tryz.prog Tryz.f42=some c42:=by kernel_rfl
def c37:ay:=⟨5,[.t 2],Zr (YZ 1 25 0<|
 Ye 2)<|Zr (fm 3 2 1 76<|
 Zm 2 4 .nil) .ret⟩
theorem aib:Qe Tryz.prog Tryz.f37=some c37:=by kernel_rfl
def c15:ay:=⟨51,[.t 2],Zr (YZ 1 25 0<|
 Ye 2)<| .seq (Zr (fm 8 2 1 37<|
 Zu 10 9 .nil)<| .cond (.t 10) (Zr (Ye 2) .ret) .skip)<|Zr (Zh 12 2 1<|
 Zq 13 false 16 [.t 12]<|
 ye 11 3 4)<| .seq (Zr (YW 16 4)<| .cond (.t 17) (Zr (Ye 2) .ret) .skip)<|Zr (Yb 19 4 3<|
 Zf 22 5 3<|
 .br (Zo (.bs 18 1 43 [])<|
 .br (Zo (.app 21 1 24 43 (.t 18) (.t 20))<|
 Zl 23 1 22<|
 Zo (.app 24 1 24 43 (.t 21) (.t 23))<|
 Yc 5 24) (Zl 23 1 22<|
 Zo (.app 21 1 24 43 (.t 18) (.t 20))<|
 Zo (.app 24 1 24 43 (.t 21) (.t 23))<|
 Yc 5 24)) (Zl 23 1 22<|
 Zo (.bs 18 1 43 [])<|
 Zo (.app 21 1 24 43 (.t 18) (.t 20))<|
 Zo (.app 24 1 24 43 (.t 21) (.t 23))<|
 Yc 5 24))<| .seq (Zr (Yi 6 0)<| .block 0<| .loop<| .seq (Zr (nh 25 6 6 3)<| .cond (.t 29) .skip (.exit 0))<| .seq (.block 1<| .rg (Zm 32 5<|
 jS 33 6 3 6<|
 Zo (.app 38 1 24 43 (.t 32) (.t 37))<|
 Yc 5 38))<| .rg (YX 30 6))<| .seq (Zr (Yi 7 0)<| .block 2<| .loop<| .seq (Zr (YK 39 7 5)<| .cond (.t 42) .skip (.exit 2))<| .seq (.block 3<|Zr (fE 45 5 7<|
 Zn 49 48<|
 gK 50 49 60)<| .cond (.t 50) (Zr (Ye 2) .ret) .skip)<| .rg (YX 43 7))<|Zr (YL 2) .ret⟩
theorem aiL:Qe Tryz.prog Tryz.f15=some c15:=by kernel_rfl
def c5:ay:=⟨54,[.cell 2 7 true,.t 3],Zr (YZ 1 25 0<|
 Zo (.alloc 2 7 34 (.agg [.aa,.aa,.aa,.aa,.aa,.aa,.aa]))<|
 Ye 3)<| .seq (Zr (Zh 8 2 1<|
 Zq 9 false 15 [.t 8]<|
 Zu 10 9 .nil)<| .cond (.t 10) (Zr (vJ 11<|
 Zs 7 2 11<|
 Ye 3) .ret) .skip)<|Zr (Zh 13 2 1<|
 Zq 14 false 16 [.t 13]<|
 ye 12 4 5)<| .seq (Zr (YT 17 6 4<|
 Yi 20 0)<| .block 0<| .loop<|Zr (Yu 21 20 19)<| .seq (.cond (.t 21) .skip (.exit 0))<| .seq (.block 1<|Zr (dn 22 20 6)<|Zr (jS 23 6 4 6<|
 Zn 28 27<|
 Yi 29 0)<| .block 2<| .loop<|Zr (Yu 30 29 28)<| .seq (.cond (.t 30) .skip (.exit 2))<| .seq (.block 3<|Zr (dn 31 29 7)<|Zr (jS 32 6 4 6<|
 Zm 37 7<|
 Yo 38 36 37<|
 Zn 40 39<|
 gK 41 40 12)<| .cond (.t 41) (Zr (Zh 42 7 4<|
 Zs 7 2 42<|
 Ye 3) .ret) .skip)<| .rg (Yz 43 29 29))<| .rg (Yz 44 20 20))<|Zr (fG 45 7 4 5<|
 Zk 47 .eql 46 0<|
 Zm 48 47<|
 Zg 48 true (.cc 49 4 (.t 4))<|
 .br (Zg 48 true (.ld 50 1 false (.t 49))<|
 n9 48<|
 Zg 48 true (.bin 52 .leq false (.t 51) (.c (Zz 4)))<|
 Yk 53 48 52<|
 Zs 7 2 45<|
 Yc 3 53) (Zs 7 2 45<|
 Zg 48 true (.ld 50 1 false (.t 49))<|
 n9 48<|
 Zg 48 true (.bin 52 .leq false (.t 51) (.c (Zz 4)))<|
 Yk 53 48 52<|
 Yc 3 53)) .ret⟩
theorem ajg:Qe Tryz.prog Tryz.f5=some c5:=by kernel_rfl
def c6:ay:=⟨81,[.t 2],Zr (Ye 2)<| .seq (Zr (Yq 6 0<|
 gK 8 7 3)<| .cond (.t 8) (Zr (Ye 2) .ret) .skip)<| .seq (Zr (eT 9 0)<| .block 0<| .loop<|Zr (Yu 12 11 10)<| .seq (.cond (.t 12) .skip (.exit 0))<| .seq (.block 1<|Zr (Zm 13 11<|
 Zm 3 13 .nil)<| .seq (Zr (Yf 14 0 3<|
 YM 16 4 14 15<|
 Yn 18 17 17<|
 Zu 19 18<|
 vI 20 19 2<|
 Zg 20 false (.ld 25 1 false (.t 24))<|
 Zg 20 false (.bin 26 .gtr false (.t 25) (.c (Zz 3)))<|
 Zg 20 false (.mv 27 (.t 26))<|
 uf 27 0 3<|
 Zg 27 true (.idx 30 4 (.t 28) (.t 29))<|
 Zg 27 true (.cc 31 2 (.t 30))<|
 Zg 27 true (.ld 32 1 false (.t 31))<|
 Zg 27 true (.bin 33 .leq false (.t 32) (.c (Zz 64)))<|
 Zg 20 false (.pick 34 (.t 27) (.t 33) (.c (.bool false)))<|
 ep 35 20 34)<| .cond (.t 35) (Zr (Ye 2) .ret) .skip)<|Zr (jq 36 0 3<|
 YT 39 1 38<|
 Yi 42 0)<| .block 2<| .loop<|Zr (Yu 43 42 41)<| .seq (.cond (.t 43) .skip (.exit 2))<| .seq (.block 3<|Zr (qb 44 42 40 4)<|Zr (Zm 47 5<|
 Zk 48 .gtr 47 3<|
 YJ 49 48 5<|
 Zg 49 true (.bin 51 .leq false (.t 50) (.c (Zz 64)))<|
 Yk 52 49 51<|
 ri 53 52 5 1<|
 Zg 53 false (.mv 56 (.t 55))<|
 uf 56 4 0<|
 Zg 56 true (.mv 59 (.t 3))<|
 Zg 56 true (.idx 60 4 (.t 58) (.t 59))<|
 Zg 56 true (.cc 61 0 (.t 60))<|
 rp 56<|
 Zg 56 true (.len 63 (.t 62))<|
 Zg 56 true (.bin 64 .lss false (.t 57) (.t 63))<|
 Zg 53 false (.pick 65 (.t 56) (.t 64) (.c (.bool false)))<|
 Zg 53 false (.mv 66 (.t 65))<|
 uf 66 0 3<|
 Zg 66 true (.idx 69 4 (.t 67) (.t 68))<|
 Zg 66 true (.cc 70 0 (.t 69))<|
 Zg 66 true (.ld 71 1 false (.t 70))<|
 Zg 66 true (.mv 72 (.t 4))<|
 Zg 66 true (.idx 73 1 (.t 71) (.t 72))<|
 Zg 66 true (.ld 74 1 false (.t 73))<|
 Zg 66 true (.len 75 (.t 74))<|
 Zg 66 true (.bin 76 .gtr false (.t 75) (.c (Zz 3)))<|
 Zg 53 false (.pick 77 (.t 66) (.t 76) (.c (.bool false)))<|
 ep 78 53 77)<| .cond (.t 78) (Zr (Ye 2) .ret) .skip)<| .rg (Yz 79 42 42))<| .rg (Yz 80 11 11))<|Zr (YL 2) .ret⟩
def c9:ay:=⟨57,[.t 6],Zr (Zo (.box 3 7 34 (.t 0))<|
 Yi 6 0)<| .seq (Zr (iX 9 1<|
 yd 11 10 1 6 3 .nil)<| .cond (.t 17) (Zr (Yi 6 2) .ret) .skip)<| .seq (Zr (Yq 18 2<|
 jS 20 6 3 1<|
 Zn 25 24<|
 Zb 26 .neq 19 25 .nil)<| .cond (.t 26) (Zr (Yi 6 16) .ret) .skip)<| .seq (Zr (Yi 7 0)<| .block 0<| .loop<| .seq (Zr (YK 27 7 2)<| .cond (.t 30) .skip (.exit 0))<| .seq (.block 1<| .seq (Zr (Yf 33 2 7<|
 YM 35 4 33 34<|
 Yn 37 24 36<|
 Zu 38 37 .nil)<| .cond (.t 38) (Zr (Yi 6 1) .ret) .skip)<|Zr (Yf 39 2 7<|
 YM 41 4 39 40<|
 Yb 43 4 3<|
 jS 45 6 3 1<|
 Zm 50 7<|
 Yo 51 49 50<|
 Zq 53 false 25 [.t 42,.t 44,.t 52]<|
 Yc 8 53)<|Zr (YW 54 8)<| .cond (.t 55) (Zr (dn 56 8 6) .ret) .skip)<| .rg (YX 31 7))<|Zr (Yi 6 0) .ret⟩
def IP:ay:=⟨48,[.t 4,.t 5],Zr (Zo (.box 2 7 34 (.t 0))<|
 Zc 4 0<|
 Ye 5)<| .seq (Zr (Yq 11 1<|
 gp 13 12 0)<| .cond (.t 13) (Zr (Zc 4 0<|
 Ye 5) .ret) .skip)<|Zr (YH 15 1 30<|
 Zm 14 16<|
 Yd 17 14<|
 Yr 7<|
 Zm 6 17<|
 Zs 3 7 18 .nil)<| .seq (Zr (Yi 8 0)<| .block 0<| .loop<| .seq (Zr (nh 19 8 5 2)<| .cond (.t 23) .skip (.exit 0))<| .seq (.block 1<|Zr (jS 27 5 2 8<|
 Yn 32 30 31<|
 Zm 26 32<|
 Yd 33 26<|
 Yr 10<|
 Zm 9 33<|
 Zs 3 10 34 .nil)<|Zr (jS 35 5 2 8<|
 Zn 40 39<|
 Zk 41 .gtr 40 0<|
 YJ 42 41 9<|
 Zg 42 true (.mv 44 (.t 6))<|
 Zg 42 true (.call (some 45) false (.c (.fn 31 [] [])) [.t 43,.t 44])<|
 Yk 46 42 45 .nil)<| .cond (.t 46) (Zr (Zm 47 8<|
 Zm 4 47<|
 YL 5) .ret) .skip)<| .rg (YX 24 8))<|Zr (Zc 4 0<|
 Ye 5) .ret⟩
theorem aiM:Qe Tryz.prog Tryz.f12=some IP:=by kernel_rfl
def c3:ay:=⟨34,[.t 6],Zr (YI 3 25 0<|
 Ye 6)<|Zr (fm 10 2 3 5<|
 ye 9 7 8)<| .seq (Zr (Zm 14 8<|
 Zu 15 14<|
 Yw 16 15 2<|
 xZ 16 6 .nil)<| .cond (.t 20) (Zr (Zq 21 false 7 []<|
 Yc 6 21) .ret) .skip)<|Zr (Zh 22 7 7<|
 Yf 23 1 2<|
 Zh 26 7 7<|
 Yf 27 1 2<|
 Zq 25 true 8 [.t 22,.t 23,.t 24]<|
 Zq 29 true 9 [.t 26,.t 27,.t 28]<|
 Zb 30 .eql 25 29<|
 Zm 31 30<|
 Zg 31 true (.call (some 32) true (.c (.fn 7 [] [])) [])<|
 Yk 33 31 32<|
 Yc 6 33) .ret⟩
def c4:ay:=⟨101,[.t 8],Zr (YI 4 25 0<|
 Ye 8)<|Zr (fm 18 2 4 5<|
 ye 17 9 10)<| .seq (Zr (Zm 22 10<|
 Zu 23 22<|
 Yw 24 23 1<|
 xZ 24 10<|
 Yw 29 28 3<|
 Zg 29 false (.bin 31 .lss false (.t 30) (.c (Zz (-9))))<|
 Yh 32 29 31<|
 ri 33 32 3 9<|
 ep 36 33 35)<| .cond (.t 36) (Zr (Zq 37 false 7 []<|
 Yc 8 37) .ret) .skip)<|Zr (fG 39 7 9 1<|
 YV 41 11 39 40 38<|
 dS 11 42 43)<|Zr (fG 45 7 9 1<|
 YV 47 12 45 46 44<|
 dS 13 48 49)<| .seq (Zr (Yf 50 11 13<|
 Zb 52 .neq 50 51<|
 oa 53 52 12 14<|
 Zg 53 false (.bin 56 .neq true (.t 54) (.t 55))<|
 ep 57 53 56)<| .cond (.t 57) (Zr (Ye 8) .ret) .skip)<| .seq (Zr (Zm 58 2<|
 Zk 59 .geq 58 0<|
 YJ 60 59 2<|
 Zg 60 true (.cc 62 5 (.t 9))<|
 Zg 60 true (.ld 63 1 false (.t 62))<|
 Zg 60 true (.len 64 (.t 63))<|
 Zg 60 true (.bin 65 .lss false (.t 61) (.t 64))<|
 Yk 66 60 65<|
 YJ 67 66 3<|
 Zg 67 true (.bin 69 .neq false (.t 68) (.c (Zz 0)))<|
 Yk 70 67 69<|
 Zm 71 70<|
 YQ 71 5 9<|
 Zg 71 true (.mv 74 (.t 2))<|
 Zg 71 true (.idx 75 1 (.t 73) (.t 74))<|
 Zg 71 true (.ld 76 1 false (.t 75))<|
 Zg 71 true (.len 77 (.t 76))<|
 Zg 71 true (.bin 78 .gtr false (.t 77) (.c (Zz 0)))<|
 Yk 79 71 78 .nil)<| .cond (.t 79) (Zr (Zh 81 7 9<|
 jS 82 5 9 2<|
 Zm 87 3<|
 ek 88 14 87<|
 eD 89 13 86 88 11 81<|
 Zm 80 90<|
 Yd 91 80<|
 dS 15 91 92)<|Zr (Zm 93 16<|
 Zu 94 93<|
 oa 95 94 15 2<|
 Zg 95 false (.bin 98 .gtr false (.t 96) (.t 97))<|
 ep 99 95 98)<| .cond (.t 99) (Zr (Ye 8) .ret) .skip) .skip)<|Zr (Zq 100 false 7 []<|
 Yc 8 100) .ret⟩
theorem ajh:Qe Tryz.prog Tryz.f4=some c4:=by kernel_rfl
def qc:ay:=⟨91,[.cell 4 3 true,.t 5],Zr (fp 2 25 0<|
 Zo (.alloc 4 3 100 (.agg [Zz 0,.aa,Zz 0]))<|
 Ye 5)<|Zr (dC 7 0 2 1<|
 Zi 10 6 8 9<|
 Yb 11 2 10<|
 Zm 6 12 .nil)<| .seq (Zr (dC 13 0 2 1<|
 Zi 16 6 14 15<|
 Yb 17 0 16 .nil)<| .block 0<|Zr (Ys 20 18 6 19)<| .cond (.t 19) (Zr (Zm 21 1<|
 Zo (.dv 22 [Zz 0,.aa,Zz 0] [(0,1,.c (Zz 4)),(2,1,.t 21)])<|
 Zs 3 4 22<|
 YL 5) .ret) (.seq (Zr (Ys 24 18 7 23)<| .cond (.t 23) .skip (.rg (Ys 25 18 8 23)))<| .cond (.t 23) (Zr (Zm 26 6<|
 Yv 27 26 1<|
 Zm 29 6<|
 Yv 30 29 2<|
 Zm 33 1<|
 Zo (.bs 32 1 3 [.t 28,.t 31])<|
 .wk<|vK 34 1 32 33) .ret) (Zr (Ys 36 18 9 35)<| .cond (.t 35) (Zr (Zm 37 6<|
 Yv 38 37 0<|
 Zm 40 6<|
 Yv 41 40 1<|
 Zm 43 6<|
 Yv 44 43 2<|
 Zm 46 6<|
 Yv 47 46 3<|
 Zm 50 1<|
 Zo (.bs 49 1 3 [.t 39,.t 42,.t 45,.t 48])<|
 .wk<|vK 51 3 49 50) .ret) (.seq (Zr (Ys 53 18 10 52)<| .cond (.t 52) .skip (Zr (Ys 54 18 12 52)<| .cond (.t 52) .skip (.rg (Ys 55 18 14 52))))<| .cond (.t 52) (Zr (Zm 56 6<|
 Yv 57 56 0<|
 Zm 59 6<|
 Yv 60 59 1<|
 Zm 63 1<|
 Zo (.bs 62 1 3 [.t 58,.t 61])<|
 .wk<|vK 64 1 62 63) .ret) (Zr (Ys 66 18 11 65)<| .cond (.t 65) (Zr (Zm 67 6<|
 Yv 68 67 0<|
 Zm 70 6<|
 Yv 71 70 1<|
 Zm 73 6<|
 Yv 74 73 2<|
 Zm 77 1<|
 Zo (.bs 76 1 3 [.t 69,.t 72,.t 75])<|
 .wk<|vK 78 2 76 77) .ret) (Zr (Ys 80 18 13 79)<| .cond (.t 79) (Zr (Zm 81 6<|
 Yv 82 81 0<|
 Zm 84 6<|
 Yv 85 84 2<|
 Zm 88 1<|
 Zo (.bs 87 1 3 [.t 83,.t 86])<|
 .wk<|vK 89 1 87 88) .ret) .skip))))))<|Zr (Zo (.dv 90 [Zz 0,.aa,Zz 0] [])<|
 Zs 3 4 90<|
 Ye 5) .ret⟩
theorem qQ:Qe Tryz.prog Tryz.f81=some qc.strip:=by kernel_rfl
def Rx:ay:=⟨37,[.t 2,.t 3],Zr (YZ 1 25 0<|
 fo 2 0)<| .seq (Zr (fm 11 2 1 40<|
 Zm 10 12<|
 Yd 13 10<|
 YS 4 30<|
 Zs 2 4 13<|
 Zm 5 14 .nil)<|Zr (YW 15 5)<| .cond (.t 16) (Zr (Zm 17 5<|
 Yj 2<|
 Yc 3 17) .ret) .skip)<|Zr (YG 6)<| .seq (Zr (Yi 7 0)<| .block 0<| .loop<| .seq (Zr (nh 18 7 0 1)<| .cond (.t 22) .skip (.exit 0))<| .seq (.block 1<|Zr (fG 26 2 1 7<|
 YV 28 81 26 27 25<|
 Zo (.alloc 8 3 100 (.agg [Zz 0,.aa,Zz 0]))<|
 Zs 3 8 29<|
 Yc 9 30)<|Zr (Yc 31 9)<| .cond (.t 31) (.rg (Zm 32 6<|
 Zh 33 3 8<|
 Zo (.bs 34 3 100 [.t 33])<|
 .wk<|Zo (.app 35 3 40 100 (.t 32) (.t 34))<|
 Yc 6 35)) .skip)<| .rg (YX 23 7))<|Zr (Zm 36 6<|
 Zm 2 36<|
 Yi 3 0) .ret⟩
theorem aiN:Qe Tryz.prog Tryz.f41=some Rx.strip:=by kernel_rfl
def Rq:ay:=⟨101,[.cell 2 7 true,.t 3],Zr (YZ 1 25 0<|
 Zo (.alloc 2 7 34 (.agg [.aa,.aa,.aa,.aa,.aa,.aa,.aa]))<|
 Yi 3 0)<| .seq (Zr (fm 18 2 1 38<|
 Yc 4 19)<|Zr (YW 20 4)<| .cond (.t 21) (Zr (vJ 22<|
 Zm 23 4<|
 Zs 7 2 22<|
 Yc 3 23) .ret) .skip)<|Zr (fm 25 2 1 39<|
 Zm 24 26<|
 Yd 27 24<|
 dS 5 27 28)<| .seq (Zr (YW 29 6)<| .cond (.t 30) (Zr (vJ 31<|
 Zm 32 6<|
 Zs 7 2 31<|
 Yc 3 32) .ret) .skip)<|Zr (Zh 34 2 1<|
 Zq 35 false 40 [.t 34]<|
 Zm 33 35<|
 Yd 36 33<|
 YS 7 30<|
 Zs 2 7 36<|
 Yc 8 37)<|Zr (YN 38 1 7<|
 Zm 40 5<|
 Zo (.dv 41 [.aa,.aa,.aa,.aa,.aa,.aa,.aa] [(0,2,.t 38),(2,2,.t 39),(4,1,.t 40)])<|
 Zo (.alloc 9 7 34 (.agg [.aa,.aa,.aa,.aa,.aa,.aa,.aa]))<|
 Zs 7 9 41<|
 .wk<| .wk<| .wk<| .wk .nil)<|Zr (fm 43 2 1 41<|
 Zm 42 44<|
 Yd 45 42<|
 dS 10 45 46)<| .seq (Zr (Yi 12 0)<| .block 0<| .loop<| .seq (Zr (YK 47 12 10)<| .cond (.t 50) .skip (.exit 0))<| .seq (.block 1<|Zr (Yf 54 10 12<|
 YM 56 3 54 55<|
 YN 58 1 7<|
 Zq 60 false 42 [.t 57,.t 58,.t 59]<|
 Zm 53 60<|
 Yd 61 53<|
 dS 13 61 62)<| .seq (Zr (Yq 63 13<|
 gK 65 64 4000)<| .cond (.t 65) (Zr (vJ 66<|
 Zs 7 2 66<|
 Yi 3 4) .ret) .skip)<| .rg (dC 67 5 9 13<|
 YB 70 1 43 69 24 68<|
 Zf 72 5 9<|
 Zs 1 72 71 .nil))<| .rg (YX 51 12))<| .seq (Zr (Yi 15 0)<| .block 2<| .loop<| .seq (Zr (nh 73 15 1 1)<| .cond (.t 77) .skip (.exit 2))<| .seq (.block 3<|Zr (dC 81 1 1 15<|
 YM 84 5 82 83<|
 Zh 86 2 7<|
 YV 87 43 85 86 80<|
 dS 16 88 89)<| .seq (Zr (YW 90 17)<| .cond (.t 91) (Zr (vJ 92<|
 Zm 93 17<|
 Zs 7 2 92<|
 Yc 3 93) .ret) .skip)<| .rg (dC 94 6 9 16<|
 YB 97 1 31 96 24 95<|
 Zf 99 6 9<|
 Zs 1 99 98 .nil))<| .rg (YX 78 15))<|Zr (Zh 100 7 9<|
 .wk<|Zs 7 2 100<|
 Yi 3 0) .ret⟩
theorem aiO:Qe Tryz.prog Tryz.f16=some Rq.strip:=by kernel_rfl
abbrev Up:=List Cd×List Vr×Nat
def bC(S:List Q8):Nat->Up
 |0=>([],[],0)
 | i+1=>((bC S i).1++[jl (S.getD i cJ).k (rv (S.getD i cJ).n (S.getD i cJ).a (S.getD i cJ).d) (cC (bC S i).1 (S.getD i cJ).args) (bC S i).2.1.length (bC S i).2.2],
   (bC S i).2.1++lT (S.getD i cJ).k (i:Nat) (bC S i).2.2,if(S.getD i cJ).k=1 then(bC S i).2.2+1 else(bC S i).2.2)
theorem su(S:List Q8):∀i,(bC S i).1.length=i
 |0=>rfl
 |i+1=>by rw[bC,Kaw,su S i];rfl
theorem QT(k i:Int)(b:Nat):(lT k i b).length<=3:=by
 unfold lT qX
 repeat' split
 all_goals simp
theorem Ew(S:List Q8):∀i,(bC S i).2.1.length<=3*i/\(bC S i).2.2<=i
 |0=>⟨Kad _,Kad _⟩
 |i+1=>by obtain⟨h1,h2⟩:=Ew S i;have h3:=QT (S.getD i cJ).k (i:Nat) (bC S i).2.2;rw[bC];refine⟨by simp only[Kaw];omega,?_⟩;simp only;split<;>omega
abbrev WQ(w:Nat)(c:Cd):Prop:=CQ w (16*w-8) w c
theorem Hu{q:List Tm}(hq:aR q)(m:Rat):aV (cM m) q=Q5 q m:=
 tH (tE (CY m).s hq.s) (kp hq.s m) fun φ=>by rw[ZN (CY m) hq,zX,qE φ hq.c];have:∀(n:List Int),cf (fun k=>φ (di n k)) (cM m)=m*φ (di n []):=fun n=>WY _ m;rw[sj (ψ:=fun n=>m*φ n) fun s hs=>by rw[this,zT (hq.c s hs)],Du]
theorem acC{p q:List Tm}(hp:aR p)(hq:aR q)(m:Rat):Qq p (aV (cM m) (bQ q p))=Qq (Q5 p (1-m)) (Q5 q m):=by have h1:=ab6 hq hp;rw[Hu h1];exact tH (vg hp (kp h1.s m)) (vg (kp hp.s _) (kp hq.s m)) fun φ=>by rw[zW hp.c (kp h1.s m).c,qE φ h1.c,ab5 φ hq.c hp,zW (kp hp.s _).c (kp hq.s m).c,qE φ hp.c,qE φ hq.c];grind
theorem Mx{p q:List Tm}{u v:Nat}{m:Rat}(hu:1<=u)(hv:1<=v)(hp:PQ u (16*u-8) u p)(hq:PQ v (16*v-8) v q)(hm:rs m<=2):PQ (u+v) (16*(u+v)-8) (u+v) (Qq p (aV (cM m) (bQ q p))):=by
 rw[acC hp.n hq.n];have h1:rs (1-m)+1<=5:=by have h:=vk 1 (-m);rw[af2,<-Rat.sub_eq_add_neg]at h;have:=sM;omega
 exact(((hp.mono (Kad _) (Kad _) (show u<=u+v by omega)).scale h1).add ((hq.mono (Kad _) (Kad _) (show v<=u+v by omega)).scale (show rs m+1<=3 by omega))).mono (Kad _) (by omega) (Kad _)
theorem My{p q t:List Tm}{u v:Nat}(hu:1<=u)(hv:1<=v)(hp:PQ u (16*u-8) u p)(hq:PQ v (16*v-8) v q)(hm:PQ 1 4 1 t):PQ (2*u+v) (16*(2*u+v)-8) (2*u+v) (Qq p (aV t (bQ q p))):=by have hmul:=hm.mul ((hq.mono (Kad _) (Kad _) (show v<=u+v by omega)).sub (hp.mono (Kad _) (Kad _) (show u<=u+v by omega)));have Bq:min 1 (v+u)*(4+(16*v-8+(16*u-8+2)))<=1*(4+(16*v-8+(16*u-8+2))):=Kal _ (by omega);exact((hp.mono (Kad _) (Kad _) (show u<=2*u+v by omega)).add (hmul.mono (Kad _) (Kad _) (show 1+(u+v)<=2*u+v by omega))).mono (by omega) (by omega) (Kad _)
theorem Ed{p q r:List Tm}{u v x:Nat}(hu:1<=u)(hv:1<=v)(hx:1<=x)(hp:PQ u (16*u-8) u p)(hq:PQ v (16*v-8) v q)(hr:PQ x (16*x-8) x r){w:Nat}(hw:u+v+x=w):PQ w (16*w-8) w (mT p q r):=by subst hw;exact((hp.mono (Kad _) (Kad _) (show u<=u+v+x by omega)).add ((hq.mono (Kad _) (Kad _) (show v<=u+v+x by omega)).sub (hr.mono (Kad _) (Kad _) (show x<=u+v+x by omega)))).mono (by omega) (by omega) (Kad _)
end Go.Proofs.YtccppnepkfbpkaaGreat
namespace Go.FW
open Go
variable {C : Ctx} {fr : Fr} {hp : HP} {w : World} {K R : Qh}
theorem aiP(nm:Nat->Bool):Wk fr hp (ia nm fr) (fun β=>if nm β=true then none else hp β):=by
 rintro C tmps w ⟨ρ,hs⟩;obtain⟨hp',mw⟩:∃f:HP,f=fun β=>if nm β=true then none else hp β:=⟨_,rfl⟩
 rw[<-mw];have pn:∀γ,nm γ=true->hp' γ=none:=fun γ h=>by rw[mw];simp[h]
 have po:∀γ,nm γ=false->hp' γ=hp γ:=fun γ h=>by rw[mw];simp[h]
 have hX:∀c,aE C ρ hp' c->aE C ρ hp c:=by
  rintro c (hx|⟨γ,hb,g1,g2,g3⟩)
  ·exact .inl hx
  ·cases hq:nm γ with
   |true=>rw[pn γ hq]at g1;cases g1
   |false=>rw[po γ hq]at g1;exact .inr ⟨γ,hb,g1,g2,g3⟩
 have aL:lX w w (aE C ρ hp) (aE C ρ hp'):=⟨fun _ _ _=>rfl,fun c _ hn h=>hn (hX c h),Kad _⟩
 have c1:∀γ,nm γ=false->oH ρ ρ hp hp' w w γ:=fun γ ah=>⟨rfl,fun hb hq=>⟨hb,by rw[po γ ah];exact hq,rfl,Kad _,fun _ _ _ h=>h,fun h=>⟨h,rfl,fun _ _=>rfl⟩⟩⟩
 refine⟨ρ,hs.sz,hs.ext,hs.eG,fun γ aZ ah=>?_,fun γ δ c g1 g2 g3 g4=>?_,fun i=>?_⟩
 ·cases hq:nm γ with
  |true=>rw[pn γ hq]at ah;cases ah
  | false=>
   rw[po γ hq]at ah;have h:=hs.own γ _ ah;refine⟨h.jV,h.len,?_,h.fix,h.ro⟩;have aU:=h.cD;cases hr:ρ γ with
   |none=>rw[hr]at aU;exact aU
   |some b=>rw[hr]at aU;obtain⟨b1,b2,cur,cap,k1,k2,k3,k4,k5⟩:=aU;exact⟨b1,b2,cur,cap,k1,k2,k3,k4,fun i x hx j y hy=>Qp.sub (k5 i x hx j y hy) hX⟩
 ·cases hq:nm γ with
  |true=>exact absurd (pn γ hq) g1
  |false=>
   cases ph:nm δ with
   |true=>exact absurd (pn δ ph) g2
   |false=>exact hs.inj γ δ c (by rw[<-po γ hq];exact g1) (by rw[<-po δ ph];exact g2) g3 g4
 ·show Qm C ρ hp' w (oX nm (fr i)) _;unfold oX;split
  ·trivial
  ·rename_i hn;have s8:∀β∈(fr i).refs++(fr i).aN,nm β=false:=fun β aj=>by
    cases hq:nm β with
    |false=>rfl
    |true=>exact absurd (KaW.2 ⟨β,aj,hq⟩) hn
   exact Qm.pw (hs.cH i) aL (fun β aj=>(c1 β (s8 β (Kca _ aj))).o) (fun β aj=>c1 β (s8 β (Kbp _ aj)))
end Go.FW
