/- Part 10 of the proof of GoalsPolynomials: K5, K6, K1, K3, K7, K8, K10, K11, K12, K13, K14, L11, FwNK. Own lemmas; no conditions. -/
import Derived.Test.YtonjiljafkiikaaGreatGoalsPolynomialsPart9
set_option maxHeartbeats 1000000
set_option linter.unusedSimpArgs false
set_option linter.unusedVariables false
set_option linter.unnecessarySimpa false
set_option maxRecDepth 100000
namespace Go.Proofs.YtonjiljafkiikaaGreat
open Go Go.FW
theorem gg{p q:List Tm}{T K E:Nat}(hp:PQ T K E p)(hq:PQ T K E q)(hT:T<=2^30)(hK:K+2<=2^31)(hE:E<=2^38):Qd Tryz.prog 71 [PV.ax p,PV.ax q] (· =PV.ax (cH p q)):=
 Qzl (K:=K+2) (hp.mono (Kag _) (by omega) (Kag _)).b (hq.mono (Kag _) (by omega) (Kag _)).b hq.n.z (by omega) (by omega) hE (by have:=hp.l;omega) (by have:=hq.l;omega)
theorem qq{p q:List Tm}{T K E:Nat}(hp:PQ T K E p)(hq:PQ T K E q)(hT:T<=2^30)(hK:K<=2^32)(hE:E<=2^38):Qd Tryz.prog 50 [PV.ax p,PV.ax q] (· =PV.ax (Q4 p q)):=
 Bn hp.b hq.b hK hE (by have:=hp.l;omega) (by have:=hq.l;omega)
theorem oR{p q:List Tm}{T K E:Nat}(hp:PQ T K E p)(hq:PQ T K E q)(hT:T<=2^15)(hK:T*(K+K)+(K+K)<=2^32)(hE:E<=2^37):Qd Tryz.prog 26 [PV.ax p,PV.ax q] (· =PV.ax (cz p q)):=by
 have h1:=hp.l;have h2:=hq.l;have h3:q.length*p.length<=2^15*2^15:=KbU (by omega) (by omega);have h4:q.length*(K+K)<=T*(K+K):=Kam _ h2;have:=Qzj hp.b hq.b hp.n.z hq.n.z hE (by omega) (by omega) (by omega) (by omega)
 rwa[RY hp.n hq.n]at this
theorem oS{p q:List Tm}{T K E:Nat}(hp:PQ T K E p)(hq:PQ T K E q)(hT:T<=2^30)(hK:K+2<=2^31)(hE:E<=2^38):Qd Tryz.prog 68 [PV.ax p,PV.ax q] (· =PV.ax (cH p q)):=
 Oh (K:=K+2) (hp.mono (Kag _) (by omega) (Kag _)).b (hq.mono (Kag _) (by omega) (Kag _)).b (by omega) (by omega) hE (by have:=hp.l;omega) (by have:=hq.l;omega)
theorem Ha{p q:List Tm}{T K E:Nat}(hp:PQ T K E p)(hq:PQ T K E q)(hT:T<=2^30)(hK:K<=2^32)(hE:E<=2^38):Qd Tryz.prog 120 [PV.ax p,PV.ax q] (· =PV.ax (Q4 p q)):=
 BH hp.b hq.b (by omega) hE (by have:=hp.l;omega) (by have:=hq.l;omega)
theorem u7{p q:List Tm}{T K E:Nat}(hp:PQ T K E p)(hq:PQ T K E q)(hT:T<=2^15)(hK:T*(K+K)+(K+K)<=2^32)(hE:E<=2^37):Qd Tryz.prog 115 [PV.ax p,PV.ax q] (· =PV.ax (cz p q)):=by have h1:=hp.l;have h2:=hq.l;have h3:p.length*q.length<=2^15*2^15:=KbU (by omega) (by omega);have h4:min p.length q.length*(K+K)<=T*(K+K):=Kam _ (by omega);exact Oe hp.b hq.b hE (by omega) (by omega) (by omega) (by omega) (by omega)
def jQ(p q r:List Tm):List Tm:=Q4 p (cH q r)
def qt(a b:Cd)(m:List Tm):Cd:=(Q4 a.1 (cz m (cH b.1 a.1)),Q4 a.2 (cz m (cH b.2 a.2)))
def oT(a b c d:Cd):List Tm:=cH (cz (cH b.1 a.1) (cH d.2 c.2)) (cz (cH b.2 a.2) (cH d.1 c.1))
def iF(a b c d:Cd):List Tm:=Q4 (cz (cH b.1 a.1) (cH d.1 c.1)) (cz (cH b.2 a.2) (cH d.2 c.2))
structure CQ(T K E:Nat)(c:Cd):Prop where
 x:PQ T K E c.1
 y:PQ T K E c.2
theorem CQ.mono{T K E T' K' E':Nat}{c:Cd}(h:CQ T K E c)(h1:T<=T')(h2:K<=K')(h3:E<=E'):CQ T' K' E' c:=⟨h.x.mono h1 h2 h3,h.y.mono h1 h2 h3⟩
theorem yz{p q r:List Tm}{T K E:Nat}(hp:PQ T K E p)(hq:PQ T K E q)(hr:PQ T K E r)(hT:T<=2^20)(hK:K<=2^28)(hE:E<=2^20):Qd Tryz.prog 56 [PV.ax p,PV.ax q,PV.ax r] (· =PV.ax (jQ p q r)):=by have h1:=gg hq hr (by omega) (by omega) (by omega);have h2:=qq (T:=T+T) (K:=K+(K+2)) (hp.mono (by omega) (by omega) (Kag _)) (hq.sub hr) (by omega) (by omega) (by omega);refine Qf Qh Tryz.func56 rfl XV (by simp[Es]) fun C hP=>?_;simp only[Es,Zo,Zg,Zm,Zc,Zf,Zl,Zh,Zs,Zi,Zb,Zk,Zn,Zu,Zq,Zr,Zz];refine Sz0 ?_;refine Qa hP h1 rfl rfl rfl ?_;refine Sz0 ?_;refine Qa hP h2 rfl rfl rfl ?_;refine Sz0 ?_;exact Qc rfl rfl
theorem GD{a b:Cd}{m:List Tm}{T K E:Nat}(ha:CQ T K E a)(hb:CQ T K E b)(hm:PQ 1 K E m)(hT:T<=256)(hT1:1<=T)(hK:K<=2^18)(hE:E<=2^20):Qd Tryz.prog 54 [PV.ay a,PV.ay b,PV.ax m] (· =PV.ay (qt a b m)):=by
 have hmul:∀ {p q:List Tm},PQ T K E p->PQ T K E q->Qd Tryz.prog 26 [PV.ax m,PV.ax (cH p q)] (· =PV.ax (cz m (cH p q))):=fun hp hq=>by have h4:(T+T)*(K+(K+2)+(K+(K+2)))<=512*(2^21):=KbU (by omega) (by omega);exact oR (T:=T+T) (K:=K+(K+2)) (hm.mono (by omega) (by omega) (Kag _)) (hp.sub hq) (by omega) (by omega) (by omega)
 have dy:∀ {p q r:List Tm},PQ T K E p->PQ T K E q->PQ T K E r->Qd Tryz.prog 50 [PV.ax r,PV.ax (cz m (cH p q))] (· =PV.ax (Q4 r (cz m (cH p q)))):=fun hp hq hr=>by have h4:min 1 (T+T)*(K+(K+(K+2)))<=1*2^26:=KbU (by omega) (by omega);exact qq (T:=1*(T+T)) (K:=2^26) (E:=E+E) (hr.mono (by omega) (by omega) (by omega)) ((hm.mul (hp.sub hq)).mono (by omega) (by omega) (by omega)) (by omega) (by omega) (by omega)
 have s1:=gg hb.x ha.x (by omega) (by omega) (by omega);have s2:=gg hb.y ha.y (by omega) (by omega) (by omega);have m1:=hmul hb.x ha.x;have m2:=hmul hb.y ha.y;have a1:=dy hb.x ha.x ha.x;have a2:=dy hb.y ha.y ha.y;refine Qf Qh Tryz.func54 rfl XW (by simp[Ep]) fun C hP=>?_;simp only[Ep,Zo,Zg,Zm,Zc,Zf,Zl,Zh,Zs,Zi,Zb,Zk,Zn,Zu,Zq,Zr,Zz];refine Sz0 ?_;refine Qa hP s1 rfl rfl rfl ?_;refine Sz0 ?_;refine Qa hP m1 rfl rfl rfl ?_;refine Sz0 ?_;refine Qa hP a1 rfl rfl rfl ?_;refine Sz0 ?_;refine Qa hP s2 rfl rfl rfl ?_;refine Sz0 ?_;refine Qa hP m2 rfl rfl rfl ?_;refine Sz0 ?_;refine Qa hP a2 rfl rfl rfl ?_;refine Sz0 ?_;refine cI ?_;exact Qc rfl rfl
theorem cS{p q:List Tm}(hp:PQ 256 (2^17) 100 p)(hq:PQ 256 (2^17) 100 q):PQ 512 (2^18+2) 100 (cH p q):=(hp.sub hq).mono (by omega) (by omega) (by omega)
theorem lF{p q:List Tm}(hp:PQ 512 (2^18+2) 100 p)(hq:PQ 512 (2^18+2) 100 q):PQ 262144 (2^28+2048) 200 (cz p q):=(hp.mul hq).mono (by omega) (by omega) (by omega)
abbrev CB(c:Cd):Prop:=CQ 256 (2^17) 100 c
theorem Jm{a b c d:Cd}(ha:CB a)(hb:CB b)(hc:CB c)(hd:CB d):PQ 524288 (2^29+4098) 200 (oT a b c d):=
 ((lF (cS hb.x ha.x) (cS hd.y hc.y)).sub (lF (cS hb.y ha.y) (cS hd.x hc.x))).mono (by omega) (by omega) (by omega)
theorem kC{a b c d:Cd}(ha:CB a)(hb:CB b)(hc:CB c)(hd:CB d):PQ 524288 (2^29+4098) 200 (iF a b c d):=
 ((lF (cS hb.x ha.x) (cS hd.x hc.x)).add (lF (cS hb.y ha.y) (cS hd.y hc.y))).mono (by omega) (by omega) (by omega)
theorem rW{a b c d:Cd}(ha:CB a)(hb:CB b)(hc:CB c)(hd:CB d):Qd Tryz.prog 69 [PV.ay a,PV.ay b,PV.ay c,PV.ay d] (· =PV.ax (oT a b c d)):=by have s1:=gg hb.x ha.x (by omega) (by omega) (by omega);have s2:=gg hb.y ha.y (by omega) (by omega) (by omega);have s3:=gg hd.x hc.x (by omega) (by omega) (by omega);have s4:=gg hd.y hc.y (by omega) (by omega) (by omega);have m1:=oR (cS hb.x ha.x) (cS hd.y hc.y) (by omega) (by omega) (by omega);have m2:=oR (cS hb.y ha.y) (cS hd.x hc.x) (by omega) (by omega) (by omega);have f:=gg (lF (cS hb.x ha.x) (cS hd.y hc.y)) (lF (cS hb.y ha.y) (cS hd.x hc.x)) (by omega) (by omega) (by omega);refine Qf Qh Tryz.func69 rfl X4 (by simp[EF]) fun C hP=>?_;simp only[EF,Zo,Zg,Zm,Zc,Zf,Zl,Zh,Zs,Zi,Zb,Zk,Zn,Zu,Zq,Zr,Zz];refine Sz0 ?_;refine Qa hP s1 rfl rfl rfl ?_;refine Sz0 ?_;refine Qa hP s4 rfl rfl rfl ?_;refine Sz0 ?_;refine Qa hP m1 rfl rfl rfl ?_;refine Sz0 ?_;refine Qa hP s2 rfl rfl rfl ?_;refine Sz0 ?_;refine Qa hP s3 rfl rfl rfl ?_;refine Sz0 ?_;refine Qa hP m2 rfl rfl rfl ?_;refine Sz0 ?_;refine Qa hP f rfl rfl rfl ?_;refine Sz0 ?_;exact Qc rfl rfl
theorem sv{a b c d:Cd}(ha:CB a)(hb:CB b)(hc:CB c)(hd:CB d):Qd Tryz.prog 70 [PV.ay a,PV.ay b,PV.ay c,PV.ay d] (· =PV.ax (iF a b c d)):=by have s1:=gg hb.x ha.x (by omega) (by omega) (by omega);have s2:=gg hb.y ha.y (by omega) (by omega) (by omega);have s3:=gg hd.x hc.x (by omega) (by omega) (by omega);have s4:=gg hd.y hc.y (by omega) (by omega) (by omega);have m1:=oR (cS hb.x ha.x) (cS hd.x hc.x) (by omega) (by omega) (by omega);have m2:=oR (cS hb.y ha.y) (cS hd.y hc.y) (by omega) (by omega) (by omega);have f:=qq (lF (cS hb.x ha.x) (cS hd.x hc.x)) (lF (cS hb.y ha.y) (cS hd.y hc.y)) (by omega) (by omega) (by omega);refine Qf Qh Tryz.func70 rfl X5 (by simp[EG]) fun C hP=>?_;simp only[EG,Zo,Zg,Zm,Zc,Zf,Zl,Zh,Zs,Zi,Zb,Zk,Zn,Zu,Zq,Zr,Zz];refine Sz0 ?_;refine Qa hP s1 rfl rfl rfl ?_;refine Sz0 ?_;refine Qa hP s3 rfl rfl rfl ?_;refine Sz0 ?_;refine Qa hP m1 rfl rfl rfl ?_;refine Sz0 ?_;refine Qa hP s2 rfl rfl rfl ?_;refine Sz0 ?_;refine Qa hP s4 rfl rfl rfl ?_;refine Sz0 ?_;refine Qa hP m2 rfl rfl rfl ?_;refine Sz0 ?_;refine Qa hP f rfl rfl rfl ?_;refine Sz0 ?_;exact Qc rfl rfl
theorem xV{a b:Cd}(ha:CB a)(hb:CB b):Qd Tryz.prog 72 [PV.ay a,PV.ay b] (· =PV.ax (iF a b a b)):=by have h:=sv ha hb ha hb;refine Qf Qh Tryz.func72 rfl X6 (by simp[EI]) fun C hP=>?_;simp only[EI,Zo,Zg,Zm,Zc,Zf,Zl,Zh,Zs,Zi,Zb,Zk,Zn,Zu,Zq,Zr,Zz];refine Sz0 ?_;refine Qa hP h rfl rfl rfl ?_;refine Sz0 ?_;exact Qc rfl rfl
theorem xG{a b:Cd}(ha:CB a)(hb:CB b):Qd Tryz.prog 114 [PV.ay a,PV.ay b] (· =PV.ay (cH b.1 a.1,cH b.2 a.2)):=by have s1:=oS hb.x ha.x (by omega) (by omega) (by omega);have s2:=oS hb.y ha.y (by omega) (by omega) (by omega);refine Qf Qh Tryz.func114 rfl VE (by simp[Dh]) fun C hP=>?_;simp only[Dh,Zo,Zg,Zm,Zc,Zf,Zl,Zh,Zs,Zi,Zb,Zk,Zn,Zu,Zq,Zr,Zz];refine Sz0 ?_;refine Qa hP s1 rfl rfl rfl ?_;refine Sz0 ?_;refine Qa hP s2 rfl rfl rfl ?_;refine Sz0 ?_;refine cI ?_;exact Qc rfl rfl
theorem ZA{u v:Cd}(hu:CQ 512 (2^18+2) 100 u)(hv:CQ 512 (2^18+2) 100 v):Qd Tryz.prog 116 [PV.ay u,PV.ay v] (· =PV.ax (Q4 (cz u.1 v.1) (cz u.2 v.2))):=by have m1:=u7 hu.x hv.x (by omega) (by omega) (by omega);have m2:=u7 hu.y hv.y (by omega) (by omega) (by omega);have f:=Ha (lF hu.x hv.x) (lF hu.y hv.y) (by omega) (by omega) (by omega);refine Qf Qh Tryz.func116 rfl VF (by simp[Dj]) fun C hP=>?_;simp only[Dj,Zo,Zg,Zm,Zc,Zf,Zl,Zh,Zs,Zi,Zb,Zk,Zn,Zu,Zq,Zr,Zz];refine Sz0 ?_;refine Qa hP m1 rfl rfl rfl ?_;refine Sz0 ?_;refine Qa hP m2 rfl rfl rfl ?_;refine Sz0 ?_;refine Qa hP f rfl rfl rfl ?_;refine Sz0 ?_;exact Qc rfl rfl
theorem vj{a b c d:Cd}(ha:CB a)(hb:CB b)(hc:CB c)(hd:CB d):Qd Tryz.prog 63 [PV.ay a,PV.ay b,PV.ay c,PV.ay d] (· =PV.ax (iF a b c d)):=by have b1:=xG ha hb;have b2:=xG hc hd;have b3:=ZA (u:=(cH b.1 a.1,cH b.2 a.2)) (v:=(cH d.1 c.1,cH d.2 c.2)) ⟨cS hb.x ha.x,cS hb.y ha.y⟩ ⟨cS hd.x hc.x,cS hd.y hc.y⟩;refine Qf Qh Tryz.func63 rfl XY (by simp[Ey]) fun C hP=>?_;simp only[Ey,Zo,Zg,Zm,Zc,Zf,Zl,Zh,Zs,Zi,Zb,Zk,Zn,Zu,Zq,Zr,Zz];refine Sz0 ?_;refine Qa hP b1 rfl rfl rfl ?_;refine Sz0 ?_;refine Qa hP b2 rfl rfl rfl ?_;refine Sz0 ?_;refine Qa hP b3 rfl rfl rfl ?_;refine Sz0 ?_;exact Qc rfl rfl
set_option maxHeartbeats 4000000 in
theorem yl{a b c d:Cd}(ha:CB a)(hb:CB b)(hc:CB c)(hd:CB d):Qd Tryz.prog 62 [PV.ay a,PV.ay b,PV.ay c,PV.ay d] (· =PV.ax (oT a b c d)):=by
 have b1:=xG ha hb;have b2:=xG hc hd;have m1:=u7 (cS hb.x ha.x) (cS hd.y hc.y) (by omega) (by omega) (by omega);have m2:=u7 (cS hb.y ha.y) (cS hd.x hc.x) (by omega) (by omega) (by omega);have f:=oS (lF (cS hb.x ha.x) (cS hd.y hc.y)) (lF (cS hb.y ha.y) (cS hd.x hc.x)) (by omega) (by omega) (by omega);refine Qf Qh Tryz.func62 rfl XX (by simp[Ex]) fun C hP=>?_;simp only[Ex,Zo,Zg,Zm,Zc,Zf,Zl,Zh,Zs,Zi,Zb,Zk,Zn,Zu,Zq,Zr,Zz];refine Sz0 ?_
 repeat' first
  |refine eV ?_ ?_
  |refine Qa hP b1 rfl rfl rfl ?_
  |refine Qa hP b2 rfl rfl rfl ?_
  |refine Qa hP m1 rfl rfl rfl ?_
  |refine Qa hP m2 rfl rfl rfl ?_
  |refine Qa hP f rfl rfl rfl ?_
  |exact Qc rfl rfl
  |simp+decide (disch:=try exact D0) only[go_sem]
structure cn where
 k:Int
 args:List Int
 n:Bool
 a:List Nat
 d:List Nat
abbrev PV.fG(f:cn):PV:=.agg [.int .i64 f.k,PV.mono f.args,.bool f.n,PV.nat f.a,PV.nat f.d]
def b9(k:Int):Int:=if k=1∨k=5 then 3 else if k=2∨k=3∨k=4∨k=6∨k=9 then 4 else if k=7 then 8 else if k=8 then 2 else 0
def gT(n:Bool)(a d:List Nat):Bool:= !n&&(decide (a.length=0)&&decide (d.length=0))
def cM(f:cn)(n:Int):Int:=
 if b9 f.k=0 then 8 else if(f.args.length:Int)≠b9 f.k then 1 else if(f.args.any fun i=>decide (i<0∨n<=i))=true then 2 else
  if(if f.k=9 then iz f.n f.a f.d else gT f.n f.a f.d)=true then 0 else 1
theorem ub(k:Int):(k=1∨k=2∨k=3∨k=4∨k=5∨k=6∨k=7∨k=8∨k=9)∨(k≠1/\k≠2/\k≠3/\k≠4/\k≠5/\k≠6/\k≠7/\k≠8/\k≠9):=by omega
theorem Ps{k:Int}:Qd Tryz.prog 23 [.int .i64 k] (· = .int .i64 (b9 k)):=by
 rcases ub k with h|⟨h1,h2,h3,h4,h5,h6,h7,h8,h9⟩
 ·rcases h with rfl|rfl|rfl|rfl|rfl|rfl|rfl|rfl|rfl
  all_goals
   refine Qf Qh Tryz.func23 rfl G9 (by simp[vt]) fun C hP=>?_;simp only[vt,Zo,Zg,Zm,Zc,Zf,Zl,Zh,Zs,Zi,Zb,Zk,Zn,Zu,Zq,Zr,Zz];refine Sz0 ?_;exact Qc rfl rfl
 ·have e:b9 k=0:=by simp[b9,h1,h2,h3,h4,h5,h6,h7,h8,h9]
  rw[e];have d1:decide (k=1)=false:=decide_eq_false h1;have d2:decide (k=2)=false:=decide_eq_false h2;have d3:decide (k=3)=false:=decide_eq_false h3;have d4:decide (k=4)=false:=decide_eq_false h4;have d5:decide (k=5)=false:=decide_eq_false h5;have d6:decide (k=6)=false:=decide_eq_false h6;have d7:decide (k=7)=false:=decide_eq_false h7;have d8:decide (k=8)=false:=decide_eq_false h8;have d9:decide (k=9)=false:=decide_eq_false h9;refine Qf Qh Tryz.func23 rfl G9 (by simp[vt]) fun C hP=>?_;simp only[vt,Zo,Zg,Zm,Zc,Zf,Zl,Zh,Zs,Zi,Zb,Zk,Zn,Zu,Zq,Zr,Zz];refine Sz9 d1 d2 d3 d4 d5 d6 d7 d8 d9 ?_;exact Qc rfl rfl
theorem Ss{k:Int}:Qd Tryz.prog 59 [.int .i64 k] (· = .int .i64 (b9 k)):=by
 rcases ub k with h|⟨h1,h2,h3,h4,h5,h6,h7,h8,h9⟩
 ·rcases h with rfl|rfl|rfl|rfl|rfl|rfl|rfl|rfl|rfl
  all_goals
   refine Qf Qh Tryz.func59 rfl G' (by simp[vu]) fun C hP=>?_;simp only[vu,Zo,Zg,Zm,Zc,Zf,Zl,Zh,Zs,Zi,Zb,Zk,Zn,Zu,Zq,Zr,Zz];refine Sz0 ?_;exact Qc rfl rfl
 ·have e:b9 k=0:=by simp[b9,h1,h2,h3,h4,h5,h6,h7,h8,h9]
  rw[e];have d1:decide (k=1)=false:=decide_eq_false h1;have d2:decide (k=2)=false:=decide_eq_false h2;have d3:decide (k=3)=false:=decide_eq_false h3;have d4:decide (k=4)=false:=decide_eq_false h4;have d5:decide (k=5)=false:=decide_eq_false h5;have d6:decide (k=6)=false:=decide_eq_false h6;have d7:decide (k=7)=false:=decide_eq_false h7;have d8:decide (k=8)=false:=decide_eq_false h8;have d9:decide (k=9)=false:=decide_eq_false h9;refine Qf Qh Tryz.func59 rfl G' (by simp[vu]) fun C hP=>?_;simp only[vu,Zo,Zg,Zm,Zc,Zf,Zl,Zh,Zs,Zi,Zb,Zk,Zn,Zu,Zq,Zr,Zz];refine Sz9 d1 d2 d3 d4 d5 d6 d7 d8 d9 ?_;exact Qc rfl rfl
theorem R8{n:Bool}{a d:List Nat}{k:Nat}(hb:Raw k n a d):Qd Tryz.prog 25 [PV.rr n a d] (· = .bool (gT n a d)):=by
 refine Qf Qh Tryz.func25 rfl XO (by simp[DW]) fun C hP=>?_;simp only[DW,Zo,Zg,Zm,Zc,Zf,Zl,Zh,Zs,Zi,Zb,Zk,Zn,Zu,Zq,Zr,Zz];refine Sz0 ?_;cases n
 ·refine Sz0 ?_;refine eK (fun h=>?_) (fun h=>?_)
  ·refine Sz0 ?_;exact Qc (by simp[gT,show a.length=0 by omega]) rfl
  ·refine Sz0 ?_;exact Qc (by simp[gT,show ¬a.length=0 by omega]) rfl
 ·refine Sz0 ?_;exact Qc rfl rfl
theorem VH{n:Bool}{a d:List Nat}{k:Nat}(hb:Raw k n a d):Qd Tryz.prog 61 [PV.rr n a d] (· = .bool (gT n a d)):=by
 refine Qf Qh Tryz.func61 rfl XP (by simp[Ew]) fun C hP=>?_;simp only[Ew,Zo,Zg,Zm,Zc,Zf,Zl,Zh,Zs,Zi,Zb,Zk,Zn,Zu,Zq,Zr,Zz];refine Sz0 ?_;cases n
 ·refine Sz0 ?_;refine eK (fun h=>?_) (fun h=>?_)
  ·refine Sz0 ?_;exact Qc (by simp[gT,show a.length=0 by omega]) rfl
  ·refine Sz0 ?_;exact Qc (by simp[gT,show ¬a.length=0 by omega]) rfl
 ·refine Sz0 ?_;exact Qc rfl rfl
theorem R9{n:Bool}{a d:List Nat}{k:Nat}(hb:Raw k n a d):Qd Tryz.prog 105 [PV.rr n a d] (· = .bool (gT n a d)):=by
 refine Qf Qh Tryz.func105 rfl VA (by simp[Db]) fun C hP=>?_;simp only[Db,Zo,Zg,Zm,Zc,Zf,Zl,Zh,Zs,Zi,Zb,Zk,Zn,Zu,Zq,Zr,Zz];refine Sz0 ?_;cases n
 ·refine Sz0 ?_;refine eK (fun h=>?_) (fun h=>?_)
  ·refine Sz0 ?_;exact Qc (by simp[gT,show a.length=0 by omega]) rfl
  ·refine Sz0 ?_;exact Qc (by simp[gT,show ¬a.length=0 by omega]) rfl
 ·refine Sz0 ?_;exact Qc rfl rfl
structure ns(f:cn):Prop where
 l:f.args.length<2^40
 r:Raw 1048576 f.n f.a f.d
theorem Hx{f:cn}{n:Int}(h0:¬b9 f.k=0)(hl:(f.args.length:Int)=b9 f.k){i:Nat}(hi:i<f.args.length)(h:f.args[i]<0∨n<=f.args[i]):cM f n=2:=by unfold cM;rw[if_neg h0,if_neg (by simpa using hl),if_pos];exact KaP.2 ⟨_,Kaq hi,decide_eq_true h⟩
theorem Hy{f:cn}{n:Int}(h0:¬b9 f.k=0)(hl:(f.args.length:Int)=b9 f.k)(h:∀j (h:j<f.args.length),0<=f.args[j]/\f.args[j]<n):cM f n=if(if f.k=9 then iz f.n f.a f.d else gT f.n f.a f.d)=true then 0 else 1:=by unfold cM;rw[if_neg h0,if_neg (by simpa using hl),if_neg];intro hq;obtain⟨x,hx,hd⟩:=KaP.1 hq;obtain⟨j,hj,rfl⟩:=Ka0 hx;have:=of_decide_eq_true hd;have:=h j hj;omega
theorem BI{f:cn}{n:Int}(hf:ns f):Qd Tryz.prog 7 [PV.fG f,.int .i64 n] (· = .int .i64 (cM f n)):=by
 have hr:=HV hf.r (by omega);have hz:=R8 hf.r;have lL:=hf.l;obtain⟨k,args,n0,a,d⟩:=f;simp only at hr hz lL;have hA:=Ps (k:=k);refine Qf Qh Tryz.func7 rfl Zv (by simp[c7]) fun C hP=>?_;simp only[c7,Zo,Zg,Zm,Zc,Zf,Zl,Zh,Zs,Zi,Zb,Zk,Zn,Zu,Zq,Zr,Zz];refine Sz0 ?_;refine Qa hP hA rfl rfl rfl ?_;refine Sz0 ?_;refine Qb (fun h0=>?_) (fun h0=>?_)
 ·refine Sz0 ?_;exact Qc (by simp[cM,h0]) rfl
 refine Sz0 ?_;refine Qa hP hA rfl rfl rfl ?_;refine Sz0 ?_;refine Qb (fun hl=>?_) (fun hl=>?_)
 ·refine Sz0 ?_;exact Qc (by simp[cM,h0,hl]) rfl
 replace hl:(args.length:Int)=b9 k:=by omega
 refine Sz0 ?_;refine Q3 (by repeat (first|exact Qx|exact Qq|exact Qr|exact Qt|exact Qu|apply Qp|apply Qw|apply Q2|apply Q7|apply Q8|apply Qn|apply Q6)) [(4,4),(6,6),(21,32)] [] (fun m J hp=>∃i,m=args.length-i/\i<=args.length/\(∀j (h:j<args.length),j<i->0<=args[j]/\args[j]<n)/\J 21= .int .i64 (i:Nat)/\hp 2=some ⟨5,34,[PV.fG ⟨k,args,n0,a,d⟩],false⟩) args.length ?_ ?_
 ·refine⟨0,rfl,by omega,by omega,?_⟩;refine Sz0 ?_;rfl
 rintro _ J h ⟨i,rfl,hi,h1,lV,cq⟩;refine Sz1 lV ?_;refine Qb (fun hg=>?_) (fun hg=>?_)
 ·have aD:i<args.length:=by omega
  have h2:(args[i]<0∨n<=args[i])->cM ⟨k,args,n0,a,d⟩ n=2:=fun h=>Hx (f:=⟨k,args,n0,a,d⟩) h0 hl aD h;have dy:0<=args[i]/\args[i]<n->∀j (h:j<args.length),j<i+1->0<=args[j]/\args[j]<n:=fun h j hj mG=>by
   by_cases e:j=i
   ·subst e;exact h
   ·exact h1 j hj (by omega)
  generalize hx:args[i]=x at *
  refine Sz2 lV hx ?_;refine dA (fun h3=>?_) (fun h3=>?_)
  ·refine Sz0 ?_;exact Qc (by rw[h2 (.inl h3)]) rfl
  refine Sz0 ?_;refine Qb (fun h4=>?_) (fun h4=>?_)
  ·refine Sz0 ?_;exact Qc (by rw[h2 (.inr h4)]) rfl
  refine Sz1 lV ?_;refine Qm (args.length-(i+1)) (by omega) ⟨i+1,rfl,by omega,dy ⟨by omega,by omega⟩,?_⟩;exact Tz1 cq
 obtain rfl:i=args.length:=by omega
 have cU:=Hy (f:=⟨k,args,n0,a,d⟩) (n:=n) h0 hl (fun j hj=>h1 j hj hj);refine Sz1 cq ?_;by_cases h9:k=9
 ·subst h9;refine Sz1 cq ?_;refine Qa hP hr rfl rfl rfl ?_;cases hq:iz n0 a d
  ·refine Sz1 cq ?_;exact Qc (by rw[cU];simp[hq]) rfl
  ·refine Sz1 cq ?_;exact Qc (by rw[cU];simp[hq]) rfl
 ·have d9:decide (k=9)=false:=decide_eq_false h9;have ER:decide (¬k=9)=true:=decide_eq_true h9;refine Sz3 cq d9 ER ?_;refine Qa hP hz rfl rfl rfl ?_;cases hq:gT n0 a d
  ·refine Sz1 cq ?_;exact Qc (by rw[cU];simp[hq,h9]) rfl
  ·refine Sz1 cq ?_;exact Qc (by rw[cU];simp[hq,h9]) rfl
structure cC where
 k:Int
 name:ByteArray
 args:List Int
 n:Bool
 a:List Nat
 d:List Nat
abbrev PV.mS(s:cC):PV:=.agg [.int .i64 s.k,.str s.name,PV.mono s.args,.bool s.n,PV.nat s.a,PV.nat s.d]
abbrev PV.fh(S:List cC)(G:List cn):PV:=.agg [.sl 6 (S.map PV.mS),.sl 5 (G.map PV.fG)]
def bK(cs:List Cd)(l:List Int):List Cd:=l.map fun a=>cs.getD a.toNat ([],[])
def jd(k i:Int)(b:Nat):List Vr:=if k=1 then nj i b else if k=5 then [(1,i,0)]else if k=6 then [(1,i,0),(2,i,1),(2,i,2)]else if k=2∨k=3∨k=4 then []else [(2,i,0),(2,i,1)]
def gj(k:Int)(q:Rat)(l:List Cd)(n b:Nat):Cd:=
 if k=1 then nZ n b else if k=2 then qt (l.getD 0 ([],[])) (l.getD 1 ([],[])) (lz q)else
 if k=3 then(jQ (l.getD 0 ([],[])).1 (l.getD 2 ([],[])).1 (l.getD 1 ([],[])).1,jQ (l.getD 0 ([],[])).2 (l.getD 2 ([],[])).2 (l.getD 1 ([],[])).2)else
 if k=4 then(jQ (l.getD 0 ([],[])).1 (l.getD 1 ([],[])).2 (l.getD 2 ([],[])).2,jQ (l.getD 0 ([],[])).2 (l.getD 2 ([],[])).1 (l.getD 1 ([],[])).1)else
 if k=5 then qt (l.getD 0 ([],[])) (l.getD 1 ([],[])) (bX n)else if k=6 then(bX (n+1:Nat),bX (n+2:Nat))else(bX n,bX (n+1:Nat))
def fg(k:Int):Int:=if k=1 then 0 else if k=2∨k=5∨k=6∨k=14 then 2 else if k=3∨k=4∨k=7∨k=8∨k=10∨k=11 then 3 else if k=9∨k=12∨k=13 then 4 else -1
theorem XK{fr:Fr}{hp:HP}{K:Qg}{ty i d:Nat}{fz:Bool}{cs:List Cd}(h:i<cs.length):gw (some ⟨2,ty,cs.map PV.ay,fz⟩) 2 true i 0 d fr hp K=K (ae fr d (PV.ay (cs[i]'h))) hp:=by rw[mg (by rw[Ka3];exact h) (by omega) (by simp),KbQ];rfl
theorem XL{fr:Fr}{hp:HP}{K:Qg}{ty i d:Nat}{fz:Bool}{cs:List Cd}(h:i<cs.length):gw (some ⟨2,ty,cs.map PV.ay,fz⟩) 1 false i 0 d fr hp K=K (ae fr d (PV.ax (cs[i]'h).1)) hp:=by rw[mg (by rw[Ka3];exact h) (by omega) (by simp),KbQ];rfl
theorem Yo{fr:Fr}{hp:HP}{K:Qg}{ty i d:Nat}{fz:Bool}{cs:List Cd}(h:i<cs.length):gw (some ⟨2,ty,cs.map PV.ay,fz⟩) 1 false i 1 d fr hp K=K (ae fr d (PV.ax (cs[i]'h).2)) hp:=by rw[mg (by rw[Ka3];exact h) (by omega) (by simp),KbQ];rfl
theorem ZB{σ:Nat->Nat}{γ e ty:Nat}{cs:List PV}:cc σ (.aC γ e ty [.agg cs])= .aC (σ γ) e ty [ep (cs.map (cB σ))]:=rfl
theorem Yp{γ aS e ty:Nat}{cs:List PV}(h:aS≠γ):cL γ (.aC aS e ty [.agg cs])= .aC aS e ty [ep (cs.map (dE γ))]:=by simp[cL,h,PV.aQ,PV.cells]
theorem Yq{γ e ty:Nat}{cs:List PV}{nm:Nat->Bool}:lJ nm (.aC γ e ty [.agg cs])=if(γ::cs.flatMap PV.cG).any nm then .undef else .aC γ e ty [.agg cs]:=by simp[lJ,PV.refs,PV.aJ,PV.aQ,PV.cells]
attribute [go_sem] XK XL Yo ZB Yp Yq
structure oU(i:Nat)(s:cC):Prop where
 k:0<=fg s.k
 l:(s.args.length:Int)=fg s.k
 r:∀a∈s.args,0<=a/\a<(i:Nat)
 q:if s.k=2 then iz s.n s.a s.d=true else gT s.n s.a s.d=true
theorem Yr{S:List cC}{G:List cn}{i b:Nat}{cs:List Cd}{vs:List Vr}(hi:i<S.length)(hS:S.length<=1000)(bQ:oU i S[i])(ia:cs.length=i)(hc:∀c∈cs,CB c)(hv:vs.length<60)(hb:b<1000)(hr:S[i].k=2->S[i].a.length<=2/\S[i].d.length<=2/\Raw 1048576 S[i].n S[i].a S[i].d):
  mr 28 cs vs (vs++jd S[i].k (i:Nat) b) [PV.fh S G,.int .i64 (i:Nat),.int .i64 (b:Nat)] (PV.ay (gj S[i].k (rv S[i].n S[i].a S[i].d) (bK cs S[i].args) vs.length b)):=by
 have lL:S[i].args.length<=4:=by
  have:=bQ.l;unfold fg at this
  repeat' split at this
  all_goals omega
 obtain⟨s,hs⟩:∃s,S[i]=s:=⟨_,rfl⟩
 rw[hs]at bQ hr lL⊢;have vE:(bK cs s.args).length=s.args.length:=by simp[bK]
 have hL:∀c∈bK cs s.args,CB c:=fun c hm=>by obtain⟨a,ha,rfl⟩:=KaL.1 hm;have:=bQ.r a ha;rw[Kae,Kaf (show a.toNat<cs.length by omega)];exact hc _ (Kaq _)
 refine rV Qh Tryz.func28 rfl Yb (by simp[DZ]) fun C hP=>?_;simp only[DZ,Zo,Zg,Zm,Zc,Zf,Zl,Zh,Zs,Zi,Zb,Zk,Zn,Zu,Zq,Zr,Zz];refine Sz0 ?_;refine cO (ni 8 2000010 bd (by omega) rfl (by omega)) ?_;refine Sz0 ?_;refine cO (nc (γ:=2000010) (e:=2) (ty:=43) (xs:=[.agg [.aa,.aa]]) (fz:=false) Tz0 (by simp) (by omega) (fun x hx=>by rw[KaB.1 hx];rfl)) ?_;refine Sz1 hs ?_;refine mY 11 900 2 82 (by omega) Tz0 ?_;refine J9 (by repeat (first|exact Qx|exact Qq|exact Qr|exact Qt|exact Qu|apply Qp|apply Qw|apply Q2|apply Q7|apply Q8|apply Qn)) [(4,4),(8,8),(11,11),(13,13),(26,38),(2000010,2000010),(4000004,4000004)] [36,37,900] (fun q J hp=>∃j,q=s.args.length-j/\j<=s.args.length/\J 11= .ms 900 j/\J 4= .np 4000004 0 0/\J 8= .np 2000010 0 0/\J 26= .int .i64 (j:Nat)/\J 4000004= .aC 4000004 2 43 [wV cs.length vs.length]/\J 2000010= .aC 2000010 2 43 [.agg [.aa,.aa]]/\hp 4000004=some ⟨2,43,[],false⟩/\hp 2000010=some ⟨2,43,[],false⟩/\hp 2000011=none/\
   hp 2000000=some (s9 cs)/\hp 2000001=some (tc vs)/\hp 9=some ⟨2,82,[.agg [.aa,.aa]],false⟩/\hp 10=some ⟨6,76,[PV.mS s],false⟩/\hp 900=some ⟨2,82,((bK cs s.args).take j).map PV.ay,false⟩) s.args.length ?_ ?_
 ·refine⟨0,rfl,by omega,?_⟩;refine Sz0 ?_;rfl
 rintro _ J h ⟨j,rfl,hj,kq,j4,j8,zI,g4,g8,h4,h8,hn,h0,h1,h9,bC,et⟩;refine Sz1 zI ?_;refine Qb (fun hg=>?_) (fun hg=>?_)
 ·have dq:j<s.args.length:=by omega
  have FG:j<(bK cs s.args).length:=by omega
  obtain⟨m,hm⟩:∃m:Nat,s.args[j]=(m:Int):=⟨s.args[j].toNat,by have:=bQ.r _ (Kaq dq);omega⟩
  have vY:m<cs.length:=by have:=bQ.r _ (Kaq dq);omega
  have EV:(bK cs s.args)[j]=cs[m]:=by simp only[bK,KbQ,hm,KbW];rw[Kae,Kaf vY];rfl
  have cE:(bK cs s.args).take (j+1)=(bK cs s.args).take j++[cs[m]]:=by rw[<-EV];exact KaG FG
  have nE:j=((bK cs s.args).take j).length:=by rw[Kav];omega
  generalize hy:cs[m]=y at *
  refine Sz7 zI kq j4 g4 h0 hm hy ?_;rw[dB (f:=PV.ay) (y:=y) (xs:=(bK cs s.args).take j) (ty':=82) (fz:=false) (Tz1 et) bd (by omega) nE (by omega) (by omega)];refine qH zI kq j4 j8 g4 g8 h4 h8 h0 h1 h9 bC ?_;refine BS (s.args.length-(j+1)) (by omega) ⟨j+1,rfl,by omega,?_⟩;exact Tz14 zI kq j4 j8 g4 g8 h4 h8 hn h0 h1 h9 bC cE
 obtain rfl:j=s.args.length:=by omega
 rw[Kaj (by omega)]at et;obtain⟨L,hLe⟩:∃L,bK cs s.args=L:=⟨_,rfl⟩
 rw[hLe]at et vE hL⊢;have hlen:=bQ.l;have hq:=bQ.q;have hk:s.k=1∨s.k=2∨s.k=3∨s.k=4∨s.k=5∨s.k=6∨(7<=s.k/\s.k<=14):=by
  have:=bQ.k;unfold fg at this
  repeat' split at this
  all_goals omega
 clear hs bQ;generalize s.args=args at *
 obtain⟨k,nm,ar,n0,a0,d0⟩:=s;simp only at *
 refine Sz1 bC ?_;rcases hk with rfl|rfl|rfl|rfl|rfl|rfl|⟨L2,pL⟩
 ·have hf:=XE (cs:=cs) (vs:=vs) (s:=(i:Nat)) (b:=b) (by omega) hb;rw[show jd 1 (i:Nat) b=nj (i:Nat) b from rfl,show gj 1 (rv n0 a0 d0) L vs.length b=nZ vs.length b from rfl];refine Sz6 j4 j8 g4 g8 h4 h8 ?_;refine me hP hf (Tz1 h0) (Tz1 h1) rfl rfl rfl (by simp) ?_;refine Sz4 j8 g8 h8 h9 ?_;refine ma (γ:=2000010) (ty:=43) (n:=cs.length) (m:=(vs++nj (i:Nat) b).length) (Tz1 j8) Tz0 (q:=PV.ay (nZ vs.length b)) (jV h9) rfl ⟨rfl,by simp+decide (disch:=try exact D0) only[go_sem],by simp+decide (disch:=try exact D0) only[go_sem]⟩
 ·have jY:args.length=2:=by have:fg 2=2:=(by decide);omega
  have bP:∀n,n<2->∃c,(∀h:n<L.length,L[n]'h=c)/\L.getD n ([],[])=c/\CB c:=fun n hn=>by
   have rk:n<L.length:=by omega
   exact⟨L[n],fun _=>rfl,by rw[Kae,Kaf rk];rfl,hL _ (Kaq _)⟩
  obtain⟨c0,f0,g0,b0⟩:=bP 0 (by omega);obtain⟨c1,f1,g1,b1⟩:=bP 1 (by omega);rw[jY]at kq;obtain⟨q1,q2,q3⟩:=hr rfl;have hC:=Qvr (k:=1048576) q3 (by omega);have cr:rs (rv n0 a0 d0)+1<=2^17:=by have:=(show Raw 2 n0 a0 d0 from⟨q3.la,q3.ld,q1,q2,by omega⟩).rs;omega
  have EW:=GD (m:=lz (rv n0 a0 d0)) b0 b1 ((PQ.const cr).mono (Kag _) (Kag _) (by omega)) (by omega) (by omega) (by omega) (by omega);rw[show jd 2 (i:Nat) b=[]from rfl,show gj 2 (rv n0 a0 d0) L vs.length b=qt (L.getD 0 ([],[])) (L.getD 1 ([],[])) (lz (rv n0 a0 d0))from rfl,g0,g1,Kao];refine wT j4 j8 kq g4 g8 h4 h8 bC et f0 f1 ?_;refine Qa hP hC rfl rfl rfl ?_;refine wT j4 j8 kq g4 g8 h4 h8 bC et f0 f1 ?_;refine Qa hP EW rfl rfl rfl ?_;refine Sz4 j8 g8 h8 h9 ?_;refine ma (γ:=2000010) (ty:=43) (n:=cs.length) (m:=vs.length) (Tz1 j8) Tz0 (q:=PV.ay (qt c0 c1 (lz (rv n0 a0 d0)))) (jV h9) rfl ⟨rfl,by simp+decide (disch:=try exact D1 h0) only[go_sem,h0],by simp+decide (disch:=try exact D1 h1) only[go_sem,h1]⟩
 ·have jY:args.length=3:=by have:fg 3=3:=(by decide);omega
  have bP:∀n,n<3->∃c,(∀h:n<L.length,L[n]'h=c)/\L.getD n ([],[])=c/\CB c:=fun n hn=>by
   have rk:n<L.length:=by omega
   exact⟨L[n],fun _=>rfl,by rw[Kae,Kaf rk];rfl,hL _ (Kaq _)⟩
  obtain⟨c0,f0,g0,qQ⟩:=bP 0 (by omega);obtain⟨c1,f1,g1,vC⟩:=bP 1 (by omega);obtain⟨c2,f2,g2,vD⟩:=bP 2 (by omega);rw[jY]at kq;have p1:=yz (qQ.x) (vD.x) (vC.x) (by omega) (by omega) (by omega);have p2:=yz (qQ.y) (vD.y) (vC.y) (by omega) (by omega) (by omega);have e2:gj 3 (rv n0 a0 d0) L vs.length b=(jQ c0.1 c2.1 c1.1,jQ c0.2 c2.2 c1.2):=by rw[<-g0,<-g1,<-g2];rfl
  rw[show jd 3 (i:Nat) b=[]from rfl,e2,Kao];refine qH j4 j8 kq g4 g8 h4 h8 bC et f0 f1 f2 ?_;refine Qa hP p1 rfl rfl rfl ?_;refine qH j4 j8 kq g4 g8 h4 h8 bC et f0 f1 f2 ?_;refine Qa hP p2 rfl rfl rfl ?_;refine Sz4 j8 g8 h8 h9 ?_;refine ma (γ:=2000010) (ty:=43) (n:=cs.length) (m:=vs.length) (Tz1 j8) Tz0 (q:=PV.ay (jQ c0.1 c2.1 c1.1,jQ c0.2 c2.2 c1.2)) (jV h9) rfl ⟨rfl,by simp+decide (disch:=try exact D1 h0) only[go_sem,h0],by simp+decide (disch:=try exact D1 h1) only[go_sem,h1]⟩
 ·have jY:args.length=3:=by have:fg 4=3:=(by decide);omega
  have bP:∀n,n<3->∃c,(∀h:n<L.length,L[n]'h=c)/\L.getD n ([],[])=c/\CB c:=fun n hn=>by
   have rk:n<L.length:=by omega
   exact⟨L[n],fun _=>rfl,by rw[Kae,Kaf rk];rfl,hL _ (Kaq _)⟩
  obtain⟨c0,f0,g0,qQ⟩:=bP 0 (by omega);obtain⟨c1,f1,g1,vC⟩:=bP 1 (by omega);obtain⟨c2,f2,g2,vD⟩:=bP 2 (by omega);rw[jY]at kq;have p1:=yz (qQ.x) (vC.y) (vD.y) (by omega) (by omega) (by omega);have p2:=yz (qQ.y) (vD.x) (vC.x) (by omega) (by omega) (by omega);have e2:gj 4 (rv n0 a0 d0) L vs.length b=(jQ c0.1 c1.2 c2.2,jQ c0.2 c2.1 c1.1):=by rw[<-g0,<-g1,<-g2];rfl
  rw[show jd 4 (i:Nat) b=[]from rfl,e2,Kao];refine qH j4 j8 kq g4 g8 h4 h8 bC et f0 f1 f2 ?_;refine Qa hP p1 rfl rfl rfl ?_;refine qH j4 j8 kq g4 g8 h4 h8 bC et f0 f1 f2 ?_;refine Qa hP p2 rfl rfl rfl ?_;refine Sz4 j8 g8 h8 h9 ?_;refine ma (γ:=2000010) (ty:=43) (n:=cs.length) (m:=vs.length) (Tz1 j8) Tz0 (q:=PV.ay (jQ c0.1 c1.2 c2.2,jQ c0.2 c2.1 c1.1)) (jV h9) rfl ⟨rfl,by simp+decide (disch:=try exact D1 h0) only[go_sem,h0],by simp+decide (disch:=try exact D1 h1) only[go_sem,h1]⟩
 ·have jY:args.length=2:=by have:fg 5=2:=(by decide);omega
  have bP:∀n,n<2->∃c,(∀h:n<L.length,L[n]'h=c)/\L.getD n ([],[])=c/\CB c:=fun n hn=>by
   have rk:n<L.length:=by omega
   exact⟨L[n],fun _=>rfl,by rw[Kae,Kaf rk];rfl,hL _ (Kaq _)⟩
  obtain⟨c0,f0,g0,b0⟩:=bP 0 (by omega);obtain⟨c1,f1,g1,b1⟩:=bP 1 (by omega);rw[jY]at kq;have hf:=su (cs:=cs) (vs:=vs) (k:=1) (s:=(i:Nat)) (m:=0) (by omega);have EW:=GD (m:=bX vs.length) b0 b1 ((PQ.var).mono (Kag _) (by omega) (by omega)) (by omega) (by omega) (by omega) (by omega);have e2:gj 5 (rv n0 a0 d0) L vs.length b=qt c0 c1 (bX vs.length):=by rw[<-g0,<-g1];rfl
  rw[show jd 5 (i:Nat) b=[(1,((i:Nat):Int),0)]from rfl,e2];refine Sz6 j4 j8 g4 g8 h4 h8 ?_;refine me hP hf (Tz1 h0) (Tz1 h1) rfl rfl rfl (by simp) ?_;refine Sz3 j8 g8 h8 ?_;refine cO (ni 14 2000011 (Tz1 hn) (by omega) rfl (by omega)) ?_;refine Sz1 g8 ?_;refine cO (nc (γ:=2000011) (e:=2) (ty:=43) (xs:=[.agg [.aa,.aa]]) (fz:=false) Tz0 (by simp) (by omega) (fun x hx=>by rw[KaB.1 hx];rfl)) ?_;refine Sz5 g8 kq et f0 f1 ?_;refine Qa hP EW rfl rfl rfl ?_;refine Sz4 j8 g8 h8 h9 ?_;refine ma (γ:=2000010) (ty:=43) (n:=cs.length) (m:=(vs++[(1,((i:Nat):Int),0)]).length) (Tz1 j8) Tz0 (q:=PV.ay (qt c0 c1 (bX vs.length))) (jV h9) rfl ⟨rfl,by simp+decide (disch:=try exact D0) only[go_sem],by simp+decide (disch:=try exact D0) only[go_sem]⟩
 ·have hf:=su (cs:=cs) (vs:=vs) (k:=1) (s:=(i:Nat)) (m:=0) (by omega);have e1:(vs++[(1,((i:Nat):Int),(0:Int))]).length=vs.length+1:=by simp
  have hd:=Is (cs:=cs) (vs:=vs++[(1,((i:Nat):Int),(0:Int))]) (s:=(i:Nat)) (m:=1) (by rw[e1];omega) (by omega);have e3:vs++[(1,((i:Nat):Int),(0:Int))]++[(2,((i:Nat):Int),(1:Int)),(2,((i:Nat):Int),(1:Int)+1)]=vs++jd 6 (i:Nat) b:=by rw[Kbv];rfl
  have e4:(vs++jd 6 (i:Nat) b).length=vs.length+3:=by rw[<-e3];simp
  rw[mr,e3,e1,e4]at hd;rw[mr,e1]at hf;rw[show gj 6 (rv n0 a0 d0) L vs.length b=(bX (vs.length+1:Nat),bX (vs.length+2:Nat))from rfl,e4];refine Sz6 j4 j8 g4 g8 h4 h8 ?_;refine me hP hf (Tz1 h0) (Tz1 h1) rfl rfl rfl (by simp) ?_;refine Sz3 j8 g8 h8 ?_;refine cO (ni 16 2000011 (Tz1 hn) (by omega) rfl (by omega)) ?_;refine Sz1 g8 ?_;refine cO (nc (γ:=2000011) (e:=2) (ty:=43) (xs:=[.agg [.aa,.aa]]) (fz:=false) Tz0 (by simp) (by omega) (fun x hx=>by rw[KaB.1 hx];rfl)) ?_;refine Sz1 g8 ?_;refine me hP hd Tz0 Tz0 rfl rfl rfl (by simp) ?_;refine Sz4 j8 g8 h8 h9 ?_;refine ma (γ:=2000010) (ty:=43) (n:=cs.length) (m:=vs.length+3) (Tz1 j8) Tz0 (q:=PV.ay (bX (vs.length+1:Nat),bX (vs.length+2:Nat))) (jV h9) rfl ⟨rfl,by simp+decide (disch:=try exact D0) only[go_sem],by simp+decide (disch:=try exact D0) only[go_sem]⟩
 ·have hf:=Is (cs:=cs) (vs:=vs) (s:=(i:Nat)) (m:=0) (by omega) (by omega);have d1:decide (k=1)=false:=decide_eq_false (by omega);have d2:decide (k=2)=false:=decide_eq_false (by omega);have d3:decide (k=3)=false:=decide_eq_false (by omega);have d4:decide (k=4)=false:=decide_eq_false (by omega);have d5:decide (k=5)=false:=decide_eq_false (by omega);have d6:decide (k=6)=false:=decide_eq_false (by omega);have e1:jd k (i:Nat) b=[(2,((i:Nat):Int),(0:Int)),(2,((i:Nat):Int),(0:Int)+1)]:=by unfold jd;rw[if_neg (by omega),if_neg (by omega),if_neg (by omega),if_neg (by omega)];rfl
  have e2:gj k (rv n0 a0 d0) L vs.length b=(bX vs.length,bX (vs.length+1:Nat)):=by unfold gj;rw[if_neg (by omega),if_neg (by omega),if_neg (by omega),if_neg (by omega),if_neg (by omega),if_neg (by omega)]
  rw[e1,e2];refine qH j4 j8 g4 g8 h4 h8 d1 d2 d3 d4 d5 d6 ?_;refine me hP hf (Tz1 h0) (Tz1 h1) rfl rfl rfl (by simp) ?_;refine Sz4 j8 g8 h8 h9 ?_;refine ma (γ:=2000010) (ty:=43) (n:=cs.length) (m:=(vs++[(2,((i:Nat):Int),(0:Int)),(2,((i:Nat):Int),(0:Int)+1)]).length) (Tz1 j8) Tz0 (q:=PV.ay (bX vs.length,bX (vs.length+1:Nat))) (jV h9) rfl ⟨rfl,by simp+decide (disch:=try exact D0) only[go_sem],by simp+decide (disch:=try exact D0) only[go_sem]⟩
def nH(n:Nat):Bool:=(decide (65<=n)&&decide (n<=90))||(decide (97<=n)&&decide (n<=122))
def yP(n:Nat):Bool:=decide (48<=n)&&decide (n<=57)
theorem Ol{n:Nat}:Qd Tryz.prog 142 [.int .u8 n] (· = .bool (nH n)):=by
 refine Qf Qh Tryz.func142 rfl VB (by simp[DC]) fun C hP=>?_;simp only[DC,Zo,Zg,Zm,Zc,Zf,Zl,Zh,Zs,Zi,Zb,Zk,Zn,Zu,Zq,Zr,Zz];refine Sz0 ?_;refine eK (fun h1=>?_) (fun h1=>?_)
 ·refine Sz0 ?_;refine dA (fun h2=>?_) (fun h2=>?_)
  ·refine Sz0 ?_;exact Qc (by simp[nH,show 65<=n by omega,show n<=90 by omega]) rfl
  refine Sz0 ?_;refine eK (fun h3=>?_) (fun h3=>?_)
  ·refine Sz0 ?_;exact Qc (by simp[nH,show ¬n<=90 by omega,show 97<=n by omega];omega) rfl
  ·refine Sz0 ?_;exact Qc (by simp[nH,show ¬n<=90 by omega,show ¬97<=n by omega]) rfl
 ·refine Sz0 ?_;refine eK (fun h3=>?_) (fun h3=>?_)
  ·omega
  ·refine Sz0 ?_;exact Qc (by simp[nH,show ¬65<=n by omega,show ¬97<=n by omega]) rfl
theorem P0{n:Nat}:Qd Tryz.prog 143 [.int .u8 n] (· = .bool (yP n)):=by
 refine Qf Qh Tryz.func143 rfl VC (by simp[DD]) fun C hP=>?_;simp only[DD,Zo,Zg,Zm,Zc,Zf,Zl,Zh,Zs,Zi,Zb,Zk,Zn,Zu,Zq,Zr,Zz];refine Sz0 ?_;refine eK (fun h1=>?_) (fun h1=>?_)
 ·refine Sz0 ?_;exact Qc (by simp[yP,show 48<=n by omega];omega) rfl
 ·refine Sz0 ?_;exact Qc (by simp[yP,show ¬48<=n by omega]) rfl
def lW:List ByteArray:=[⟨#[97,110,103,108,101]⟩,⟨#[97,112,101,120]⟩,⟨#[98,105,115,101,99,116,111,114]⟩,⟨#[99,101,110,116,101,114]⟩,⟨#[99,105,114,99,108,101]⟩,⟨#[99,105,114,99,117,109]⟩,⟨#[99,111,108,108,105,110,101,97,114]⟩,⟨#[99,111,109,109,111,110]⟩,⟨#[99,111,110,99,121,99,108,105,99]⟩,⟨#[99,111,110,103,114,117,101,110,116]⟩,⟨#[99,114,111,115,115]⟩,⟨#[99,117,116]⟩,⟨#[100,105,118,105,100,101]⟩,⟨#[102,111,111,116]⟩,⟨#[108,105,110,101]⟩,⟨#[109,101,101,116]⟩,⟨#[109,105,100,112,111,105,110,116]⟩,⟨#[109,105,114,114,111,114]⟩,⟨#[111,110]⟩,⟨#[111,116,104,101,114]⟩,⟨#[112,97,114,97,108,108,101,108]⟩,⟨#[112,101,114,112,101,110,100,105,99,117,108,97,114]⟩,⟨#[112,111,105,110,116,115]⟩,⟨#[112,114,111,118,101]⟩,⟨#[114,97,116,105,111]⟩,⟨#[114,101,102,108,101,99,116]⟩,⟨#[115,97,109,101]⟩,⟨#[115,104,105,102,116]⟩,⟨#[116,117,114,110]⟩]
structure Nm(s:ByteArray):Prop where
 p:0<s.size
 l:s.size<=20
 a:∀i (h:i<s.size),nH (s[i]'h).toNat=true
 k:∀k∈lW,s≠k
theorem Qx4:Qd Tryz.prog 144 [] (· = .sl 1 (lW.map PV.str)):=by
 refine Qf Qh Tryz.func144 rfl VD (by simp[DE]) fun C hP=>?_;simp only[DE,Zo,Zg,Zm,Zc,Zf,Zl,Zh,Zs,Zi,Zb,Zk,Zn,Zu,Zq,Zr,Zz];refine Sz0 ?_;rw[sm rfl (fun p hp=>by
  have:∀p∈lW.map PV.str,p.cells.length=1:=fun p hp=>by obtain⟨b,_,rfl⟩:=KaL.1 hp;rfl
  exact this p hp) (by omega)]
 refine Sz0 ?_;exact eX (e:=1) (ty:=9) (xs:=lW.map PV.str) (fz:=false) rfl rfl
structure oa(s:cC):Prop where
 n:s.name.size<2^40
 l:s.args.length<2^40
 r:Raw 1048576 s.n s.a s.d
def qj:Prop:=∀s:ByteArray,s.size<2^40->Qd Tryz.prog 106 [PV.str s] (fun r=>∃b,r= .bool b/\(Nm s->b=true))
structure Hi(S:List cC)(i:Nat)(s:cC):Prop where
 ok:oU i s
 n:s.name= .empty∨(Nm s.name/\∀j (h:j<S.length),j<i->S[j].name≠s.name)
theorem P1(k:Int):(k=1∨k=2∨k=3∨k=4∨k=5∨k=6∨k=7∨k=8∨k=9∨k=10∨k=11∨k=12∨k=13∨k=14)∨(k≠1/\k≠2/\k≠3/\k≠4/\k≠5/\k≠6/\k≠7/\k≠8/\k≠9/\k≠10/\k≠11/\k≠12/\k≠13/\k≠14):=by omega
theorem P2{k:Int}:Qd Tryz.prog 104 [.int .i64 k] (· = .int .i64 (fg k)):=by
 rcases P1 k with h|⟨h1,h2,h3,h4,h5,h6,h7,h8,h9,bC,cD,fO,gq,gH⟩
 ·rcases h with rfl|rfl|rfl|rfl|rfl|rfl|rfl|rfl|rfl|rfl|rfl|rfl|rfl|rfl
  all_goals
   refine Qf Qh Tryz.func104 rfl GC (by simp[vn]) fun C hP=>?_;simp only[vn,Zo,Zg,Zm,Zc,Zf,Zl,Zh,Zs,Zi,Zb,Zk,Zn,Zu,Zq,Zr,Zz];refine Sz0 ?_;exact Qc rfl rfl
 ·have e:fg k= -1:=by simp[fg,h1,h2,h3,h4,h5,h6,h7,h8,h9,bC,cD,fO,gq,gH]
  rw[e];have d1:decide (k=1)=false:=decide_eq_false h1;have d2:decide (k=2)=false:=decide_eq_false h2;have d3:decide (k=3)=false:=decide_eq_false h3;have d4:decide (k=4)=false:=decide_eq_false h4;have d5:decide (k=5)=false:=decide_eq_false h5;have d6:decide (k=6)=false:=decide_eq_false h6;have d7:decide (k=7)=false:=decide_eq_false h7;have d8:decide (k=8)=false:=decide_eq_false h8;have d9:decide (k=9)=false:=decide_eq_false h9;have d10:decide (k=10)=false:=decide_eq_false bC;have d11:decide (k=11)=false:=decide_eq_false cD;have d12:decide (k=12)=false:=decide_eq_false fO;have d13:decide (k=13)=false:=decide_eq_false gq;have d14:decide (k=14)=false:=decide_eq_false gH;have dd:decide (k=1)=false/\decide (k=2)=false/\decide (k=3)=false/\decide (k=4)=false/\decide (k=5)=false/\decide (k=6)=false/\decide (k=7)=false/\decide (k=8)=false/\decide (k=9)=false/\decide (k=10)=false/\decide (k=11)=false/\decide (k=12)=false/\decide (k=13)=false/\decide (k=14)=false:=⟨d1,d2,d3,d4,d5,d6,d7,d8,d9,d10,d11,d12,d13,d14⟩
  refine Qf Qh Tryz.func104 rfl GC (by simp[vn]) fun C hP=>?_;simp only[vn,Zo,Zg,Zm,Zc,Zf,Zl,Zh,Zs,Zi,Zb,Zk,Zn,Zu,Zq,Zr,Zz];refine Sz1 dd ?_;exact Qc rfl rfl
theorem dv{p:PV}{R:PV->Prop}(h:R p)(hd:p.aA=true):qE R p:=⟨hd,p,bT _,h⟩
theorem P3(hN:qj){S:List cC}{i:Nat}(hS:S.length<2^40)(hb:∀s∈S,oa s)(hi:i<S.length):Qd Tryz.prog 43 [.sl 6 (S.map PV.mS),.int .i64 (i:Nat)] (fun r=>∃e:Int,r= .int .i64 e/\(e=0->oU i S[i])/\(Hi S i S[i]->e=0)):=by
 have om:=hb _ (Kaq hi);have hA:∀k,Qd Tryz.prog 104 [.int .i64 k] (· = .int .i64 (fg k)):=fun k=>P2;obtain⟨s,hs⟩:∃s,S[i]=s:=⟨_,rfl⟩
 rw[hs]at om⊢;have hr:=HV om.r (by omega);have hz:=R9 om.r;have eS:=hN s.name om.n;have lL:=om.l;refine Qf Qh Tryz.func43 rfl XU (by simp[Ef]) fun C hP=>?_;simp only[Ef,Zo,Zg,Zm,Zc,Zf,Zl,Zh,Zs,Zi,Zb,Zk,Zn,Zu,Zq,Zr,Zz];refine Sz1 hs ?_;refine Qa hP (hA _) rfl rfl rfl ?_;refine Sz0 ?_;refine Qb (fun h0=>?_) (fun h0=>?_)
 ·refine Sz0 ?_;exact dv ⟨8,rfl,fun h=>(by cases h),fun q=>absurd q.ok.k (by omega)⟩ rfl
 refine Sz0 ?_;refine Qa hP (hA _) rfl rfl rfl ?_;refine Sz0 ?_;refine Qb (fun hl=>?_) (fun hl=>?_)
 ·refine Sz0 ?_;exact dv ⟨1,rfl,fun h=>(by cases h),fun q=>absurd q.ok.l (by omega)⟩ rfl
 replace hl:(s.args.length:Int)=fg s.k:=by omega
 refine Sz0 ?_;refine Q3 (by repeat (first|exact Qx|exact Qq|exact Qr|exact Qt|exact Qu|apply Qp|apply Qw|apply Q2|apply Q7|apply Q8|apply Qn|apply Q6)) [(4,4),(7,7),(28,39)] [] (fun m J hp=>∃j,m=s.args.length-j/\j<=s.args.length/\(∀n (h:n<s.args.length),n<j->0<=s.args[n]/\s.args[n]<(i:Nat))/\J 28= .int .i64 (j:Nat)/\hp 5=some ⟨6,76,[PV.mS s],false⟩) s.args.length ?_ ?_
 ·refine⟨0,rfl,by omega,by omega,?_⟩;refine Sz0 ?_;rfl
 rintro _ J h ⟨j,rfl,hj,zy,F9,eF⟩;refine Sz1 F9 ?_;refine Qb (fun hg=>?_) (fun hg=>?_)
 ·have dq:j<s.args.length:=by omega
  have dy:0<=s.args[j]/\s.args[j]<(i:Nat)->∀n (h:n<s.args.length),n<j+1->0<=s.args[n]/\s.args[n]<(i:Nat):=fun h n hn hnj=>by
   by_cases e:n=j
   ·subst e;exact h
   ·exact zy n hn (by omega)
  have LC:=Kaq dq;generalize hx:s.args[j]=x at *
  refine Sz2 F9 hx ?_;refine dA (fun h3=>?_) (fun h3=>?_)
  ·refine Sz0 ?_;exact dv ⟨2,rfl,fun h=>(by cases h),fun q=>by have:=q.ok.r x LC;omega⟩ rfl
  refine Sz0 ?_;refine Qb (fun h4=>?_) (fun h4=>?_)
  ·refine Sz0 ?_;exact dv ⟨2,rfl,fun h=>(by cases h),fun q=>by have:=q.ok.r x LC;omega⟩ rfl
  refine Sz1 F9 ?_;refine Qm (s.args.length-(j+1)) (by omega) ⟨j+1,rfl,by omega,dy ⟨by omega,by omega⟩,?_⟩;exact Tz1 eF
 obtain rfl:j=s.args.length:=by omega
 have Mi:∀a∈s.args,0<=a/\a<(i:Nat):=fun a ha=>by obtain⟨n,hn,rfl⟩:=Ka0 ha;exact zy n hn hn
 refine Sz1 eF ?_;by_cases h2:s.k=2
 ·have d2:decide (s.k=2)=true:=decide_eq_true h2;have qN:decide (¬s.k=2)=false:=by simp[h2]
  refine Sz3 eF d2 qN ?_;refine Qa hP hr rfl rfl rfl ?_;cases hq:iz s.n s.a s.d
  ·refine Sz3 eF d2 qN ?_;exact dv ⟨1,rfl,fun h=>(by cases h),fun q=>by have:=q.ok.q;rw[if_pos h2,hq]at this;cases this⟩ rfl
  have cU:oU i s:=⟨by omega,hl,Mi,by rw[if_pos h2];exact hq⟩
  refine Sz3 eF d2 qN ?_;have cE:(S.take i).length<=S.length:=by rw[Kav];omega
  refine Qb (fun gJ=>?_) (fun gJ=>?_)
  ·refine Sz1 eF ?_;exact dv ⟨0,rfl,fun _=>cU,fun _=>rfl⟩ rfl
  refine Sz1 eF ?_;refine gz hP eS rfl rfl rfl ?_;rintro _ ⟨bn,rfl,qU⟩;cases bn
  ·refine Sz1 eF ?_;exact dv ⟨6,rfl,fun h=>(by cases h),fun q=>by rcases q.n with q|q;exact absurd q gJ;exact absurd (qU q.1) (by decide)⟩ rfl
  refine Sz1 eF ?_;refine Q3 (by repeat (first|exact Qx|exact Qq|exact Qr|exact Qt|exact Qu|apply Qp|apply Qw|apply Q2|apply Q7|apply Q8|apply Qn|apply Q6)) [(4,4),(9,9),(71,80)] [9] (fun m J hp=>∃j,m=(S.take i).length-j/\j<=(S.take i).length/\J 71= .int .i64 (j:Nat)/\hp 5=some ⟨6,76,[PV.mS s],false⟩) (S.take i).length ?_ ?_
  ·refine⟨0,rfl,by omega,?_⟩;refine Sz1 eF ?_;rfl
  rintro _ J2 h2 ⟨j,rfl,hj,rD,eF⟩;refine Sz1 rD ?_;refine Qb (fun hg=>?_) (fun hg=>?_)
  ·have dq:j<(S.take i).length:=by omega
   have wa:(∀j (h:j<S.length),j<i->S[j].name≠s.name)->(S.take i)[j].name≠s.name:=fun q=>by rw[List.getElem_take];exact q j (by rw[Kav]at dq;omega) (by rw[Kav]at dq;omega)
   generalize hx:(S.take i)[j]=x at *
   refine Sz3 rD hx eF ?_;refine Qb (fun he=>?_) (fun he=>?_)
   ·refine Sz1 eF ?_;exact dv ⟨7,rfl,fun h=>(by cases h),fun q=>by rcases q.n with q|q;exact absurd q gJ;exact absurd he (wa q.2)⟩ rfl
   refine Sz1 rD ?_;refine Qm ((S.take i).length-(j+1)) (by omega) ⟨j+1,rfl,by omega,?_⟩;exact Tz1 eF
  refine Sz0 ?_;exact dv ⟨0,rfl,fun _=>cU,fun _=>rfl⟩ rfl
 ·have d2:decide (s.k=2)=false:=decide_eq_false h2;have qN:decide (¬s.k=2)=true:=by simp[h2]
  refine Sz3 eF d2 qN ?_;refine Qa hP hz rfl rfl rfl ?_;cases hq:gT s.n s.a s.d
  ·refine Sz3 eF d2 qN ?_;exact dv ⟨1,rfl,fun h=>(by cases h),fun q=>by have:=q.ok.q;rw[if_neg h2,hq]at this;cases this⟩ rfl
  have cU:oU i s:=⟨by omega,hl,Mi,by rw[if_neg h2];exact hq⟩
  refine Sz3 eF d2 qN ?_;have cE:(S.take i).length<=S.length:=by rw[Kav];omega
  refine Qb (fun gJ=>?_) (fun gJ=>?_)
  ·refine Sz1 eF ?_;exact dv ⟨0,rfl,fun _=>cU,fun _=>rfl⟩ rfl
  refine Sz1 eF ?_;refine gz hP eS rfl rfl rfl ?_;rintro _ ⟨bn,rfl,qU⟩;cases bn
  ·refine Sz1 eF ?_;exact dv ⟨6,rfl,fun h=>(by cases h),fun q=>by rcases q.n with q|q;exact absurd q gJ;exact absurd (qU q.1) (by decide)⟩ rfl
  refine Sz1 eF ?_;refine Q3 (by repeat (first|exact Qx|exact Qq|exact Qr|exact Qt|exact Qu|apply Qp|apply Qw|apply Q2|apply Q7|apply Q8|apply Qn|apply Q6)) [(4,4),(9,9),(71,80)] [9] (fun m J hp=>∃j,m=(S.take i).length-j/\j<=(S.take i).length/\J 71= .int .i64 (j:Nat)/\hp 5=some ⟨6,76,[PV.mS s],false⟩) (S.take i).length ?_ ?_
  ·refine⟨0,rfl,by omega,?_⟩;refine Sz1 eF ?_;rfl
  rintro _ J2 h2 ⟨j,rfl,hj,rD,eF⟩;refine Sz1 rD ?_;refine Qb (fun hg=>?_) (fun hg=>?_)
  ·have dq:j<(S.take i).length:=by omega
   have wa:(∀j (h:j<S.length),j<i->S[j].name≠s.name)->(S.take i)[j].name≠s.name:=fun q=>by rw[List.getElem_take];exact q j (by rw[Kav]at dq;omega) (by rw[Kav]at dq;omega)
   generalize hx:(S.take i)[j]=x at *
   refine Sz3 rD hx eF ?_;refine Qb (fun he=>?_) (fun he=>?_)
   ·refine Sz1 eF ?_;exact dv ⟨7,rfl,fun h=>(by cases h),fun q=>by rcases q.n with q|q;exact absurd q gJ;exact absurd he (wa q.2)⟩ rfl
   refine Sz1 rD ?_;refine Qm ((S.take i).length-(j+1)) (by omega) ⟨j+1,rfl,by omega,?_⟩;exact Tz1 eF
  refine Sz0 ?_;exact dv ⟨0,rfl,fun _=>cU,fun _=>rfl⟩ rfl
structure sL(S:List cC)(G:List cn):Prop where
 s:∀i (h:i<S.length),oU i S[i]
 g:∀g∈G,cM g S.length=0
 l:S.length<=40
structure Cl(S:List cC)(G:List cn):Prop where
 ok:sL S G
 s:∀i (h:i<S.length),Hi S i S[i]
 gl:G.length<=8
theorem Jn(hN:qj){S:List cC}{G:List cn}(hS:S.length<2^40)(hG:G.length<2^40)(hb:∀s∈S,oa s)(hg:∀g∈G,ns g):
  Qd Tryz.prog 21 [PV.fh S G] (fun r=>∃e:Int,r= .int .i64 e/\(e=0->sL S G)/\(Cl S G->e=0)):=by
 refine Qf Qh Tryz.func21 rfl XT (by simp[DT]) fun C hP=>?_;simp only[DT,Zo,Zg,Zm,Zc,Zf,Zl,Zh,Zs,Zi,Zb,Zk,Zn,Zu,Zq,Zr,Zz];refine Sz0 ?_;refine dA (fun h40=>?_) (fun h40=>?_)
 ·refine Sz0 ?_;exact dv ⟨4,rfl,fun h=>(by cases h),fun q=>absurd q.ok.l (by omega)⟩ rfl
 refine Sz0 ?_;refine Qb (fun h8=>?_) (fun h8=>?_)
 ·refine Sz0 ?_;exact dv ⟨4,rfl,fun h=>(by cases h),fun q=>absurd q.gl (by omega)⟩ rfl
 refine Sz0 ?_;refine Q3 (by repeat (first|exact Qx|exact Qq|exact Qr|exact Qt|exact Qu|apply Qp|apply Qw|apply Q2|apply Q7|apply Q8|apply Qn|apply Q6)) [(2,4),(21,31)] [] (fun m J hp=>∃i,m=S.length-i/\i<=S.length/\(∀n (h:n<S.length),n<i->oU n S[n])/\J 21= .int .i64 (i:Nat)/\hp 1=some ⟨2,25,[PV.fh S G],false⟩) S.length ?_ ?_
 ·refine⟨0,rfl,by omega,by omega,?_⟩;refine Sz0 ?_;rfl
 rintro _ J h ⟨i,rfl,hi,aW,lV,ba⟩;refine Sz1 lV ?_;refine Qb (fun hc=>?_) (fun hc=>?_)
 ·have aD:i<S.length:=by omega
  have hr:=P3 hN hS hb aD;refine Sz2 lV ba ?_;refine gz hP hr rfl rfl rfl ?_;rintro _ ⟨e,rfl,he,Fx⟩;by_cases h0:e=0
  ·subst h0;have bQ:=he rfl;refine Sz2 lV ba ?_;refine Qm (S.length-(i+1)) (by omega) ⟨i+1,rfl,by omega,fun n hn pM=>?_,?_⟩
   ·by_cases e:n=i
    ·subst e;exact bQ
    ·exact aW n hn (by omega)
   exact Tz1 ba
  ·have d:decide (¬e=0)=true:=decide_eq_true h0;refine Sz3 lV ba d ?_;exact dv ⟨e,rfl,fun h=>absurd h h0,fun q=>absurd (Fx (q.s i aD)) h0⟩ rfl
 obtain rfl:i=S.length:=by omega
 refine Sz1 ba ?_;refine Q3 (by repeat (first|exact Qx|exact Qq|exact Qr|exact Qt|exact Qu|apply Qp|apply Qw|apply Q2|apply Q7|apply Q8|apply Qn|apply Q6)) [(2,2),(6,7),(35,47)] [6] (fun m J hp=>∃i,m=G.length-i/\i<=G.length/\(∀n (h:n<G.length),n<i->cM G[n] S.length=0)/\J 35= .int .i64 (i:Nat)/\hp 1=some ⟨2,25,[PV.fh S G],false⟩) G.length ?_ ?_
 ·refine⟨0,rfl,by omega,by omega,?_⟩;refine Sz1 ba ?_;rfl
 rintro _ J2 h2 ⟨i,rfl,kQ,lP,zJ,ba⟩;refine Sz1 zJ ?_;refine Qb (fun hc=>?_) (fun hc=>?_)
 ·have aD:i<G.length:=by omega
  have hr:=BI (n:=S.length) (hg _ (Kaq aD));have dy:cM G[i] S.length=0->∀n (h:n<G.length),n<i+1->cM G[n] S.length=0:=fun h n hn pM=>by
   by_cases e:n=i
   ·subst e;exact h
   ·exact lP n hn (by omega)
  have hgm:=Kaq aD;generalize hx:G[i]=x at *
  refine Sz3 zJ ba hx ?_;refine Qa hP hr rfl rfl rfl ?_;by_cases h0:cM x S.length=0
  ·have d:decide (¬cM x S.length=0)=false:=by simp[h0]
   refine Sz3 zJ ba d ?_;refine Qm (G.length-(i+1)) (by omega) ⟨i+1,rfl,by omega,dy h0,?_⟩;exact Tz1 ba
  ·have d:decide (¬cM x S.length=0)=true:=decide_eq_true h0;refine Sz3 zJ ba d ?_;exact dv ⟨_,rfl,fun h=>absurd h h0,fun q=>absurd (q.ok.g x hgm) h0⟩ rfl
 obtain rfl:i=G.length:=by omega
 refine Sz0 ?_;refine dv ⟨0,rfl,fun _=>⟨fun i h=>aW i h h,fun g hm=>?_,by omega⟩,fun _=>rfl⟩ rfl;obtain⟨n,hn,rfl⟩:=Ka0 hm;exact lP n hn hn
def jX(w l:List Int)(n:Nat):Int:=w.getD (l.getD n 0).toNat 0
def fJ(w:List Int)(k:Int)(l:List Int):Int:=if k=2 then jX w l 0+jX w l 1 else if k=3∨k=4 then jX w l 0+jX w l 1+jX w l 2 else if k=5 then 2*jX w l 0+jX w l 1 else 1
def fU:cC:=⟨0,.empty,[],false,[],[]⟩
def cW(S:List cC):Nat->List Int
 |0=>[]
 |i+1=>cW S i++[fJ (cW S i) (S.getD i fU).k (S.getD i fU).args]
theorem mU(S:List cC):∀n,(cW S n).length=n
 |0=>rfl
 |n+1=>by rw[cW,KaJ,mU S n];rfl
theorem VI{w l:List Int}{B:Int}(h:∀x∈w,0<=x/\x<=B)(hB:0<=B)(n:Nat):0<=jX w l n/\jX w l n<=B:=by
 unfold jX;rw[Kae];cases hq:w[(l.getD n 0).toNat]? with
 |none=>exact⟨Int.le_refl _,hB⟩
 |some x=>exact h x (Kah hq)
theorem Hj(S:List cC):∀n,∀x∈cW S n,0<=x/\x<=(4^n:Nat)
 |0,x,h=>by cases h
 | n+1,x,h=>by
  have ih:=Hj S n;have h4:4^(n+1)=4*4^n:=by rw[Kbi,KaS]
  have hp:1<=4^n:=Nat.one_le_pow _ _ (by omega);rw[cW]at h;rcases KaT.1 h with h|h
  ·have:=ih x h;omega
  ·obtain rfl:x=fJ (cW S n) (S.getD n fU).k (S.getD n fU).args:=by simpa using h
   have b:=fun m=>VI (l:=(S.getD n fU).args) ih (by omega) m;have b0:=b 0;have b1:=b 1;have b2:=b 2;unfold fJ
   repeat' split
   all_goals omega
theorem Sa{α:Type}{f:α->PV}{fr:Fr}{hp:HP}{K:Qg}{e d:Nat}{k:IntKind}{xs:List α}(h:2<xs.length):aK e (.sl e (xs.map f)) (.int k 2) d fr hp K=K (ae fr d (.pt (f (xs[2]'h)).cells)) hp:=by rw[ql (by omega) (by omega)];rfl
attribute [go_sem] Sa
theorem Qzn{S:List cC}{G:List cn}(hf:sL S G)(Ls:S.length<=8):Qd Tryz.prog 44 [PV.fh S G] (· =PV.mono (cW S S.length)):=by
 refine Qf Qh Tryz.func44 rfl XS (by simp[Eg]) fun C hP=>?_;simp only[Eg,Zo,Zg,Zm,Zc,Zf,Zl,Zh,Zs,Zi,Zb,Zk,Zn,Zu,Zq,Zr,Zz];refine Sz0 ?_;refine mY 3 900 1 3 (by omega) Tz0 ?_;refine Q3 (by repeat (first|exact Qx|exact Qq|exact Qr|exact Qt|exact Qu|apply Qp|apply Qw|apply Q2|apply Q7|apply Q8|apply Qn|apply Q6)) [(3,83)] [82,83,900] (fun m J hp=>∃i,m=S.length-i/\i<=S.length/\J 3= .ms 900 i/\J 4= .int .i64 (i:Nat)/\hp 1=some ⟨2,25,[PV.fh S G],false⟩/\hp 900=some ⟨1,3,mo (cW S i),false⟩) S.length ?_ ?_
 ·refine⟨0,rfl,by omega,?_⟩;refine Sz0 ?_;exact⟨rfl,rfl⟩
 rintro _ J h ⟨i,rfl,hi,j3,j4,ba,et⟩;refine Sz2 j4 ba ?_;refine Qb (fun hc=>?_) (fun hc=>?_)
 ·have aD:i<S.length:=by omega
  have bQ:=hf.s i aD;have hd:S.getD i fU=S[i]:=by rw[Kae,Kaf aD];rfl
  have ou:cW S (i+1)=cW S i++[fJ (cW S i) S[i].k S[i].args]:=by rw[cW,hd]
  have iO:=mU S i;have LG:=Hj S i;generalize hx:S[i]=s at *
  have h48:4^i<=4^8:=KaX (by omega) (by omega);have bP:∀n,n<s.args.length->∃(m:Nat)(v:Int),m<i/\(∀h:n<s.args.length,s.args[n]'h=(m:Int))/\(∀h:m<(cW S i).length,(cW S i)[m]'h=v)/\jX (cW S i) s.args n=v/\0<=v/\v<=65536:=fun n hn=>by
   have hr:=bQ.r _ (Kaq hn);have FL:s.args[n].toNat<(cW S i).length:=by omega
   have hv:=LG _ (Kaq FL);refine⟨s.args[n].toNat,(cW S i)[s.args[n].toNat],by omega,fun _=>by omega,fun _=>rfl,?_,hv.1,by omega⟩;unfold jX;rw[Kae,Kae,Kaf hn];simp only[Kbo];rw[Kaf FL];rfl
  have hlen:=bQ.l;generalize cW S i=w at *
  clear bQ LG;by_cases k2:s.k=2
  ·have mI:s.args.length=2:=by rw[k2]at hlen;have:fg 2=2:=(by decide);omega
   obtain⟨m0,v0,a0,a1,a2,a3,a4,a5⟩:=bP 0 (by omega);obtain⟨m1,v1,b0,b1,b2,b3,b4,b5⟩:=bP 1 (by omega);rw[show fJ w s.k s.args=v0+v1 by rw[fJ,if_pos k2,a3,b3]]at ou;have d2:decide (s.k=2)=true:=decide_eq_true k2;refine vm j3 j4 et ba hx d2 a1 a2 b1 b2 ?_;rw[dB (f:=PV.int .i64) (y:=(v0+v1)) (xs:=w) (ty':=3) (fz:=false) (jV et) bd (by omega) iO.symm (by omega) (by omega)];refine Sz2 j4 ba ?_;refine Qm (S.length-(i+1)) (by omega) ⟨i+1,rfl,by omega,?_⟩;exact Tz3 j4 ba ou
  by_cases k3:s.k=3∨s.k=4
  ·have mI:s.args.length=3:=by
    rcases k3 with k3|k3
    ·rw[k3]at hlen;have:fg 3=3:=by decide
     omega
    ·rw[k3]at hlen;have:fg 4=3:=by decide
     omega
   obtain⟨m0,v0,a0,a1,a2,a3,a4,a5⟩:=bP 0 (by omega);obtain⟨m1,v1,b0,b1,b2,b3,b4,b5⟩:=bP 1 (by omega);obtain⟨m2,v2,c0,c1,c2,c3,c4,c5⟩:=bP 2 (by omega);rw[show fJ w s.k s.args=v0+v1+v2 by rw[fJ,if_neg k2,if_pos k3,a3,b3,c3]]at ou;have d2:decide (s.k=2)=false:=decide_eq_false k2;rcases k3 with k3|k3
   ·have d3:decide (s.k=3)=true:=decide_eq_true k3;refine Al j3 j4 et ba hx d2 d3 a1 a2 b1 b2 c1 c2 ?_;rw[dB (f:=PV.int .i64) (y:=(v0+v1+v2)) (xs:=w) (ty':=3) (fz:=false) (jV et) bd (by omega) iO.symm (by omega) (by omega)];refine Sz2 j4 ba ?_;refine Qm (S.length-(i+1)) (by omega) ⟨i+1,rfl,by omega,?_⟩;exact Tz3 j4 ba ou
   ·have d3:decide (s.k=3)=false:=decide_eq_false (by omega);have d4:decide (s.k=4)=true:=decide_eq_true k3;have dd:decide (s.k=2)=false/\decide (s.k=3)=false/\decide (s.k=4)=true:=⟨d2,d3,d4⟩
    refine qH j3 j4 et ba hx dd a1 a2 b1 b2 c1 c2 ?_;rw[dB (f:=PV.int .i64) (y:=(v0+v1+v2)) (xs:=w) (ty':=3) (fz:=false) (jV et) bd (by omega) iO.symm (by omega) (by omega)];refine Sz2 j4 ba ?_;refine Qm (S.length-(i+1)) (by omega) ⟨i+1,rfl,by omega,?_⟩;exact Tz3 j4 ba ou
  have dd:decide (s.k=2)=false/\decide (s.k=3)=false/\decide (s.k=4)=false:=⟨decide_eq_false k2,decide_eq_false (by omega),decide_eq_false (by omega)⟩
  by_cases k5:s.k=5
  ·have mI:s.args.length=2:=by rw[k5]at hlen;have:fg 5=2:=(by decide);omega
   obtain⟨m0,v0,a0,a1,a2,a3,a4,a5⟩:=bP 0 (by omega);obtain⟨m1,v1,b0,b1,b2,b3,b4,b5⟩:=bP 1 (by omega);rw[show fJ w s.k s.args=2*v0+v1 by rw[fJ,if_neg k2,if_neg k3,if_pos k5,a3,b3]]at ou;have d5:decide (s.k=5)=true:=decide_eq_true k5;refine wT j3 j4 et ba hx dd d5 a1 a2 b1 b2 ?_;rw[dB (f:=PV.int .i64) (y:=(2*v0+v1)) (xs:=w) (ty':=3) (fz:=false) (jV et) bd (by omega) iO.symm (by omega) (by omega)];refine Sz2 j4 ba ?_;refine Qm (S.length-(i+1)) (by omega) ⟨i+1,rfl,by omega,?_⟩;exact Tz3 j4 ba ou
  ·rw[show fJ w s.k s.args=1 by rw[fJ,if_neg k2,if_neg k3,if_neg k5]]at ou;have d5:decide (s.k=5)=false:=decide_eq_false k5;refine Sz7 j3 j4 et ba hx dd d5 ?_;rw[dB (f:=PV.int .i64) (y:=1) (xs:=w) (ty':=3) (fz:=false) (jV et) bd (by omega) iO.symm (by omega) (by omega)];refine Sz2 j4 ba ?_;refine Qm (S.length-(i+1)) (by omega) ⟨i+1,rfl,by omega,?_⟩;exact Tz3 j4 ba ou
 obtain rfl:i=S.length:=by omega
 refine Sz1 j3 ?_;exact eX (e:=1) (ty:=3) (xs:=mo (cW S S.length)) (fz:=false) et (by rw[Kaj (by simp[mU])])
structure Hk(S:List cC)(G:List cn):Prop where
 w:∀x∈cW S S.length,x<=8
 g:∀g∈G,g.k=6∨g.k=7->∀a∈g.args,(cW S S.length).getD a.toNat 0<=3
theorem sA{g:cn}{n:Int}(h:cM g n=0):b9 g.k≠0/\(g.args.length:Int)=b9 g.k/\(∀a∈g.args,0<=a/\a<n)/\(if g.k=9 then iz g.n g.a g.d else gT g.n g.a g.d)=true:=by
 unfold cM at h;split at h
 ·cases h
 split at h
 ·cases h
 split at h
 ·cases h
 rename_i h1 h2 h3;by_cases h4:(if g.k=9 then iz g.n g.a g.d else gT g.n g.a g.d)=true
 ·refine⟨h1,by omega,fun a ha=>?_,h4⟩;have:¬(a<0∨n<=a):=fun hq=>h3 (KaP.2 ⟨a,ha,decide_eq_true hq⟩);omega
 ·rw[if_neg h4]at h;cases h
theorem Sb{S:List cC}{G:List cn}(hf:sL S G)(Ls:S.length<=8)(hG:G.length<2^40):Qd Tryz.prog 22 [PV.fh S G] (fun r=>∃b,r= .bool b/\(b=true->Hk S G)):=by
 have hw:=Qzn hf Ls;have iO:(cW S S.length).length=S.length:=mU S _;have tn:∀x∈cW S S.length,x=x:=fun _ _=>rfl;refine Qf Qh Tryz.func22 rfl XR (by simp[DU]) fun C hP=>?_;simp only[DU,Zo,Zg,Zm,Zc,Zf,Zl,Zh,Zs,Zi,Zb,Zk,Zn,Zu,Zq,Zr,Zz];refine Sz0 ?_;refine Qa hP hw rfl rfl rfl ?_;obtain⟨w,F4⟩:∃w,cW S S.length=w:=⟨_,rfl⟩
 rw[F4]at iO⊢;refine Sz0 ?_;refine Q3 (by repeat (first|exact Qx|exact Qq|exact Qr|exact Qt|exact Qu|apply Qp|apply Qw|apply Q2|apply Q7|apply Q8|apply Qn|apply Q6)) [(2,2),(4,4),(10,20)] [] (fun m J hp=>∃i,m=w.length-i/\i<=w.length/\(∀n (h:n<w.length),n<i->w[n]<=8)/\J 4= .int .i64 (i:Nat)/\hp 1=some ⟨2,25,[PV.fh S G],false⟩) w.length ?_ ?_
 ·refine⟨0,rfl,by omega,by omega,?_⟩;refine Sz0 ?_;rfl
 rintro _ J h ⟨i,rfl,hi,h8,j4,ba⟩;refine Sz1 j4 ?_;refine Qb (fun hc=>?_) (fun hc=>?_)
 ·have aD:i<w.length:=by omega
  have dy:w[i]<=8->∀n (h:n<w.length),n<i+1->w[n]<=8:=fun h n hn pM=>by
   by_cases e:n=i
   ·subst e;exact h
   ·exact h8 n hn (by omega)
  generalize hx:w[i]=x at *
  refine Sz2 j4 hx ?_;refine Qb (fun hq=>?_) (fun hq=>?_)
  ·refine Sz0 ?_;exact dv ⟨false,rfl,fun h=>by cases h⟩ rfl
  refine Sz1 j4 ?_;refine Qm (w.length-(i+1)) (by omega) ⟨i+1,rfl,by omega,dy (by omega),?_⟩;exact Tz1 ba
 obtain rfl:i=w.length:=by omega
 have cx:∀x∈w,x<=8:=fun x hx=>by obtain⟨n,hn,rfl⟩:=Ka0 hx;exact h8 n hn hn
 refine Sz1 ba ?_;refine Q3 (by repeat (first|exact Qx|exact Qq|exact Qr|exact Qt|exact Qu|apply Qp|apply Qw|apply Q2|apply Q7|apply Q8|apply Qn|apply Q6)) [(2,2),(5,7),(21,58)] [6] (fun m J hp=>∃i,m=G.length-i/\i<=G.length/\(∀n (h:n<G.length),n<i->G[n].k=6∨G[n].k=7->∀a∈G[n].args,w.getD a.toNat 0<=3)/\J 5= .int .i64 (i:Nat)/\hp 1=some ⟨2,25,[PV.fh S G],false⟩) G.length ?_ ?_
 ·refine⟨0,rfl,by omega,by omega,?_⟩;refine Sz1 ba ?_;rfl
 rintro _ J2 h2 ⟨i,rfl,kQ,lP,j5,ba⟩;refine Sz2 j5 ba ?_;refine Qb (fun hc=>?_) (fun hc=>?_)
 ·have aD:i<G.length:=by omega
  obtain⟨_,LA,zy,_⟩:=sA (hf.g _ (Kaq aD));have dy:(G[i].k=6∨G[i].k=7->∀a∈G[i].args,w.getD a.toNat 0<=3)->∀n (h:n<G.length),n<i+1->G[n].k=6∨G[n].k=7->∀a∈G[n].args,w.getD a.toNat 0<=3:=fun h n hn pM=>by
   by_cases e:n=i
   ·subst e;exact h
   ·exact lP n hn (by omega)
  generalize hx:G[i]=g at *
  refine Sz3 j5 ba hx ?_;have qY:g.args.length<=8:=by
   unfold b9 at LA
   repeat' split at LA
   all_goals omega
  refine Q3 (by repeat (first|exact Qx|exact Qq|exact Qr|exact Qt|exact Qu|apply Qp|apply Qw|apply Q2|apply Q7|apply Q8|apply Qn|apply Q6)) [(2,2),(7,7),(33,58)] [] (fun m J hp=>∃j,m=g.args.length-j/\j<=g.args.length/\(∀n (h:n<g.args.length),n<j->g.k=6∨g.k=7->w.getD g.args[n].toNat 0<=3)/\J 7= .int .i64 (j:Nat)/\hp 1=some ⟨2,25,[PV.fh S G],false⟩/\hp 6=some ⟨5,34,[PV.fG g],false⟩) g.args.length ?_ ?_
  ·refine⟨0,rfl,by omega,by omega,?_⟩;refine Sz1 ba ?_;rfl
  rintro _ J3 h3 ⟨j,rfl,hj,L0,j7,ba,qT⟩;refine Sz2 j7 qT ?_;refine Qb (fun eG=>?_) (fun eG=>?_)
  ·have dq:j<g.args.length:=by omega
   have FV:=zy _ (Kaq dq);have vH:(g.k=6∨g.k=7->w.getD g.args[j].toNat 0<=3)->∀n (h:n<g.args.length),n<j+1->g.k=6∨g.k=7->w.getD g.args[n].toNat 0<=3:=fun h n hn pM=>by
    by_cases e:n=j
    ·subst e;exact h
    ·exact L0 n hn (by omega)
   obtain⟨m,hm⟩:∃m:Nat,g.args[j]=(m:Int):=⟨g.args[j].toNat,by omega⟩
   have hmw:m<w.length:=by omega
   rw[hm,KbW,Kae,Kaf hmw]at vH;simp only[Kbo]at vH;generalize hy:w[m]=y at *
   by_cases k6:g.k=6
   ·have d6:decide (g.k=6)=true:=decide_eq_true k6;refine Sz5 j7 qT d6 hm hy ?_;refine Qb (fun hq=>?_) (fun hq=>?_)
    ·refine Sz0 ?_;exact dv ⟨false,rfl,fun h=>by cases h⟩ rfl
    refine Sz1 j7 ?_;refine Qm (g.args.length-(j+1)) (by omega) ⟨j+1,rfl,by omega,vH (fun _=>by omega),?_⟩;exact Tz2 ba qT
   have d6:decide (g.k=6)=false:=decide_eq_false k6;by_cases k7:g.k=7
   ·have d7:decide (g.k=6)=false/\decide (g.k=7)=true:=⟨d6,decide_eq_true k7⟩
    refine Sz5 j7 qT d7 hm hy ?_;refine Qb (fun hq=>?_) (fun hq=>?_)
    ·refine Sz0 ?_;exact dv ⟨false,rfl,fun h=>by cases h⟩ rfl
    refine Sz1 j7 ?_;refine Qm (g.args.length-(j+1)) (by omega) ⟨j+1,rfl,by omega,vH (fun _=>by omega),?_⟩;exact Tz2 ba qT
   ·have d7:decide (g.k=6)=false/\decide (g.k=7)=false:=⟨d6,decide_eq_false k7⟩
    refine Sz4 j7 qT d7 hm ?_;refine Qm (g.args.length-(j+1)) (by omega) ⟨j+1,rfl,by omega,vH (fun hk=>by omega),?_⟩;exact Tz2 ba qT
  obtain rfl:j=g.args.length:=by omega
  refine Sz1 j5 ?_;simp (disch:=decide) only[ln,yd];refine Qm (G.length-(i+1)) (by omega) ⟨i+1,rfl,by omega,dy (fun hk a ha=>?_),?_⟩
  ·obtain⟨n,hn,rfl⟩:=Ka0 ha;exact L0 n hn hn hk
  exact Tz1 ba
 obtain rfl:i=G.length:=by omega
 refine Sz0 ?_;refine dv ⟨true,rfl,fun _=>⟨by rw[F4];exact cx,fun g hm=>?_⟩⟩ rfl;rw[F4];obtain⟨n,hn,rfl⟩:=Ka0 hm;exact lP n hn hn
structure sM(S:List cC)(G:List cn):Prop where
 f:sL S G
 l:S.length<=8
 gl:G.length<=3
 t:Hk S G
 s:∀s∈S,s.a.length<=2/\s.d.length<=2
 g:∀g∈G,g.a.length<=2/\g.d.length<=2
theorem GF(hN:qj){S:List cC}{G:List cn}(hS:S.length<2^40)(hG:G.length<2^40)(hb:∀s∈S,oa s)(hg:∀g∈G,ns g):
  Qd Tryz.prog 6 [PV.fh S G] (fun r=>∃b,r= .bool b/\(b=true->sM S G)):=by
 have hR:=Jn hN hS hG hb hg;refine Qf Qh Tryz.func6 rfl Zw (by simp[c6]) fun C hP=>?_;simp only[c6,Zo,Zg,Zm,Zc,Zf,Zl,Zh,Zs,Zi,Zb,Zk,Zn,Zu,Zq,Zr,Zz];refine Sz0 ?_;refine dA (fun h8=>?_) (fun h8=>?_)
 ·refine Sz0 ?_;exact dv ⟨false,rfl,fun h=>by cases h⟩ rfl
 refine Sz0 ?_;refine dA (fun h3=>?_) (fun h3=>?_)
 ·refine Sz0 ?_;exact dv ⟨false,rfl,fun h=>by cases h⟩ rfl
 refine Sz0 ?_;refine gz hP hR rfl rfl rfl ?_;rintro _ ⟨e,rfl,he,_⟩;by_cases h0:¬e=0
 ·have d:decide (¬e=0)=true:=decide_eq_true h0;refine Sz1 d ?_;exact dv ⟨false,rfl,fun h=>by cases h⟩ rfl
 obtain rfl:e=0:=by omega
 have hf:=he rfl;have hT:=Sb hf (by omega) hG;refine Sz0 ?_;refine gz hP hT rfl rfl rfl ?_;rintro _ ⟨b,rfl,ht⟩;cases b
 ·refine Sz0 ?_;exact dv ⟨false,rfl,fun h=>by cases h⟩ rfl
 replace ht:=ht rfl;refine Sz0 ?_;refine Q3 (by repeat (first|exact Qx|exact Qq|exact Qr|exact Qt|exact Qu|apply Qp|apply Qw|apply Q2|apply Q7|apply Q8|apply Qn|apply Q6)) [(2,3),(25,52)] [] (fun m J hp=>∃i,m=S.length-i/\i<=S.length/\(∀n (h:n<S.length),n<i->S[n].a.length<=2/\S[n].d.length<=2)/\J 3= .int .i64 (i:Nat)/\hp 1=some ⟨2,25,[PV.fh S G],false⟩) S.length ?_ ?_
 ·refine⟨0,rfl,by omega,by omega,?_⟩;refine Sz0 ?_;rfl
 rintro _ J h ⟨i,rfl,hi,aW,j3,ba⟩;refine Sz2 j3 ba ?_;refine Qb (fun hc=>?_) (fun hc=>?_)
 ·have aD:i<S.length:=by omega
  have dy:S[i].a.length<=2/\S[i].d.length<=2->∀n (h:n<S.length),n<i+1->S[n].a.length<=2/\S[n].d.length<=2:=fun h n hn pM=>by
   by_cases e:n=i
   ·subst e;exact h
   ·exact aW n hn (by omega)
  generalize hx:S[i]=s at *
  refine Sz3 j3 ba hx ?_;refine dA (fun q1=>?_) (fun q1=>?_)
  ·refine Sz0 ?_;exact dv ⟨false,rfl,fun h=>by cases h⟩ rfl
  refine Sz3 j3 ba hx ?_;refine Qb (fun q2=>?_) (fun q2=>?_)
  ·refine Sz0 ?_;exact dv ⟨false,rfl,fun h=>by cases h⟩ rfl
  refine Sz1 j3 ?_;refine Qm (S.length-(i+1)) (by omega) ⟨i+1,rfl,by omega,dy ⟨by omega,by omega⟩,?_⟩;exact Tz1 ba
 obtain rfl:i=S.length:=by omega
 refine Sz1 ba ?_;refine Q3 (by repeat (first|exact Qx|exact Qq|exact Qr|exact Qt|exact Qu|apply Qp|apply Qw|apply Q2|apply Q7|apply Q8|apply Qn|apply Q6)) [(2,2),(4,4),(53,80)] [] (fun m J hp=>∃i,m=G.length-i/\i<=G.length/\(∀n (h:n<G.length),n<i->G[n].a.length<=2/\G[n].d.length<=2)/\J 4= .int .i64 (i:Nat)/\hp 1=some ⟨2,25,[PV.fh S G],false⟩) G.length ?_ ?_
 ·refine⟨0,rfl,by omega,by omega,?_⟩;refine Sz1 ba ?_;rfl
 rintro _ J2 h2 ⟨i,rfl,kQ,lP,j4,ba⟩;refine Sz2 j4 ba ?_;refine Qb (fun hc=>?_) (fun hc=>?_)
 ·have aD:i<G.length:=by omega
  have dy:G[i].a.length<=2/\G[i].d.length<=2->∀n (h:n<G.length),n<i+1->G[n].a.length<=2/\G[n].d.length<=2:=fun h n hn pM=>by
   by_cases e:n=i
   ·subst e;exact h
   ·exact lP n hn (by omega)
  generalize hx:G[i]=g at *
  refine Sz3 j4 ba hx ?_;refine dA (fun q1=>?_) (fun q1=>?_)
  ·refine Sz0 ?_;exact dv ⟨false,rfl,fun h=>by cases h⟩ rfl
  refine Sz3 j4 ba hx ?_;refine Qb (fun q2=>?_) (fun q2=>?_)
  ·refine Sz0 ?_;exact dv ⟨false,rfl,fun h=>by cases h⟩ rfl
  refine Sz1 j4 ?_;refine Qm (G.length-(i+1)) (by omega) ⟨i+1,rfl,by omega,dy ⟨by omega,by omega⟩,?_⟩;exact Tz1 ba
 obtain rfl:i=G.length:=by omega
 refine Sz0 ?_;refine dv ⟨true,rfl,fun _=>⟨hf,by omega,by omega,ht,fun s hm=>?_,fun g hm=>?_⟩⟩ rfl
 ·obtain⟨n,hn,rfl⟩:=Ka0 hm;exact aW n hn hn
 ·obtain⟨n,hn,rfl⟩:=Ka0 hm;exact lP n hn hn
open Go Go.FW Go.ChangeShapes Go.WideShapes Go.ChangeAt Go.RowKit
variable {H : Type} {enc : TypeId × Value -> H}
def vk(l:List Int):Prop:=l.length<=1048576/\∀x∈l,-9223372036854775808<=x/\x<=9223372036854775807
theorem GG:Rd enc 26 fun ps=>∃l:List Int,ps=[PV.mono l]/\vk l:=by refine(xm (α:=Int) (f:=fun(x:Int)=>.int .i64 x) cj Tryz.underlying26 (by rw[BO];omega) (BT Tryz.underlying3)).mono ?_;rintro ps ⟨l,rfl,h1,h2⟩;exact⟨l,by rw[BO],h1,h2⟩
instance : Inhabited cn := ⟨⟨0, [], false, [], []⟩⟩
instance : Inhabited cC := ⟨⟨0, .empty, [], false, [], []⟩⟩
def sN(f:cn):Prop:=vk f.args/\Raw 1048576 f.n f.a f.d
theorem GH:Rd enc 34 fun ps=>∃f:cn,ps=(PV.fG f).cells/\sN f:=by refine(Ba (Qs:=[fun ps=>∃n:Int,ps=[.int .i64 n]/\ -9223372036854775808<=n/\n<=9223372036854775807,fun ps=>∃l:List Int,ps=[PV.mono l]/\vk l,fun ps=>∃(n:Bool)(a d:List Nat),ps=[.bool n,PV.nat a,PV.nat d]/\Raw 1048576 n a d]) cj Tryz.underlying34 (by kernel_rfl) ⟨rfl,BT Tryz.underlying3,rfl,GG,rfl,Hg,trivial⟩).mono ?_;rintro ps ⟨p,q,rfl,⟨k,rfl,h0⟩,p1,q1,rfl,⟨l,rfl,h1⟩,p2,q2,rfl,⟨n,a,d,rfl,h2⟩,rfl⟩;exact⟨⟨k,l,n,a,d⟩,rfl,h1,h2⟩
def uW(s:cC):Prop:=s.name.size<=1048576/\vk s.args/\Raw 1048576 s.n s.a s.d
theorem Sc{l:List UInt8}:l.length<=Rows.uptoBulk (H:=H) (.lit (.string l)):=by simp[Rows.uptoBulk]
theorem VJ:Rd enc 76 fun ps=>∃s:cC,ps=(PV.mS s).cells/\uW s:=by refine(Ba (Qs:=[fun ps=>∃n:Int,ps=[.int .i64 n]/\ -9223372036854775808<=n/\n<=9223372036854775807,fun ps=>∃s:ByteArray,ps=[.str s]/\s.size<=1048576,fun ps=>∃l:List Int,ps=[PV.mono l]/\vk l,fun ps=>∃(n:Bool)(a d:List Nat),ps=[.bool n,PV.nat a,PV.nat d]/\Raw 1048576 n a d]) cj Tryz.underlying76 (by kernel_rfl) ⟨rfl,BT Tryz.underlying3,rfl,Qxq Tryz.underlying9 (fun l=>Sc),rfl,GG,rfl,Hg,trivial⟩).mono ?_;rintro ps ⟨p,q,rfl,⟨k,rfl,h0⟩,p3,q3,rfl,⟨s,rfl,h3⟩,p1,q1,rfl,⟨l,rfl,h1⟩,p2,q2,rfl,⟨n,a,d,rfl,h2⟩,rfl⟩;exact⟨⟨k,s,l,n,a,d⟩,rfl,h3,h1,h2⟩
theorem I8:Tryz.prog.cellsOf 34=5:=by kernel_rfl
theorem I9:Tryz.prog.cellsOf 76=6:=by kernel_rfl
def CP(G:List cn):Prop:=G.length<=1048576/\∀g∈G,sN g
def Cm(S:List cC)(G:List cn):Prop:=(S.length<=1048576/\∀s∈S,uW s)/\CP G
theorem Sd:Rd enc 23 fun ps=>∃G:List cn,ps=[.sl 5 (G.map PV.fG)]/\CP G:=by refine(xm (α:=cn) (f:=PV.fG) (G:=sN) cj Tryz.underlying23 (by rw[I8];omega) GH).mono ?_;rintro ps ⟨l,rfl,h1,h2⟩;exact⟨l,by rw[I8],h1,h2⟩
theorem P4:Rd enc 25 fun ps=>∃(S:List cC)(G:List cn),ps=(PV.fh S G).cells/\Cm S G:=by
 refine(Ba (Qs:=[fun ps=>∃l:List cC,ps=[.sl 6 (l.map PV.mS)]/\l.length<=1048576/\∀s∈l,uW s,fun ps=>∃G:List cn,ps=[.sl 5 (G.map PV.fG)]/\CP G]) cj Tryz.underlying25 (by kernel_rfl) ⟨rfl,?_,rfl,Sd,trivial⟩).mono ?_
 ·refine(xm (α:=cC) (f:=PV.mS) (G:=uW) cj Tryz.underlying22 (by rw[I9];omega) VJ).mono ?_;rintro ps ⟨l,rfl,h1,h2⟩;exact⟨l,by rw[I9],h1,h2⟩
 rintro ps ⟨p,q,rfl,⟨S,rfl,h1⟩,p2,q2,rfl,⟨G,rfl,h2⟩,rfl⟩;exact⟨S,G,rfl,h1,h2⟩
variable {w : World} {base : Nat} {spare : Nat -> Bool} {held : Bool} {r : Reach} {b0 : Nat} {v : Value} {d : DataW H} {ps : List MemPlace}
theorem Se(er:Value.okWide Tryz.prog w r b0 34 v)(hd:DataW.Trod enc Tryz.prog w base spare held 34 v d ps)(hn:Rows.uptoBulk d<=1048576):∃f,bc w bW (PV.fG f) v/\sN f:=by obtain⟨p,⟨f,rfl,h⟩,h2⟩:=IY Tryz.underlying34 er GH hd hn;exact⟨f,h2,h⟩
theorem Om(er:Value.okWide Tryz.prog w r b0 25 v)(hd:DataW.Trod enc Tryz.prog w base spare held 25 v d ps)(hn:Rows.uptoBulk d<=1048576):∃S G,bc w bW (PV.fh S G) v/\Cm S G:=by obtain⟨p,⟨S,G,rfl,h⟩,h2⟩:=IY Tryz.underlying25 er P4 hd hn;exact⟨S,G,h2,h⟩
theorem Hl{f:cn}(h:sN f):ns f:=⟨by have:=h.1.1;omega,h.2⟩
theorem Ys{s:cC}(h:uW s):oa s:=⟨by have:=h.1;omega,by have:=h.2.1.1;omega,h.2.2⟩
end Go.Proofs.YtonjiljafkiikaaGreat
namespace Go.FW
open Go
section
variable {C : Ctx} {fr : Fr} {hp : HP} {w : World} {a : Act} {R : Qg}
def lY:List Bool->Nat
 | []=>0
 |true::l=>lY l
 |false::l=>lY l+1
theorem GI:∀ {l:List Bool} {i:Nat},l[i]? =some false->lY (l.set i true)+1=lY l
 | [],i,h=>by simp at h
 |b::l,0,h=>by simp at h;subst h;simp[lY]
 |b::l,i+1,h=>by simp at h;have:=GI h;cases b<;>simp[lY]<;>omega
theorem GJ:∀(n:Nat),lY (List.replicate n false)=n
 |0=>rfl
 |n+1=>by simp[Kbt,lY,GJ n]
theorem Kw:∀ {l:List Bool} {i:Nat},lY l=0->l[i]? ≠some false
 | [],i,_=>by simp
 |true::l,0,_=>by simp
 |true::l,i+1,h=>by simpa using Kw (l:=l) (i:=i) (by simpa[lY]using h)
 |false::l,_,h=>by simp[lY]at h
theorem Iu{md:Region.Mode}{ops:Array Oper}{l:Array Bool}{i:Nat}(h:i∈Region.ready .any ops l):l.toList[i]? =some false:=by
 obtain⟨h1,_⟩:=mem_ready.1 h;rcases Kcn i l.size with h'|h'
 ·simp[h']at h1 ⊢;exact h1
 ·simp[Kce h']at h1
def im(l:Array Bool):Nat->Bool:=fun i=>l.getD i false
theorem VK{l:Array Bool}{i:Nat}(h:l.getD i true=false):im (l.setIfInBounds i true)=fun k=>k==i||im l k:=by
 funext k;unfold im;have hi:i<l.size:=by
  rcases Kcn i l.size with h'|h'
  ·exact h'
  ·simp[Kce h']at h
 by_cases hk:i=k
 ·subst hk;simp[hi]
 ·rw[getD_set_ne false hk];simp[Ne.symm hk]
theorem P5(n:Nat):im (Array.replicate n false)=fun _=>false:=by funext k;unfold im;simp[Array.getD]
theorem VL{sk:List It}{ops:Array Oper}{Q:Exit->Act->World->Prop}(I:(Nat->Bool)->Qg)
  (jz:∀l i,jh ops l->i∈Region.ready .any ops l->∃o g,ops[i]? =some o/\gW C.P C.N true ops o=some g/\∀fr hp,I (im l) fr hp->fq C g.g g.o fr hp (fun fr hp=>∃aG au,Wk fr hp aG au/\I (fun k=>k==i||im l k) aG au))
  (Fy:∀l fr hp,Region.ready .any ops l=[]->l.size=ops.size->I (im l) fr hp->∃aG au,Wk fr hp aG au/\vc C R sk aG au)
  (hQ:∀aw hp' pV w',cT C aw hp' pV w'->vc C R sk aw hp'->Q .normal { tmps:=pV,defers:=[] } w'):
  ∀(n:Nat)(l:Array Bool)(fr:Fr)(hp:HP)(a:Act)(w:World),lY l.toList=n->l.size=ops.size->jh ops l->a.defers=[]->cT C fr hp a.tmps w->I (im l) fr hp->wpAny C.P .any ops (NoPanic Q) n l a w:=by
 intro n;have fin:∀(l:Array Bool)(fr:Fr)(hp:HP)(a:Act)(w:World),Region.ready .any ops l=[]->l.size=ops.size->a.defers=[]->cT C fr hp a.tmps w->I (im l) fr hp->NoPanic Q .normal a w:=by intro l fr hp a w hr hz hd hs hI;obtain⟨tmps,defers⟩:=a;simp only at hd hs;subst hd;obtain⟨aG,au,hw,hv⟩:=Fy l fr hp hr hz hI;exact hQ aG au tmps w (hw _ _ _ hs) hv
 induction n with
 | zero=>
  intro l fr hp a w hn hz Fu hd hs hI;have hr:Region.ready .any ops l=[]:=by
   cases h:Region.ready .any ops l with
   |nil=>rfl
   |cons i is=>exact absurd (Iu (md:=.any) (by rw[h];exact Kcq)) (Kw hn)
  exact⟨hr,fin l fr hp a w hr hz hd hs hI⟩
 |succ n ih=>intro l fr hp a w hn hz Fu hd hs hI;refine⟨fun hr=>fin l fr hp a w hr hz hd hs hI,fun i hi=>?_⟩;obtain⟨o,g,ho,hg,hv⟩:=jz l i Fu hi;obtain⟨ρ,kX⟩:=hs;refine wpOp_mono (fun a' w' hA=>?_) (Bv ho hd kX hg (hv fr hp hI));obtain⟨oo,⟨aw,hp',dt,aG,au,hw,oy⟩,_⟩:=hA;have:=GI (Iu (md:=.any) hi);exact ih _ aG au a' w' (by rw[Array.toList_setIfInBounds];omega) (by simpa using hz) (Fu.step hi) oo (hw _ _ _ dt) (by rw[VK (mem_ready.1 hi).1];exact oy)
theorem CR{id:Nat}{sk:List It}{ops:Array Oper}(gs:List jF)(af:List (List Nat))(hm:C.P.follows .mixedOrders=true)
  (hg:ops.toList.map (gW C.P C.N true ops)=gs.map some) (ha:ops.toList.map (fun o=>(o.after.toList.filter (Region.binds .any)).map (·.on))=af)
  (an:∀i,i<af.length->∀k∈af.getD i [],k<i) (I:(Nat->Bool)->Qg) (h0:I (fun _=>false) fr hp)
  (jz:∀l i g,gs[i]? =some g->l i=false->(∀k∈af.getD i [],l k=true)->(∀j,l j=true->∀k∈af.getD j [],l k=true)->
   ∀fr hp,I l fr hp->fq C g.g g.o fr hp (fun fr hp=>∃aG au,Wk fr hp aG au/\I (fun k=>k==i||l k) aG au))
  (Fy:∀l fr hp,(∀i,i<gs.length->l i=true)->I l fr hp->∃aG au,Wk fr hp aG au/\vc C R sk aG au):vc C R (.c (.raw id ops)::sk) fr hp:=by
 have abr:∀(i:Nat)(o:Oper),ops[i]? =some o->∃g,gs[i]? =some g/\gW C.P C.N true ops o=some g:=by
  intro i o ho;have h1:(ops.toList.map (gW C.P C.N true ops))[i]? =some (gW C.P C.N true ops o):=by simp[ho]
  rw[hg,Kap]at h1;cases h2:gs[i]? with
  |none=>simp[h2]at h1
  |some g=>rw[h2]at h1;exact⟨g,rfl,(Kac h1).symm⟩
 have C5:∀(i:Nat)(o:Oper),ops[i]? =some o->af.getD i []=(o.after.toList.filter (Region.binds .any)).map (·.on):=by intro i o ho;rw[<-ha];simp[ho]
 have opAt:∀i,i<gs.length->∃o,ops[i]? =some o:=by intro i hi;have h1:=congrArg List.length hg;simp only[Ka3,KbY]at h1;exact⟨ops[i]'(by omega),by simp⟩
 have down:∀l,jh ops l->∀j,im l j=true->∀k∈af.getD j [],im l k=true:=by
  intro l hd j hj k hk;rcases Kcn j ops.size with h'|h'
  ·have ho:ops[j]? =some ops[j]:=by simp[h']
   rw[C5 j _ ho]at hk;obtain⟨e,he,rfl⟩:=KaL.1 hk;obtain⟨he,hb⟩:=Kcr.1 he;exact hd j _ ho hj e (by simpa using he) hb
  ·have:af.getD j []=[]:=by rw[<-ha];simp[Kce h']
   rw[this]at hk;cases hk
 rw[vc];intro tmps w Q hs hQ;refine wp_region_noPanic (wp_region_any hm (VL I ?_ ?_ hQ _ _ fr hp _ _ ?_ (by simp) (jh.start ops) rfl hs.drew (by rw[P5];exact h0)))
 ·intro l i hd hi;obtain⟨h1,o,ho,h2⟩:=mem_ready.1 hi;obtain⟨g,hgi,ab⟩:=abr i o ho;refine⟨o,g,ho,ab,jz (im l) i g hgi ?_ ?_ (down l hd)⟩
  ·cases h:im l i with
   |false=>rfl
   |true=>exact absurd h (Jp h1)
  ·intro k hk;rw[C5 i o ho]at hk;obtain⟨e,he,rfl⟩:=KaL.1 hk;obtain⟨he,hb⟩:=Kcr.1 he;exact h2 e (by simpa using he) hb
 ·intro l fr hp hr hz hI;refine Fy (im l) fr hp ?_ hI;intro i;induction i using Nat.strongRecOn with
  | ind i ih=>
   intro hi;cases h:im l i with
   |true=>rfl
   | false=>
    exfalso;obtain⟨o,ho⟩:=opAt i hi;have dI:i<ops.size:=(Kbc.1 ho).1;have:i∈Region.ready .any ops l:=by
     refine mem_ready.2 ⟨?_,o,ho,?_⟩
     ·unfold im at h;have eH:i<l.size:=by omega
      simp[eH]at h⊢;exact h
     ·intro e he hb;have hk:e.on∈af.getD i []:=by rw[C5 i o ho];exact KaL.2 ⟨e,Kcr.2 ⟨by simpa using he,hb⟩,rfl⟩
      have eH:i<af.length:=by rw[<-ha];simpa using dI
      have qZ:=an i eH _ hk;exact ih e.on qZ (by omega)
    rw[hr]at this;cases this
 ·rw[Array.toList_replicate,GJ]
end
theorem Gl{C:Ctx}{R:Qg}{sk:List It}{fr jk:Fr}{hp ew:HP}(h:Wk fr hp jk ew)(k:∃aG au,Wk jk ew aG au/\vc C R sk aG au):∃aG au,Wk fr hp aG au/\vc C R sk aG au:=
 k.elim fun a k=>k.elim fun b k=>⟨a,b,h.trans k.1,k.2⟩
theorem Cn{C:Ctx}{R:Qg}{sk:List It}{fr:Fr}{hp:HP}(h:vc C R sk fr hp):∃aG au,Wk fr hp aG au/\vc C R sk aG au:=⟨_,_,Wk.refl _ _,h⟩
theorem GK{fr aw:Fr}{hp hp':HP}(hh:∀β,hp' β=hp β∨hp' β=none)(hf:∀s,aw s= .undef∨(aw s=cc id (fr s)/\∀β∈(fr s).refs++(fr s).aJ,hp' β=hp β)):Wk fr hp aw hp':=by
 rintro C tmps w ⟨ρ,hs⟩;have hk:∀β hb,hp' β=some hb->hp β=some hb:=fun β hb h=>by
  rcases hh β with e|e
  ·rw[<-e];exact h
  ·rw[e]at h;cases h
 have hX:∀b,aB C ρ hp' b->aB C ρ hp b:=by
  rintro b (hx|⟨γ,hg,g1,g2,g3⟩)
  ·exact .inl hx
  ·exact .inr ⟨γ,hg,hk _ _ g1,g2,g3⟩
 refine⟨ρ,hs.sz,hs.ext,hs.dK,fun γ hb ah=>?_,fun γ δ b g1 g2 g3 g4=>?_,fun i=>?_⟩
 ·obtain⟨q1,q2,q3,q4,q5⟩:=hs.own γ hb (hk _ _ ah);refine⟨q1,q2,?_,q4,q5⟩;cases hq:ρ γ with
  |none=>rw[hq]at q3;exact q3
  |some b=>rw[hq]at q3;exact⟨q3.1,q3.2.1,q3.2.2.move rfl rfl rfl rfl fun q u hq=>Qo.sub hq hX⟩
 ·obtain⟨x1,k1⟩:=Kbe.1 g1;obtain⟨x2,k2⟩:=Kbe.1 g2;exact hs.inj γ δ b (by rw[hk _ _ k1];simp) (by rw[hk _ _ k2];simp) g3 g4
 ·rcases hf i with e|⟨e,hr⟩
  ·rw[e];trivial
  ·rw[e];exact(hs.cd i).eJ hX fun β aj=>⟨rfl,(fun hb hq=>⟨hb,by show hp' β=_;rw[hr β aj];exact hq,rfl,rfl,rfl⟩),id⟩
def qu(id:Nat):Code->Option (Array Oper)
 |.region i ops _=>if i=id then some ops else none
 |.seq a b=>(qu id a).or (qu id b)
 |.cond _ a b=>(qu id a).or (qu id b)
 |.block _ a=>qu id a
 |.loop a=>qu id a
 |_=>none
def z8(f:Func)(id:Nat):Array Oper:=((f.body.bind (qu id)).getD #[])
end Go.FW
