/- Part 10 of the proof of GoalsTrivial: K5, K6, K1, K3, K7, K8, K10, K11, K12, K13, K14, L11, FwNK. Own lemmas; no conditions. -/
import Derived.Test.YtonjiljafkiikaaGreatGoalsTrivialPart9
set_option maxHeartbeats 1000000
set_option linter.unusedSimpArgs false
set_option linter.unusedVariables false
set_option linter.unnecessarySimpa false
set_option maxRecDepth 100000
namespace Go.Proofs.YtonjiljafkiikaaGreat
open Go Go.FW
theorem Cx{p q:List Tm}{T K E:Nat}(hp:PQ T K E p)(hq:PQ T K E q)(hT:T<=2^30)(hK:K+2<=2^31)(hE:E<=2^38):Qd Tryz.prog 71 [PV.aC p,PV.aC q] (· =PV.aC (b6 p q)):=
 YA (K:=K+2) (hp.mono (Kae _) (by omega) (Kae _)).b (hq.mono (Kae _) (by omega) (Kae _)).b hq.n.z (by omega) (by omega) hE (by have:=hp.l;omega) (by have:=hq.l;omega)
theorem FC{p q:List Tm}{T K E:Nat}(hp:PQ T K E p)(hq:PQ T K E q)(hT:T<=2^30)(hK:K<=2^32)(hE:E<=2^38):Qd Tryz.prog 50 [PV.aC p,PV.aC q] (· =PV.aC (Q2 p q)):=
 Ba hp.b hq.b hK hE (by have:=hp.l;omega) (by have:=hq.l;omega)
theorem FD{p q:List Tm}{T K E:Nat}(hp:PQ T K E p)(hq:PQ T K E q)(hT:T<=2^15)(hK:T*(K+K)+(K+K)<=2^32)(hE:E<=2^37):Qd Tryz.prog 26 [PV.aC p,PV.aC q] (· =PV.aC (bU p q)):=by
 have h1:=hp.l;have h2:=hq.l;have h3:q.length*p.length<=2^15*2^15:=KbS (by omega) (by omega);have h4:q.length*(K+K)<=T*(K+K):=Kal _ h2;have:=Yx hp.b hq.b hp.n.z hq.n.z hE (by omega) (by omega) (by omega) (by omega)
 rwa[Pv hp.n hq.n]at this
theorem ot{p q:List Tm}{T K E:Nat}(hp:PQ T K E p)(hq:PQ T K E q)(hT:T<=2^30)(hK:K+2<=2^31)(hE:E<=2^38):Qd Tryz.prog 68 [PV.aC p,PV.aC q] (· =PV.aC (b6 p q)):=
 Mu (K:=K+2) (hp.mono (Kae _) (by omega) (Kae _)).b (hq.mono (Kae _) (by omega) (Kae _)).b (by omega) (by omega) hE (by have:=hp.l;omega) (by have:=hq.l;omega)
theorem FE{p q:List Tm}{T K E:Nat}(hp:PQ T K E p)(hq:PQ T K E q)(hT:T<=2^30)(hK:K<=2^32)(hE:E<=2^38):Qd Tryz.prog 120 [PV.aC p,PV.aC q] (· =PV.aC (Q2 p q)):=
 Bh hp.b hq.b (by omega) hE (by have:=hp.l;omega) (by have:=hq.l;omega)
theorem ua{p q:List Tm}{T K E:Nat}(hp:PQ T K E p)(hq:PQ T K E q)(hT:T<=2^15)(hK:T*(K+K)+(K+K)<=2^32)(hE:E<=2^37):Qd Tryz.prog 115 [PV.aC p,PV.aC q] (· =PV.aC (bU p q)):=by have h1:=hp.l;have h2:=hq.l;have h3:p.length*q.length<=2^15*2^15:=KbS (by omega) (by omega);have h4:min p.length q.length*(K+K)<=T*(K+K):=Kal _ (by omega);exact Mr hp.b hq.b hE (by omega) (by omega) (by omega) (by omega) (by omega)
def jt(p q r:List Tm):List Tm:=Q2 p (b6 q r)
def pM(a b:Cd)(m:List Tm):Cd:=(Q2 a.1 (bU m (b6 b.1 a.1)),Q2 a.2 (bU m (b6 b.2 a.2)))
def kL(a b c d:Cd):List Tm:=b6 (bU (b6 b.1 a.1) (b6 d.2 c.2)) (bU (b6 b.2 a.2) (b6 d.1 c.1))
def eI(a b c d:Cd):List Tm:=Q2 (bU (b6 b.1 a.1) (b6 d.1 c.1)) (bU (b6 b.2 a.2) (b6 d.2 c.2))
structure CQ(T K E:Nat)(c:Cd):Prop where
 x:PQ T K E c.1
 y:PQ T K E c.2
theorem CQ.mono{T K E T' K' E':Nat}{c:Cd}(h:CQ T K E c)(h1:T<=T')(h2:K<=K')(h3:E<=E'):CQ T' K' E' c:=⟨h.x.mono h1 h2 h3,h.y.mono h1 h2 h3⟩
theorem xu{p q r:List Tm}{T K E:Nat}(hp:PQ T K E p)(hq:PQ T K E q)(hr:PQ T K E r)(hT:T<=2^20)(hK:K<=2^28)(hE:E<=2^20):Qd Tryz.prog 56 [PV.aC p,PV.aC q,PV.aC r] (· =PV.aC (jt p q r)):=by have h1:=Cx hq hr (by omega) (by omega) (by omega);have h2:=FC (T:=T+T) (K:=K+(K+2)) (hp.mono (by omega) (by omega) (Kae _)) (hq.sub hr) (by omega) (by omega) (by omega);refine Qf Qk Tryz.func56 rfl Va (by simp[Dh]) fun C hP=>?_;simp only[Dh,Zo,Zg,Zm,Zc,Zf,Zl,Zh,Zs,Zi,Zb,Zk,Zn,Zu,Zq,Zr,Zz];refine Sz0 ?_;refine Qa hP h1 rfl rfl rfl ?_;refine Sz0 ?_;refine Qa hP h2 rfl rfl rfl ?_;refine Sz0 ?_;exact Qc rfl rfl
theorem JE{a b:Cd}{m:List Tm}{T K E:Nat}(ha:CQ T K E a)(hb:CQ T K E b)(hm:PQ 1 K E m)(hT:T<=256)(hT1:1<=T)(hK:K<=2^18)(hE:E<=2^20):Qd Tryz.prog 54 [PV.bB a,PV.bB b,PV.aC m] (· =PV.bB (pM a b m)):=by
 have hmul:∀ {p q:List Tm},PQ T K E p->PQ T K E q->Qd Tryz.prog 26 [PV.aC m,PV.aC (b6 p q)] (· =PV.aC (bU m (b6 p q))):=fun hp hq=>by have h4:(T+T)*(K+(K+2)+(K+(K+2)))<=512*(2^21):=KbS (by omega) (by omega);exact FD (T:=T+T) (K:=K+(K+2)) (hm.mono (by omega) (by omega) (Kae _)) (hp.sub hq) (by omega) (by omega) (by omega)
 have dB:∀ {p q r:List Tm},PQ T K E p->PQ T K E q->PQ T K E r->Qd Tryz.prog 50 [PV.aC r,PV.aC (bU m (b6 p q))] (· =PV.aC (Q2 r (bU m (b6 p q)))):=fun hp hq hr=>by have h4:min 1 (T+T)*(K+(K+(K+2)))<=1*2^26:=KbS (by omega) (by omega);exact FC (T:=1*(T+T)) (K:=2^26) (E:=E+E) (hr.mono (by omega) (by omega) (by omega)) ((hm.mul (hp.sub hq)).mono (by omega) (by omega) (by omega)) (by omega) (by omega) (by omega)
 have s1:=Cx hb.x ha.x (by omega) (by omega) (by omega);have s2:=Cx hb.y ha.y (by omega) (by omega) (by omega);have m1:=hmul hb.x ha.x;have m2:=hmul hb.y ha.y;have a1:=dB hb.x ha.x ha.x;have a2:=dB hb.y ha.y ha.y;refine Qf Qk Tryz.func54 rfl Vb (by simp[Df]) fun C hP=>?_;simp only[Df,Zo,Zg,Zm,Zc,Zf,Zl,Zh,Zs,Zi,Zb,Zk,Zn,Zu,Zq,Zr,Zz];refine Sz0 ?_;refine Qa hP s1 rfl rfl rfl ?_;refine Sz0 ?_;refine Qa hP m1 rfl rfl rfl ?_;refine Sz0 ?_;refine Qa hP a1 rfl rfl rfl ?_;refine Sz0 ?_;refine Qa hP s2 rfl rfl rfl ?_;refine Sz0 ?_;refine Qa hP m2 rfl rfl rfl ?_;refine Sz0 ?_;refine Qa hP a2 rfl rfl rfl ?_;refine Sz0 ?_;refine cF ?_;exact Qc rfl rfl
theorem g9{p q:List Tm}(hp:PQ 256 (2^17) 100 p)(hq:PQ 256 (2^17) 100 q):PQ 512 (2^18+2) 100 (b6 p q):=(hp.sub hq).mono (by omega) (by omega) (by omega)
theorem rO{p q:List Tm}(hp:PQ 512 (2^18+2) 100 p)(hq:PQ 512 (2^18+2) 100 q):PQ 262144 (2^28+2048) 200 (bU p q):=(hp.mul hq).mono (by omega) (by omega) (by omega)
abbrev CB(c:Cd):Prop:=CQ 256 (2^17) 100 c
theorem w9{a b c d:Cd}(ha:CB a)(hb:CB b)(hc:CB c)(hd:CB d):PQ 524288 (2^29+4098) 200 (eI a b c d):=
 ((rO (g9 hb.x ha.x) (g9 hd.x hc.x)).add (rO (g9 hb.y ha.y) (g9 hd.y hc.y))).mono (by omega) (by omega) (by omega)
theorem wI{a b:Cd}(ha:CB a)(hb:CB b):Qd Tryz.prog 114 [PV.bB a,PV.bB b] (· =PV.bB (b6 b.1 a.1,b6 b.2 a.2)):=by have s1:=ot hb.x ha.x (by omega) (by omega) (by omega);have s2:=ot hb.y ha.y (by omega) (by omega) (by omega);refine Qf Qk Tryz.func114 rfl Tl (by simp[CH]) fun C hP=>?_;simp only[CH,Zo,Zg,Zm,Zc,Zf,Zl,Zh,Zs,Zi,Zb,Zk,Zn,Zu,Zq,Zr,Zz];refine Sz0 ?_;refine Qa hP s1 rfl rfl rfl ?_;refine Sz0 ?_;refine Qa hP s2 rfl rfl rfl ?_;refine Sz0 ?_;refine cF ?_;exact Qc rfl rfl
theorem W4{u v:Cd}(hu:CQ 512 (2^18+2) 100 u)(hv:CQ 512 (2^18+2) 100 v):Qd Tryz.prog 116 [PV.bB u,PV.bB v] (· =PV.aC (Q2 (bU u.1 v.1) (bU u.2 v.2))):=by have m1:=ua hu.x hv.x (by omega) (by omega) (by omega);have m2:=ua hu.y hv.y (by omega) (by omega) (by omega);have f:=FE (rO hu.x hv.x) (rO hu.y hv.y) (by omega) (by omega) (by omega);refine Qf Qk Tryz.func116 rfl Tn (by simp[CI]) fun C hP=>?_;simp only[CI,Zo,Zg,Zm,Zc,Zf,Zl,Zh,Zs,Zi,Zb,Zk,Zn,Zu,Zq,Zr,Zz];refine Sz0 ?_;refine Qa hP m1 rfl rfl rfl ?_;refine Sz0 ?_;refine Qa hP m2 rfl rfl rfl ?_;refine Sz0 ?_;refine Qa hP f rfl rfl rfl ?_;refine Sz0 ?_;exact Qc rfl rfl
theorem ue{a b c d:Cd}(ha:CB a)(hb:CB b)(hc:CB c)(hd:CB d):Qd Tryz.prog 63 [PV.bB a,PV.bB b,PV.bB c,PV.bB d] (· =PV.aC (eI a b c d)):=by have b1:=wI ha hb;have b2:=wI hc hd;have b3:=W4 (u:=(b6 b.1 a.1,b6 b.2 a.2)) (v:=(b6 d.1 c.1,b6 d.2 c.2)) ⟨g9 hb.x ha.x,g9 hb.y ha.y⟩ ⟨g9 hd.x hc.x,g9 hd.y hc.y⟩;refine Qf Qk Tryz.func63 rfl VN (by simp[Dn]) fun C hP=>?_;simp only[Dn,Zo,Zg,Zm,Zc,Zf,Zl,Zh,Zs,Zi,Zb,Zk,Zn,Zu,Zq,Zr,Zz];refine Sz0 ?_;refine Qa hP b1 rfl rfl rfl ?_;refine Sz0 ?_;refine Qa hP b2 rfl rfl rfl ?_;refine Sz0 ?_;refine Qa hP b3 rfl rfl rfl ?_;refine Sz0 ?_;exact Qc rfl rfl
set_option maxHeartbeats 4000000 in
theorem xa{a b c d:Cd}(ha:CB a)(hb:CB b)(hc:CB c)(hd:CB d):Qd Tryz.prog 62 [PV.bB a,PV.bB b,PV.bB c,PV.bB d] (· =PV.aC (kL a b c d)):=by
 have b1:=wI ha hb;have b2:=wI hc hd;have m1:=ua (g9 hb.x ha.x) (g9 hd.y hc.y) (by omega) (by omega) (by omega);have m2:=ua (g9 hb.y ha.y) (g9 hd.x hc.x) (by omega) (by omega) (by omega);have f:=ot (rO (g9 hb.x ha.x) (g9 hd.y hc.y)) (rO (g9 hb.y ha.y) (g9 hd.x hc.x)) (by omega) (by omega) (by omega);refine Qf Qk Tryz.func62 rfl VM (by simp[Dm]) fun C hP=>?_;simp only[Dm,Zo,Zg,Zm,Zc,Zf,Zl,Zh,Zs,Zi,Zb,Zk,Zn,Zu,Zq,Zr,Zz];refine Sz0 ?_
 repeat' first
  |refine iE ?_ ?_
  |refine Qa hP b1 rfl rfl rfl ?_
  |refine Qa hP b2 rfl rfl rfl ?_
  |refine Qa hP m1 rfl rfl rfl ?_
  |refine Qa hP m2 rfl rfl rfl ?_
  |refine Qa hP f rfl rfl rfl ?_
  |exact Qc rfl rfl
  |simp+decide (disch:=try exact D0) only[go_sem]
structure cI where
 k:Int
 args:List Int
 n:Bool
 a:List Nat
 d:List Nat
abbrev PV.jg(f:cI):PV:=.agg [.int .i64 f.k,PV.mono f.args,.bool f.n,PV.nat f.a,PV.nat f.d]
def cD(k:Int):Int:=if k=1∨k=5 then 3 else if k=2∨k=3∨k=4∨k=6∨k=9 then 4 else if k=7 then 8 else if k=8 then 2 else 0
def fX(n:Bool)(a d:List Nat):Bool:= !n&&(decide (a.length=0)&&decide (d.length=0))
def dF(f:cI)(n:Int):Int:=
 if cD f.k=0 then 8 else if(f.args.length:Int)≠cD f.k then 1 else if(f.args.any fun i=>decide (i<0∨n<=i))=true then 2 else
  if(if f.k=9 then kO f.n f.a f.d else fX f.n f.a f.d)=true then 0 else 1
theorem BE(k:Int):(k=1∨k=2∨k=3∨k=4∨k=5∨k=6∨k=7∨k=8∨k=9)∨(k≠1/\k≠2/\k≠3/\k≠4/\k≠5/\k≠6/\k≠7/\k≠8/\k≠9):=by omega
theorem Oa{k:Int}:Qd Tryz.prog 23 [.int .i64 k] (· = .int .i64 (cD k)):=by
 rcases BE k with h|⟨h1,h2,h3,h4,h5,h6,h7,h8,h9⟩
 ·rcases h with rfl|rfl|rfl|rfl|rfl|rfl|rfl|rfl|rfl
  all_goals
   refine Qf Qk Tryz.func23 rfl FA (by simp[uy]) fun C hP=>?_;simp only[uy,Zo,Zg,Zm,Zc,Zf,Zl,Zh,Zs,Zi,Zb,Zk,Zn,Zu,Zq,Zr,Zz];refine Sz0 ?_;exact Qc rfl rfl
 ·have e:cD k=0:=by simp[cD,h1,h2,h3,h4,h5,h6,h7,h8,h9]
  rw[e];have d1:decide (k=1)=false:=decide_eq_false h1;have d2:decide (k=2)=false:=decide_eq_false h2;have d3:decide (k=3)=false:=decide_eq_false h3;have d4:decide (k=4)=false:=decide_eq_false h4;have d5:decide (k=5)=false:=decide_eq_false h5;have d6:decide (k=6)=false:=decide_eq_false h6;have d7:decide (k=7)=false:=decide_eq_false h7;have d8:decide (k=8)=false:=decide_eq_false h8;have d9:decide (k=9)=false:=decide_eq_false h9;refine Qf Qk Tryz.func23 rfl FA (by simp[uy]) fun C hP=>?_;simp only[uy,Zo,Zg,Zm,Zc,Zf,Zl,Zh,Zs,Zi,Zb,Zk,Zn,Zu,Zq,Zr,Zz];refine Sz9 d1 d2 d3 d4 d5 d6 d7 d8 d9 ?_;exact Qc rfl rfl
theorem PY{k:Int}:Qd Tryz.prog 59 [.int .i64 k] (· = .int .i64 (cD k)):=by
 rcases BE k with h|⟨h1,h2,h3,h4,h5,h6,h7,h8,h9⟩
 ·rcases h with rfl|rfl|rfl|rfl|rfl|rfl|rfl|rfl|rfl
  all_goals
   refine Qf Qk Tryz.func59 rfl FB (by simp[uz]) fun C hP=>?_;simp only[uz,Zo,Zg,Zm,Zc,Zf,Zl,Zh,Zs,Zi,Zb,Zk,Zn,Zu,Zq,Zr,Zz];refine Sz0 ?_;exact Qc rfl rfl
 ·have e:cD k=0:=by simp[cD,h1,h2,h3,h4,h5,h6,h7,h8,h9]
  rw[e];have d1:decide (k=1)=false:=decide_eq_false h1;have d2:decide (k=2)=false:=decide_eq_false h2;have d3:decide (k=3)=false:=decide_eq_false h3;have d4:decide (k=4)=false:=decide_eq_false h4;have d5:decide (k=5)=false:=decide_eq_false h5;have d6:decide (k=6)=false:=decide_eq_false h6;have d7:decide (k=7)=false:=decide_eq_false h7;have d8:decide (k=8)=false:=decide_eq_false h8;have d9:decide (k=9)=false:=decide_eq_false h9;refine Qf Qk Tryz.func59 rfl FB (by simp[uz]) fun C hP=>?_;simp only[uz,Zo,Zg,Zm,Zc,Zf,Zl,Zh,Zs,Zi,Zb,Zk,Zn,Zu,Zq,Zr,Zz];refine Sz9 d1 d2 d3 d4 d5 d6 d7 d8 d9 ?_;exact Qc rfl rfl
theorem PZ{n:Bool}{a d:List Nat}{k:Nat}(hb:Raw k n a d):Qd Tryz.prog 25 [PV.rr n a d] (· = .bool (fX n a d)):=by
 refine Qf Qk Tryz.func25 rfl UT (by simp[CS]) fun C hP=>?_;simp only[CS,Zo,Zg,Zm,Zc,Zf,Zl,Zh,Zs,Zi,Zb,Zk,Zn,Zu,Zq,Zr,Zz];refine Sz0 ?_;cases n
 ·refine Sz0 ?_;refine ep (fun h=>?_) (fun h=>?_)
  ·refine Sz0 ?_;exact Qc (by simp[fX,show a.length=0 by omega]) rfl
  ·refine Sz0 ?_;exact Qc (by simp[fX,show ¬a.length=0 by omega]) rfl
 ·refine Sz0 ?_;exact Qc rfl rfl
theorem Tp{n:Bool}{a d:List Nat}{k:Nat}(hb:Raw k n a d):Qd Tryz.prog 61 [PV.rr n a d] (· = .bool (fX n a d)):=by
 refine Qf Qk Tryz.func61 rfl UU (by simp[Dl]) fun C hP=>?_;simp only[Dl,Zo,Zg,Zm,Zc,Zf,Zl,Zh,Zs,Zi,Zb,Zk,Zn,Zu,Zq,Zr,Zz];refine Sz0 ?_;cases n
 ·refine Sz0 ?_;refine ep (fun h=>?_) (fun h=>?_)
  ·refine Sz0 ?_;exact Qc (by simp[fX,show a.length=0 by omega]) rfl
  ·refine Sz0 ?_;exact Qc (by simp[fX,show ¬a.length=0 by omega]) rfl
 ·refine Sz0 ?_;exact Qc rfl rfl
theorem P0{n:Bool}{a d:List Nat}{k:Nat}(hb:Raw k n a d):Qd Tryz.prog 105 [PV.rr n a d] (· = .bool (fX n a d)):=by
 refine Qf Qk Tryz.func105 rfl Th (by simp[CF]) fun C hP=>?_;simp only[CF,Zo,Zg,Zm,Zc,Zf,Zl,Zh,Zs,Zi,Zb,Zk,Zn,Zu,Zq,Zr,Zz];refine Sz0 ?_;cases n
 ·refine Sz0 ?_;refine ep (fun h=>?_) (fun h=>?_)
  ·refine Sz0 ?_;exact Qc (by simp[fX,show a.length=0 by omega]) rfl
  ·refine Sz0 ?_;exact Qc (by simp[fX,show ¬a.length=0 by omega]) rfl
 ·refine Sz0 ?_;exact Qc rfl rfl
structure oG(f:cI):Prop where
 l:f.args.length<2^40
 r:Raw 1048576 f.n f.a f.d
theorem F3{f:cI}{n:Int}(h0:¬cD f.k=0)(hl:(f.args.length:Int)=cD f.k){i:Nat}(hi:i<f.args.length)(h:f.args[i]<0∨n<=f.args[i]):dF f n=2:=by unfold dF;rw[if_neg h0,if_neg (by simpa using hl),if_pos];exact KaS.2 ⟨_,Kao hi,decide_eq_true h⟩
theorem za{f:cI}{n:Int}(h0:¬cD f.k=0)(hl:(f.args.length:Int)=cD f.k)(h:∀j (h:j<f.args.length),0<=f.args[j]/\f.args[j]<n):dF f n=if(if f.k=9 then kO f.n f.a f.d else fX f.n f.a f.d)=true then 0 else 1:=by unfold dF;rw[if_neg h0,if_neg (by simpa using hl),if_neg];intro hq;obtain⟨x,hx,hd⟩:=KaS.1 hq;obtain⟨j,hj,rfl⟩:=KaZ hx;have:=of_decide_eq_true hd;have:=h j hj;omega
theorem Ob{f:cI}{n:Int}(hf:oG f):Qd Tryz.prog 7 [PV.jg f,.int .i64 n] (· = .int .i64 (dF f n)):=by
 have hr:=Gn hf.r (by omega);have hz:=PZ hf.r;have mO:=hf.l;obtain⟨k,args,n0,a,d⟩:=f;simp only at hr hz mO;have hA:=Oa (k:=k);refine Qf Qk Tryz.func7 rfl Wv (by simp[c7]) fun C hP=>?_;simp only[c7,Zo,Zg,Zm,Zc,Zf,Zl,Zh,Zs,Zi,Zb,Zk,Zn,Zu,Zq,Zr,Zz];refine Sz0 ?_;refine Qa hP hA rfl rfl rfl ?_;refine Sz0 ?_;refine Qb (fun h0=>?_) (fun h0=>?_)
 ·refine Sz0 ?_;exact Qc (by simp[dF,h0]) rfl
 refine Sz0 ?_;refine Qa hP hA rfl rfl rfl ?_;refine Sz0 ?_;refine Qb (fun hl=>?_) (fun hl=>?_)
 ·refine Sz0 ?_;exact Qc (by simp[dF,h0,hl]) rfl
 replace hl:(args.length:Int)=cD k:=by omega
 refine Sz0 ?_;refine Q5 (by repeat (first|exact Qx|exact Qq|exact Qr|exact Qt|exact Qu|apply Qp|apply Qw|apply Q3|apply Q8|apply Q9|apply Qn|apply Q7)) [(4,4),(6,6),(21,32)] [] (fun m J hp=>∃i,m=args.length-i/\i<=args.length/\(∀j (h:j<args.length),j<i->0<=args[j]/\args[j]<n)/\J 21= .int .i64 (i:Nat)/\hp 2=some ⟨5,34,[PV.jg ⟨k,args,n0,a,d⟩],false⟩) args.length ?_ ?_
 ·refine⟨0,rfl,by omega,by omega,?_⟩;refine Sz0 ?_;rfl
 rintro _ J h ⟨i,rfl,hi,h1,lk,cl⟩;refine Sz1 lk ?_;refine Qb (fun hg=>?_) (fun hg=>?_)
 ·have aA:i<args.length:=by omega
  have h2:(args[i]<0∨n<=args[i])->dF ⟨k,args,n0,a,d⟩ n=2:=fun h=>F3 (f:=⟨k,args,n0,a,d⟩) h0 hl aA h;have dB:0<=args[i]/\args[i]<n->∀j (h:j<args.length),j<i+1->0<=args[j]/\args[j]<n:=fun h j hj l9=>by
   by_cases e:j=i
   ·subst e;exact h
   ·exact h1 j hj (by omega)
  generalize hx:args[i]=x at *
  refine Sz2 lk hx ?_;refine Q6 (fun h3=>?_) (fun h3=>?_)
  ·refine Sz0 ?_;exact Qc (by rw[h2 (.inl h3)]) rfl
  refine Sz0 ?_;refine Qb (fun h4=>?_) (fun h4=>?_)
  ·refine Sz0 ?_;exact Qc (by rw[h2 (.inr h4)]) rfl
  refine Sz1 lk ?_;refine Qm (args.length-(i+1)) (by omega) ⟨i+1,rfl,by omega,dB ⟨by omega,by omega⟩,?_⟩;exact Tz1 cl
 obtain rfl:i=args.length:=by omega
 have cM:=za (f:=⟨k,args,n0,a,d⟩) (n:=n) h0 hl (fun j hj=>h1 j hj hj);refine Sz1 cl ?_;by_cases h9:k=9
 ·subst h9;refine Sz1 cl ?_;refine Qa hP hr rfl rfl rfl ?_;cases hq:kO n0 a d
  ·refine Sz1 cl ?_;exact Qc (by rw[cM];simp[hq]) rfl
  ·refine Sz1 cl ?_;exact Qc (by rw[cM];simp[hq]) rfl
 ·have d9:decide (k=9)=false:=decide_eq_false h9;have DC:decide (¬k=9)=true:=decide_eq_true h9;refine Sz3 cl d9 DC ?_;refine Qa hP hz rfl rfl rfl ?_;cases hq:fX n0 a d
  ·refine Sz1 cl ?_;exact Qc (by rw[cM];simp[hq,h9]) rfl
  ·refine Sz1 cl ?_;exact Qc (by rw[cM];simp[hq,h9]) rfl
structure cB where
 k:Int
 name:ByteArray
 args:List Int
 n:Bool
 a:List Nat
 d:List Nat
abbrev PV.mu(s:cB):PV:=.agg [.int .i64 s.k,.str s.name,PV.mono s.args,.bool s.n,PV.nat s.a,PV.nat s.d]
abbrev PV.fp(S:List cB)(G:List cI):PV:=.agg [.sl 6 (S.map PV.mu),.sl 5 (G.map PV.jg)]
def ca(cs:List Cd)(l:List Int):List Cd:=l.map fun a=>cs.getD a.toNat ([],[])
def iJ(k i:Int)(b:Nat):List Vr:=if k=1 then mK i b else if k=5 then [(1,i,0)]else if k=6 then [(1,i,0),(2,i,1),(2,i,2)]else if k=2∨k=3∨k=4 then []else [(2,i,0),(2,i,1)]
def fN(k:Int)(q:Rat)(l:List Cd)(n b:Nat):Cd:=
 if k=1 then nw n b else if k=2 then pM (l.getD 0 ([],[])) (l.getD 1 ([],[])) (kK q)else
 if k=3 then(jt (l.getD 0 ([],[])).1 (l.getD 2 ([],[])).1 (l.getD 1 ([],[])).1,jt (l.getD 0 ([],[])).2 (l.getD 2 ([],[])).2 (l.getD 1 ([],[])).2)else
 if k=4 then(jt (l.getD 0 ([],[])).1 (l.getD 1 ([],[])).2 (l.getD 2 ([],[])).2,jt (l.getD 0 ([],[])).2 (l.getD 2 ([],[])).1 (l.getD 1 ([],[])).1)else
 if k=5 then pM (l.getD 0 ([],[])) (l.getD 1 ([],[])) (bV n)else if k=6 then(bV (n+1:Nat),bV (n+2:Nat))else(bV n,bV (n+1:Nat))
def eR(k:Int):Int:=if k=1 then 0 else if k=2∨k=5∨k=6∨k=14 then 2 else if k=3∨k=4∨k=7∨k=8∨k=10∨k=11 then 3 else if k=9∨k=12∨k=13 then 4 else -1
theorem Wd{fr:Fr}{hp:HP}{K:Qg}{ty i d:Nat}{fz:Bool}{cs:List Cd}(h:i<cs.length):fU (some ⟨2,ty,cs.map PV.bB,fz⟩) 2 true i 0 d fr hp K=K (ae fr d (PV.bB (cs[i]'h))) hp:=by rw[lJ (by rw[Ka1];exact h) (by omega) (by simp),KbO];rfl
theorem We{fr:Fr}{hp:HP}{K:Qg}{ty i d:Nat}{fz:Bool}{cs:List Cd}(h:i<cs.length):fU (some ⟨2,ty,cs.map PV.bB,fz⟩) 1 false i 0 d fr hp K=K (ae fr d (PV.aC (cs[i]'h).1)) hp:=by rw[lJ (by rw[Ka1];exact h) (by omega) (by simp),KbO];rfl
theorem Wf{fr:Fr}{hp:HP}{K:Qg}{ty i d:Nat}{fz:Bool}{cs:List Cd}(h:i<cs.length):fU (some ⟨2,ty,cs.map PV.bB,fz⟩) 1 false i 1 d fr hp K=K (ae fr d (PV.aC (cs[i]'h).2)) hp:=by rw[lJ (by rw[Ka1];exact h) (by omega) (by simp),KbO];rfl
theorem W5{σ:Nat->Nat}{γ e ty:Nat}{cs:List PV}:cd σ (.az γ e ty [.agg cs])= .az (σ γ) e ty [dX (cs.map (cw σ))]:=rfl
theorem Wg{γ aO e ty:Nat}{cs:List PV}(h:aO≠γ):cE γ (.az aO e ty [.agg cs])= .az aO e ty [dX (cs.map (dq γ))]:=by simp[cE,h,PV.aL,PV.cells]
theorem Wh{γ e ty:Nat}{cs:List PV}{nm:Nat->Bool}:kR nm (.az γ e ty [.agg cs])=if(γ::cs.flatMap PV.cA).any nm then .undef else .az γ e ty [.agg cs]:=by simp[kR,PV.refs,PV.aI,PV.aL,PV.cells]
attribute [go_sem] Wd We Wf W5 Wg Wh
structure ou(i:Nat)(s:cB):Prop where
 k:0<=eR s.k
 l:(s.args.length:Int)=eR s.k
 r:∀a∈s.args,0<=a/\a<(i:Nat)
 q:if s.k=2 then kO s.n s.a s.d=true else fX s.n s.a s.d=true
theorem Wi{S:List cB}{G:List cI}{i b:Nat}{cs:List Cd}{vs:List Vr}(hi:i<S.length)(hS:S.length<=1000)(bQ:ou i S[i])(gI:cs.length=i)(hc:∀c∈cs,CB c)(hv:vs.length<60)(hb:b<1000)(hr:S[i].k=2->S[i].a.length<=2/\S[i].d.length<=2/\Raw 1048576 S[i].n S[i].a S[i].d):
  lU 28 cs vs (vs++iJ S[i].k (i:Nat) b) [PV.fp S G,.int .i64 (i:Nat),.int .i64 (b:Nat)] (PV.bB (fN S[i].k (rv S[i].n S[i].a S[i].d) (ca cs S[i].args) vs.length b)):=by
 have mO:S[i].args.length<=4:=by
  have:=bQ.l;unfold eR at this
  repeat' split at this
  all_goals omega
 obtain⟨s,hs⟩:∃s,S[i]=s:=⟨_,rfl⟩
 rw[hs]at bQ hr mO⊢;have yd:(ca cs s.args).length=s.args.length:=by simp[ca]
 have hL:∀c∈ca cs s.args,CB c:=fun c hm=>by obtain⟨a,ha,rfl⟩:=KaM.1 hm;have:=bQ.r a ha;rw[Kad,Kaf (show a.toNat<cs.length by omega)];exact hc _ (Kao _)
 refine rp Qk Tryz.func28 rfl VU (by simp[CV]) fun C hP=>?_;simp only[CV,Zo,Zg,Zm,Zc,Zf,Zl,Zh,Zs,Zi,Zb,Zk,Zn,Zu,Zq,Zr,Zz];refine Sz0 ?_;refine cq (mJ 8 2000010 bA (by omega) rfl (by omega)) ?_;refine Sz0 ?_;refine cq (mF (γ:=2000010) (e:=2) (ty:=43) (xs:=[.agg [.aa,.aa]]) (fz:=false) Tz0 (by simp) (by omega) (fun x hx=>by rw[KaQ.1 hx];rfl)) ?_;refine Sz1 hs ?_;refine mC 11 900 2 82 (by omega) Tz0 ?_;refine IT (by repeat (first|exact Qx|exact Qq|exact Qr|exact Qt|exact Qu|apply Qp|apply Qw|apply Q3|apply Q8|apply Q9|apply Qn)) [(4,4),(8,8),(11,11),(13,13),(26,38),(2000010,2000010),(4000004,4000004)] [36,37,900] (fun q J hp=>∃j,q=s.args.length-j/\j<=s.args.length/\J 11= .ms 900 j/\J 4= .np 4000004 0 0/\J 8= .np 2000010 0 0/\J 26= .int .i64 (j:Nat)/\J 4000004= .az 4000004 2 43 [vL cs.length vs.length]/\J 2000010= .az 2000010 2 43 [.agg [.aa,.aa]]/\hp 4000004=some ⟨2,43,[],false⟩/\hp 2000010=some ⟨2,43,[],false⟩/\hp 2000011=none/\
   hp 2000000=some (sm cs)/\hp 2000001=some (sn vs)/\hp 9=some ⟨2,82,[.agg [.aa,.aa]],false⟩/\hp 10=some ⟨6,76,[PV.mu s],false⟩/\hp 900=some ⟨2,82,((ca cs s.args).take j).map PV.bB,false⟩) s.args.length ?_ ?_
 ·refine⟨0,rfl,by omega,?_⟩;refine Sz0 ?_;rfl
 rintro _ J h ⟨j,rfl,hj,jL,j4,j8,yK,g4,g8,h4,h8,hn,h0,h1,h9,bx,dY⟩;refine Sz1 yK ?_;refine Qb (fun hg=>?_) (fun hg=>?_)
 ·have cR:j<s.args.length:=by omega
  have Ej:j<(ca cs s.args).length:=by omega
  obtain⟨m,hm⟩:∃m:Nat,s.args[j]=(m:Int):=⟨s.args[j].toNat,by have:=bQ.r _ (Kao cR);omega⟩
  have uZ:m<cs.length:=by have:=bQ.r _ (Kao cR);omega
  have DG:(ca cs s.args)[j]=cs[m]:=by simp only[ca,KbO,hm,KbU];rw[Kad,Kaf uZ];rfl
  have cy:(ca cs s.args).take (j+1)=(ca cs s.args).take j++[cs[m]]:=by rw[<-DG];exact KaD Ej
  have mX:j=((ca cs s.args).take j).length:=by rw[Kau];omega
  generalize hy:cs[m]=y at *
  refine Sz7 yK jL j4 g4 h0 hm hy ?_;rw[dm (f:=PV.bB) (y:=y) (xs:=(ca cs s.args).take j) (ty':=82) (fz:=false) (Tz1 dY) bA (by omega) mX (by omega) (by omega)];refine pZ yK jL j4 j8 g4 g8 h4 h8 h0 h1 h9 bx ?_;refine By (s.args.length-(j+1)) (by omega) ⟨j+1,rfl,by omega,?_⟩;exact Tz14 yK jL j4 j8 g4 g8 h4 h8 hn h0 h1 h9 bx cy
 obtain rfl:j=s.args.length:=by omega
 rw[Kai (by omega)]at dY;obtain⟨L,ZO⟩:∃L,ca cs s.args=L:=⟨_,rfl⟩
 rw[ZO]at dY yd hL⊢;have hlen:=bQ.l;have hq:=bQ.q;have hk:s.k=1∨s.k=2∨s.k=3∨s.k=4∨s.k=5∨s.k=6∨(7<=s.k/\s.k<=14):=by
  have:=bQ.k;unfold eR at this
  repeat' split at this
  all_goals omega
 clear hs bQ;generalize s.args=args at *
 obtain⟨k,nm,ar,n0,a0,d0⟩:=s;simp only at *
 refine Sz1 bx ?_;rcases hk with rfl|rfl|rfl|rfl|rfl|rfl|⟨Ku,oY⟩
 ·have hf:=VY (cs:=cs) (vs:=vs) (s:=(i:Nat)) (b:=b) (by omega) hb;rw[show iJ 1 (i:Nat) b=mK (i:Nat) b from rfl,show fN 1 (rv n0 a0 d0) L vs.length b=nw vs.length b from rfl];refine Sz6 j4 j8 g4 g8 h4 h8 ?_;refine lH hP hf (Tz1 h0) (Tz1 h1) rfl rfl rfl (by simp) ?_;refine Sz4 j8 g8 h8 h9 ?_;refine lD (γ:=2000010) (ty:=43) (n:=cs.length) (m:=(vs++mK (i:Nat) b).length) (Tz1 j8) Tz0 (q:=PV.bB (nw vs.length b)) (jz h9) rfl ⟨rfl,by simp+decide (disch:=try exact D0) only[go_sem],by simp+decide (disch:=try exact D0) only[go_sem]⟩
 ·have qm:args.length=2:=by have:eR 2=2:=(by decide);omega
  have bK:∀n,n<2->∃c,(∀h:n<L.length,L[n]'h=c)/\L.getD n ([],[])=c/\CB c:=fun n hn=>by
   have qC:n<L.length:=by omega
   exact⟨L[n],fun _=>rfl,by rw[Kad,Kaf qC];rfl,hL _ (Kao _)⟩
  obtain⟨c0,f0,g0,b0⟩:=bK 0 (by omega);obtain⟨c1,f1,g1,b1⟩:=bK 1 (by omega);rw[qm]at jL;obtain⟨q1,q2,q3⟩:=hr rfl;have hC:=Xz (k:=1048576) q3 (by omega);have ct:rs (rv n0 a0 d0)+1<=2^17:=by have:=(show Raw 2 n0 a0 d0 from⟨q3.la,q3.ld,q1,q2,by omega⟩).rs;omega
  have DH:=JE (m:=kK (rv n0 a0 d0)) b0 b1 ((PQ.const ct).mono (Kae _) (Kae _) (by omega)) (by omega) (by omega) (by omega) (by omega);rw[show iJ 2 (i:Nat) b=[]from rfl,show fN 2 (rv n0 a0 d0) L vs.length b=pM (L.getD 0 ([],[])) (L.getD 1 ([],[])) (kK (rv n0 a0 d0))from rfl,g0,g1,Kan];refine vJ j4 j8 jL g4 g8 h4 h8 bx dY f0 f1 ?_;refine Qa hP hC rfl rfl rfl ?_;refine vJ j4 j8 jL g4 g8 h4 h8 bx dY f0 f1 ?_;refine Qa hP DH rfl rfl rfl ?_;refine Sz4 j8 g8 h8 h9 ?_;refine lD (γ:=2000010) (ty:=43) (n:=cs.length) (m:=vs.length) (Tz1 j8) Tz0 (q:=PV.bB (pM c0 c1 (kK (rv n0 a0 d0)))) (jz h9) rfl ⟨rfl,by simp+decide (disch:=try exact D1 h0) only[go_sem,h0],by simp+decide (disch:=try exact D1 h1) only[go_sem,h1]⟩
 ·have qm:args.length=3:=by have:eR 3=3:=(by decide);omega
  have bK:∀n,n<3->∃c,(∀h:n<L.length,L[n]'h=c)/\L.getD n ([],[])=c/\CB c:=fun n hn=>by
   have qC:n<L.length:=by omega
   exact⟨L[n],fun _=>rfl,by rw[Kad,Kaf qC];rfl,hL _ (Kao _)⟩
  obtain⟨c0,f0,g0,qj⟩:=bK 0 (by omega);obtain⟨c1,f1,g1,uD⟩:=bK 1 (by omega);obtain⟨c2,f2,g2,uE⟩:=bK 2 (by omega);rw[qm]at jL;have p1:=xu (qj.x) (uE.x) (uD.x) (by omega) (by omega) (by omega);have p2:=xu (qj.y) (uE.y) (uD.y) (by omega) (by omega) (by omega);have e2:fN 3 (rv n0 a0 d0) L vs.length b=(jt c0.1 c2.1 c1.1,jt c0.2 c2.2 c1.2):=by rw[<-g0,<-g1,<-g2];rfl
  rw[show iJ 3 (i:Nat) b=[]from rfl,e2,Kan];refine pZ j4 j8 jL g4 g8 h4 h8 bx dY f0 f1 f2 ?_;refine Qa hP p1 rfl rfl rfl ?_;refine pZ j4 j8 jL g4 g8 h4 h8 bx dY f0 f1 f2 ?_;refine Qa hP p2 rfl rfl rfl ?_;refine Sz4 j8 g8 h8 h9 ?_;refine lD (γ:=2000010) (ty:=43) (n:=cs.length) (m:=vs.length) (Tz1 j8) Tz0 (q:=PV.bB (jt c0.1 c2.1 c1.1,jt c0.2 c2.2 c1.2)) (jz h9) rfl ⟨rfl,by simp+decide (disch:=try exact D1 h0) only[go_sem,h0],by simp+decide (disch:=try exact D1 h1) only[go_sem,h1]⟩
 ·have qm:args.length=3:=by have:eR 4=3:=(by decide);omega
  have bK:∀n,n<3->∃c,(∀h:n<L.length,L[n]'h=c)/\L.getD n ([],[])=c/\CB c:=fun n hn=>by
   have qC:n<L.length:=by omega
   exact⟨L[n],fun _=>rfl,by rw[Kad,Kaf qC];rfl,hL _ (Kao _)⟩
  obtain⟨c0,f0,g0,qj⟩:=bK 0 (by omega);obtain⟨c1,f1,g1,uD⟩:=bK 1 (by omega);obtain⟨c2,f2,g2,uE⟩:=bK 2 (by omega);rw[qm]at jL;have p1:=xu (qj.x) (uD.y) (uE.y) (by omega) (by omega) (by omega);have p2:=xu (qj.y) (uE.x) (uD.x) (by omega) (by omega) (by omega);have e2:fN 4 (rv n0 a0 d0) L vs.length b=(jt c0.1 c1.2 c2.2,jt c0.2 c2.1 c1.1):=by rw[<-g0,<-g1,<-g2];rfl
  rw[show iJ 4 (i:Nat) b=[]from rfl,e2,Kan];refine pZ j4 j8 jL g4 g8 h4 h8 bx dY f0 f1 f2 ?_;refine Qa hP p1 rfl rfl rfl ?_;refine pZ j4 j8 jL g4 g8 h4 h8 bx dY f0 f1 f2 ?_;refine Qa hP p2 rfl rfl rfl ?_;refine Sz4 j8 g8 h8 h9 ?_;refine lD (γ:=2000010) (ty:=43) (n:=cs.length) (m:=vs.length) (Tz1 j8) Tz0 (q:=PV.bB (jt c0.1 c1.2 c2.2,jt c0.2 c2.1 c1.1)) (jz h9) rfl ⟨rfl,by simp+decide (disch:=try exact D1 h0) only[go_sem,h0],by simp+decide (disch:=try exact D1 h1) only[go_sem,h1]⟩
 ·have qm:args.length=2:=by have:eR 5=2:=(by decide);omega
  have bK:∀n,n<2->∃c,(∀h:n<L.length,L[n]'h=c)/\L.getD n ([],[])=c/\CB c:=fun n hn=>by
   have qC:n<L.length:=by omega
   exact⟨L[n],fun _=>rfl,by rw[Kad,Kaf qC];rfl,hL _ (Kao _)⟩
  obtain⟨c0,f0,g0,b0⟩:=bK 0 (by omega);obtain⟨c1,f1,g1,b1⟩:=bK 1 (by omega);rw[qm]at jL;have hf:=rH (cs:=cs) (vs:=vs) (k:=1) (s:=(i:Nat)) (m:=0) (by omega);have DH:=JE (m:=bV vs.length) b0 b1 ((PQ.var).mono (Kae _) (by omega) (by omega)) (by omega) (by omega) (by omega) (by omega);have e2:fN 5 (rv n0 a0 d0) L vs.length b=pM c0 c1 (bV vs.length):=by rw[<-g0,<-g1];rfl
  rw[show iJ 5 (i:Nat) b=[(1,((i:Nat):Int),0)]from rfl,e2];refine Sz6 j4 j8 g4 g8 h4 h8 ?_;refine lH hP hf (Tz1 h0) (Tz1 h1) rfl rfl rfl (by simp) ?_;refine Sz3 j8 g8 h8 ?_;refine cq (mJ 14 2000011 (Tz1 hn) (by omega) rfl (by omega)) ?_;refine Sz1 g8 ?_;refine cq (mF (γ:=2000011) (e:=2) (ty:=43) (xs:=[.agg [.aa,.aa]]) (fz:=false) Tz0 (by simp) (by omega) (fun x hx=>by rw[KaQ.1 hx];rfl)) ?_;refine Sz5 g8 jL dY f0 f1 ?_;refine Qa hP DH rfl rfl rfl ?_;refine Sz4 j8 g8 h8 h9 ?_;refine lD (γ:=2000010) (ty:=43) (n:=cs.length) (m:=(vs++[(1,((i:Nat):Int),0)]).length) (Tz1 j8) Tz0 (q:=PV.bB (pM c0 c1 (bV vs.length))) (jz h9) rfl ⟨rfl,by simp+decide (disch:=try exact D0) only[go_sem],by simp+decide (disch:=try exact D0) only[go_sem]⟩
 ·have hf:=rH (cs:=cs) (vs:=vs) (k:=1) (s:=(i:Nat)) (m:=0) (by omega);have e1:(vs++[(1,((i:Nat):Int),(0:Int))]).length=vs.length+1:=by simp
  have hd:=GW (cs:=cs) (vs:=vs++[(1,((i:Nat):Int),(0:Int))]) (s:=(i:Nat)) (m:=1) (by rw[e1];omega) (by omega);have e3:vs++[(1,((i:Nat):Int),(0:Int))]++[(2,((i:Nat):Int),(1:Int)),(2,((i:Nat):Int),(1:Int)+1)]=vs++iJ 6 (i:Nat) b:=by rw[Kbs];rfl
  have e4:(vs++iJ 6 (i:Nat) b).length=vs.length+3:=by rw[<-e3];simp
  rw[lU,e3,e1,e4]at hd;rw[lU,e1]at hf;rw[show fN 6 (rv n0 a0 d0) L vs.length b=(bV (vs.length+1:Nat),bV (vs.length+2:Nat))from rfl,e4];refine Sz6 j4 j8 g4 g8 h4 h8 ?_;refine lH hP hf (Tz1 h0) (Tz1 h1) rfl rfl rfl (by simp) ?_;refine Sz3 j8 g8 h8 ?_;refine cq (mJ 16 2000011 (Tz1 hn) (by omega) rfl (by omega)) ?_;refine Sz1 g8 ?_;refine cq (mF (γ:=2000011) (e:=2) (ty:=43) (xs:=[.agg [.aa,.aa]]) (fz:=false) Tz0 (by simp) (by omega) (fun x hx=>by rw[KaQ.1 hx];rfl)) ?_;refine Sz1 g8 ?_;refine lH hP hd Tz0 Tz0 rfl rfl rfl (by simp) ?_;refine Sz4 j8 g8 h8 h9 ?_;refine lD (γ:=2000010) (ty:=43) (n:=cs.length) (m:=vs.length+3) (Tz1 j8) Tz0 (q:=PV.bB (bV (vs.length+1:Nat),bV (vs.length+2:Nat))) (jz h9) rfl ⟨rfl,by simp+decide (disch:=try exact D0) only[go_sem],by simp+decide (disch:=try exact D0) only[go_sem]⟩
 ·have hf:=GW (cs:=cs) (vs:=vs) (s:=(i:Nat)) (m:=0) (by omega) (by omega);have d1:decide (k=1)=false:=decide_eq_false (by omega);have d2:decide (k=2)=false:=decide_eq_false (by omega);have d3:decide (k=3)=false:=decide_eq_false (by omega);have d4:decide (k=4)=false:=decide_eq_false (by omega);have d5:decide (k=5)=false:=decide_eq_false (by omega);have d6:decide (k=6)=false:=decide_eq_false (by omega);have e1:iJ k (i:Nat) b=[(2,((i:Nat):Int),(0:Int)),(2,((i:Nat):Int),(0:Int)+1)]:=by unfold iJ;rw[if_neg (by omega),if_neg (by omega),if_neg (by omega),if_neg (by omega)];rfl
  have e2:fN k (rv n0 a0 d0) L vs.length b=(bV vs.length,bV (vs.length+1:Nat)):=by unfold fN;rw[if_neg (by omega),if_neg (by omega),if_neg (by omega),if_neg (by omega),if_neg (by omega),if_neg (by omega)]
  rw[e1,e2];refine pZ j4 j8 g4 g8 h4 h8 d1 d2 d3 d4 d5 d6 ?_;refine lH hP hf (Tz1 h0) (Tz1 h1) rfl rfl rfl (by simp) ?_;refine Sz4 j8 g8 h8 h9 ?_;refine lD (γ:=2000010) (ty:=43) (n:=cs.length) (m:=(vs++[(2,((i:Nat):Int),(0:Int)),(2,((i:Nat):Int),(0:Int)+1)]).length) (Tz1 j8) Tz0 (q:=PV.bB (bV vs.length,bV (vs.length+1:Nat))) (jz h9) rfl ⟨rfl,by simp+decide (disch:=try exact D0) only[go_sem],by simp+decide (disch:=try exact D0) only[go_sem]⟩
def m4(n:Nat):Bool:=(decide (65<=n)&&decide (n<=90))||(decide (97<=n)&&decide (n<=122))
def xQ(n:Nat):Bool:=decide (48<=n)&&decide (n<=57)
theorem Mz{n:Nat}:Qd Tryz.prog 142 [.int .u8 n] (· = .bool (m4 n)):=by
 refine Qf Qk Tryz.func142 rfl Ti (by simp[CL]) fun C hP=>?_;simp only[CL,Zo,Zg,Zm,Zc,Zf,Zl,Zh,Zs,Zi,Zb,Zk,Zn,Zu,Zq,Zr,Zz];refine Sz0 ?_;refine ep (fun h1=>?_) (fun h1=>?_)
 ·refine Sz0 ?_;refine Q6 (fun h2=>?_) (fun h2=>?_)
  ·refine Sz0 ?_;exact Qc (by simp[m4,show 65<=n by omega,show n<=90 by omega]) rfl
  refine Sz0 ?_;refine ep (fun h3=>?_) (fun h3=>?_)
  ·refine Sz0 ?_;exact Qc (by simp[m4,show ¬n<=90 by omega,show 97<=n by omega];omega) rfl
  ·refine Sz0 ?_;exact Qc (by simp[m4,show ¬n<=90 by omega,show ¬97<=n by omega]) rfl
 ·refine Sz0 ?_;refine ep (fun h3=>?_) (fun h3=>?_)
  ·omega
  ·refine Sz0 ?_;exact Qc (by simp[m4,show ¬65<=n by omega,show ¬97<=n by omega]) rfl
theorem Oc{n:Nat}:Qd Tryz.prog 143 [.int .u8 n] (· = .bool (xQ n)):=by
 refine Qf Qk Tryz.func143 rfl Tj (by simp[CM]) fun C hP=>?_;simp only[CM,Zo,Zg,Zm,Zc,Zf,Zl,Zh,Zs,Zi,Zb,Zk,Zn,Zu,Zq,Zr,Zz];refine Sz0 ?_;refine ep (fun h1=>?_) (fun h1=>?_)
 ·refine Sz0 ?_;exact Qc (by simp[xQ,show 48<=n by omega];omega) rfl
 ·refine Sz0 ?_;exact Qc (by simp[xQ,show ¬48<=n by omega]) rfl
def ll:List ByteArray:=[⟨#[97,110,103,108,101]⟩,⟨#[97,112,101,120]⟩,⟨#[98,105,115,101,99,116,111,114]⟩,⟨#[99,101,110,116,101,114]⟩,⟨#[99,105,114,99,108,101]⟩,⟨#[99,105,114,99,117,109]⟩,⟨#[99,111,108,108,105,110,101,97,114]⟩,⟨#[99,111,109,109,111,110]⟩,⟨#[99,111,110,99,121,99,108,105,99]⟩,⟨#[99,111,110,103,114,117,101,110,116]⟩,⟨#[99,114,111,115,115]⟩,⟨#[99,117,116]⟩,⟨#[100,105,118,105,100,101]⟩,⟨#[102,111,111,116]⟩,⟨#[108,105,110,101]⟩,⟨#[109,101,101,116]⟩,⟨#[109,105,100,112,111,105,110,116]⟩,⟨#[109,105,114,114,111,114]⟩,⟨#[111,110]⟩,⟨#[111,116,104,101,114]⟩,⟨#[112,97,114,97,108,108,101,108]⟩,⟨#[112,101,114,112,101,110,100,105,99,117,108,97,114]⟩,⟨#[112,111,105,110,116,115]⟩,⟨#[112,114,111,118,101]⟩,⟨#[114,97,116,105,111]⟩,⟨#[114,101,102,108,101,99,116]⟩,⟨#[115,97,109,101]⟩,⟨#[115,104,105,102,116]⟩,⟨#[116,117,114,110]⟩]
structure Nm(s:ByteArray):Prop where
 p:0<s.size
 l:s.size<=20
 a:∀i (h:i<s.size),m4 (s[i]'h).toNat=true
 k:∀k∈ll,s≠k
theorem X6:Qd Tryz.prog 144 [] (· = .sl 1 (ll.map PV.str)):=by
 refine Qf Qk Tryz.func144 rfl Tk (by simp[CN]) fun C hP=>?_;simp only[CN,Zo,Zg,Zm,Zc,Zf,Zl,Zh,Zs,Zi,Zb,Zk,Zn,Zu,Zq,Zr,Zz];refine Sz0 ?_;rw[lF rfl (fun p hp=>by
  have:∀p∈ll.map PV.str,p.cells.length=1:=fun p hp=>by obtain⟨b,_,rfl⟩:=KaM.1 hp;rfl
  exact this p hp) (by omega)]
 refine Sz0 ?_;exact iF (e:=1) (ty:=9) (xs:=ll.map PV.str) (fz:=false) rfl rfl
structure oH(s:cB):Prop where
 n:s.name.size<2^40
 l:s.args.length<2^40
 r:Raw 1048576 s.n s.a s.d
def pG:Prop:=∀s:ByteArray,s.size<2^40->Qd Tryz.prog 106 [PV.str s] (fun r=>∃b,r= .bool b/\(Nm s->b=true))
structure FM(S:List cB)(i:Nat)(s:cB):Prop where
 ok:ou i s
 n:s.name= .empty∨(Nm s.name/\∀j (h:j<S.length),j<i->S[j].name≠s.name)
theorem Od(k:Int):(k=1∨k=2∨k=3∨k=4∨k=5∨k=6∨k=7∨k=8∨k=9∨k=10∨k=11∨k=12∨k=13∨k=14)∨(k≠1/\k≠2/\k≠3/\k≠4/\k≠5/\k≠6/\k≠7/\k≠8/\k≠9/\k≠10/\k≠11/\k≠12/\k≠13/\k≠14):=by omega
theorem Oe{k:Int}:Qd Tryz.prog 104 [.int .i64 k] (· = .int .i64 (eR k)):=by
 rcases Od k with h|⟨h1,h2,h3,h4,h5,h6,h7,h8,h9,bx,cx,fR,fS,gj⟩
 ·rcases h with rfl|rfl|rfl|rfl|rfl|rfl|rfl|rfl|rfl|rfl|rfl|rfl|rfl|rfl
  all_goals
   refine Qf Qk Tryz.func104 rfl JD (by simp[ur]) fun C hP=>?_;simp only[ur,Zo,Zg,Zm,Zc,Zf,Zl,Zh,Zs,Zi,Zb,Zk,Zn,Zu,Zq,Zr,Zz];refine Sz0 ?_;exact Qc rfl rfl
 ·have e:eR k= -1:=by simp[eR,h1,h2,h3,h4,h5,h6,h7,h8,h9,bx,cx,fR,fS,gj]
  rw[e];have d1:decide (k=1)=false:=decide_eq_false h1;have d2:decide (k=2)=false:=decide_eq_false h2;have d3:decide (k=3)=false:=decide_eq_false h3;have d4:decide (k=4)=false:=decide_eq_false h4;have d5:decide (k=5)=false:=decide_eq_false h5;have d6:decide (k=6)=false:=decide_eq_false h6;have d7:decide (k=7)=false:=decide_eq_false h7;have d8:decide (k=8)=false:=decide_eq_false h8;have d9:decide (k=9)=false:=decide_eq_false h9;have d10:decide (k=10)=false:=decide_eq_false bx;have d11:decide (k=11)=false:=decide_eq_false cx;have d12:decide (k=12)=false:=decide_eq_false fR;have d13:decide (k=13)=false:=decide_eq_false fS;have d14:decide (k=14)=false:=decide_eq_false gj;have dd:decide (k=1)=false/\decide (k=2)=false/\decide (k=3)=false/\decide (k=4)=false/\decide (k=5)=false/\decide (k=6)=false/\decide (k=7)=false/\decide (k=8)=false/\decide (k=9)=false/\decide (k=10)=false/\decide (k=11)=false/\decide (k=12)=false/\decide (k=13)=false/\decide (k=14)=false:=⟨d1,d2,d3,d4,d5,d6,d7,d8,d9,d10,d11,d12,d13,d14⟩
  refine Qf Qk Tryz.func104 rfl JD (by simp[ur]) fun C hP=>?_;simp only[ur,Zo,Zg,Zm,Zc,Zf,Zl,Zh,Zs,Zi,Zb,Zk,Zn,Zu,Zq,Zr,Zz];refine Sz1 dd ?_;exact Qc rfl rfl
theorem df{p:PV}{R:PV->Prop}(h:R p)(hd:p.ax=true):pU R p:=⟨hd,p,cf _,h⟩
theorem Of(hN:pG){S:List cB}{i:Nat}(hS:S.length<2^40)(hb:∀s∈S,oH s)(hi:i<S.length):Qd Tryz.prog 43 [.sl 6 (S.map PV.mu),.int .i64 (i:Nat)] (fun r=>∃e:Int,r= .int .i64 e/\(e=0->ou i S[i])/\(FM S i S[i]->e=0)):=by
 have nK:=hb _ (Kao hi);have hA:∀k,Qd Tryz.prog 104 [.int .i64 k] (· = .int .i64 (eR k)):=fun k=>Oe;obtain⟨s,hs⟩:∃s,S[i]=s:=⟨_,rfl⟩
 rw[hs]at nK⊢;have hr:=Gn nK.r (by omega);have hz:=P0 nK.r;have eD:=hN s.name nK.n;have mO:=nK.l;refine Qf Qk Tryz.func43 rfl U' (by simp[C5]) fun C hP=>?_;simp only[C5,Zo,Zg,Zm,Zc,Zf,Zl,Zh,Zs,Zi,Zb,Zk,Zn,Zu,Zq,Zr,Zz];refine Sz1 hs ?_;refine Qa hP (hA _) rfl rfl rfl ?_;refine Sz0 ?_;refine Qb (fun h0=>?_) (fun h0=>?_)
 ·refine Sz0 ?_;exact df ⟨8,rfl,fun h=>(by cases h),fun q=>absurd q.ok.k (by omega)⟩ rfl
 refine Sz0 ?_;refine Qa hP (hA _) rfl rfl rfl ?_;refine Sz0 ?_;refine Qb (fun hl=>?_) (fun hl=>?_)
 ·refine Sz0 ?_;exact df ⟨1,rfl,fun h=>(by cases h),fun q=>absurd q.ok.l (by omega)⟩ rfl
 replace hl:(s.args.length:Int)=eR s.k:=by omega
 refine Sz0 ?_;refine Q5 (by repeat (first|exact Qx|exact Qq|exact Qr|exact Qt|exact Qu|apply Qp|apply Qw|apply Q3|apply Q8|apply Q9|apply Qn|apply Q7)) [(4,4),(7,7),(28,39)] [] (fun m J hp=>∃j,m=s.args.length-j/\j<=s.args.length/\(∀n (h:n<s.args.length),n<j->0<=s.args[n]/\s.args[n]<(i:Nat))/\J 28= .int .i64 (j:Nat)/\hp 5=some ⟨6,76,[PV.mu s],false⟩) s.args.length ?_ ?_
 ·refine⟨0,rfl,by omega,by omega,?_⟩;refine Sz0 ?_;rfl
 rintro _ J h ⟨j,rfl,hj,yC,EJ,eh⟩;refine Sz1 EJ ?_;refine Qb (fun hg=>?_) (fun hg=>?_)
 ·have cR:j<s.args.length:=by omega
  have dB:0<=s.args[j]/\s.args[j]<(i:Nat)->∀n (h:n<s.args.length),n<j+1->0<=s.args[n]/\s.args[n]<(i:Nat):=fun h n hn hnj=>by
   by_cases e:n=j
   ·subst e;exact h
   ·exact yC n hn (by omega)
  have Kb:=Kao cR;generalize hx:s.args[j]=x at *
  refine Sz2 EJ hx ?_;refine Q6 (fun h3=>?_) (fun h3=>?_)
  ·refine Sz0 ?_;exact df ⟨2,rfl,fun h=>(by cases h),fun q=>by have:=q.ok.r x Kb;omega⟩ rfl
  refine Sz0 ?_;refine Qb (fun h4=>?_) (fun h4=>?_)
  ·refine Sz0 ?_;exact df ⟨2,rfl,fun h=>(by cases h),fun q=>by have:=q.ok.r x Kb;omega⟩ rfl
  refine Sz1 EJ ?_;refine Qm (s.args.length-(j+1)) (by omega) ⟨j+1,rfl,by omega,dB ⟨by omega,by omega⟩,?_⟩;exact Tz1 eh
 obtain rfl:j=s.args.length:=by omega
 have KO:∀a∈s.args,0<=a/\a<(i:Nat):=fun a ha=>by obtain⟨n,hn,rfl⟩:=KaZ ha;exact yC n hn hn
 refine Sz1 eh ?_;by_cases h2:s.k=2
 ·have d2:decide (s.k=2)=true:=decide_eq_true h2;have qg:decide (¬s.k=2)=false:=by simp[h2]
  refine Sz3 eh d2 qg ?_;refine Qa hP hr rfl rfl rfl ?_;cases hq:kO s.n s.a s.d
  ·refine Sz3 eh d2 qg ?_;exact df ⟨1,rfl,fun h=>(by cases h),fun q=>by have:=q.ok.q;rw[if_pos h2,hq]at this;cases this⟩ rfl
  have cM:ou i s:=⟨by omega,hl,KO,by rw[if_pos h2];exact hq⟩
  refine Sz3 eh d2 qg ?_;have cy:(S.take i).length<=S.length:=by rw[Kau];omega
  refine Qb (fun gp=>?_) (fun gp=>?_)
  ·refine Sz1 eh ?_;exact df ⟨0,rfl,fun _=>cM,fun _=>rfl⟩ rfl
  refine Sz1 eh ?_;refine gW hP eD rfl rfl rfl ?_;rintro _ ⟨bn,rfl,qo⟩;cases bn
  ·refine Sz1 eh ?_;exact df ⟨6,rfl,fun h=>(by cases h),fun q=>by rcases q.n with q|q;exact absurd q gp;exact absurd (qo q.1) (by decide)⟩ rfl
  refine Sz1 eh ?_;refine Q5 (by repeat (first|exact Qx|exact Qq|exact Qr|exact Qt|exact Qu|apply Qp|apply Qw|apply Q3|apply Q8|apply Q9|apply Qn|apply Q7)) [(4,4),(9,9),(71,80)] [9] (fun m J hp=>∃j,m=(S.take i).length-j/\j<=(S.take i).length/\J 71= .int .i64 (j:Nat)/\hp 5=some ⟨6,76,[PV.mu s],false⟩) (S.take i).length ?_ ?_
  ·refine⟨0,rfl,by omega,?_⟩;refine Sz1 eh ?_;rfl
  rintro _ J2 h2 ⟨j,rfl,hj,qN,eh⟩;refine Sz1 qN ?_;refine Qb (fun hg=>?_) (fun hg=>?_)
  ·have cR:j<(S.take i).length:=by omega
   have u9:(∀j (h:j<S.length),j<i->S[j].name≠s.name)->(S.take i)[j].name≠s.name:=fun q=>by rw[List.getElem_take];exact q j (by rw[Kau]at cR;omega) (by rw[Kau]at cR;omega)
   generalize hx:(S.take i)[j]=x at *
   refine Sz3 qN hx eh ?_;refine Qb (fun he=>?_) (fun he=>?_)
   ·refine Sz1 eh ?_;exact df ⟨7,rfl,fun h=>(by cases h),fun q=>by rcases q.n with q|q;exact absurd q gp;exact absurd he (u9 q.2)⟩ rfl
   refine Sz1 qN ?_;refine Qm ((S.take i).length-(j+1)) (by omega) ⟨j+1,rfl,by omega,?_⟩;exact Tz1 eh
  refine Sz0 ?_;exact df ⟨0,rfl,fun _=>cM,fun _=>rfl⟩ rfl
 ·have d2:decide (s.k=2)=false:=decide_eq_false h2;have qg:decide (¬s.k=2)=true:=by simp[h2]
  refine Sz3 eh d2 qg ?_;refine Qa hP hz rfl rfl rfl ?_;cases hq:fX s.n s.a s.d
  ·refine Sz3 eh d2 qg ?_;exact df ⟨1,rfl,fun h=>(by cases h),fun q=>by have:=q.ok.q;rw[if_neg h2,hq]at this;cases this⟩ rfl
  have cM:ou i s:=⟨by omega,hl,KO,by rw[if_neg h2];exact hq⟩
  refine Sz3 eh d2 qg ?_;have cy:(S.take i).length<=S.length:=by rw[Kau];omega
  refine Qb (fun gp=>?_) (fun gp=>?_)
  ·refine Sz1 eh ?_;exact df ⟨0,rfl,fun _=>cM,fun _=>rfl⟩ rfl
  refine Sz1 eh ?_;refine gW hP eD rfl rfl rfl ?_;rintro _ ⟨bn,rfl,qo⟩;cases bn
  ·refine Sz1 eh ?_;exact df ⟨6,rfl,fun h=>(by cases h),fun q=>by rcases q.n with q|q;exact absurd q gp;exact absurd (qo q.1) (by decide)⟩ rfl
  refine Sz1 eh ?_;refine Q5 (by repeat (first|exact Qx|exact Qq|exact Qr|exact Qt|exact Qu|apply Qp|apply Qw|apply Q3|apply Q8|apply Q9|apply Qn|apply Q7)) [(4,4),(9,9),(71,80)] [9] (fun m J hp=>∃j,m=(S.take i).length-j/\j<=(S.take i).length/\J 71= .int .i64 (j:Nat)/\hp 5=some ⟨6,76,[PV.mu s],false⟩) (S.take i).length ?_ ?_
  ·refine⟨0,rfl,by omega,?_⟩;refine Sz1 eh ?_;rfl
  rintro _ J2 h2 ⟨j,rfl,hj,qN,eh⟩;refine Sz1 qN ?_;refine Qb (fun hg=>?_) (fun hg=>?_)
  ·have cR:j<(S.take i).length:=by omega
   have u9:(∀j (h:j<S.length),j<i->S[j].name≠s.name)->(S.take i)[j].name≠s.name:=fun q=>by rw[List.getElem_take];exact q j (by rw[Kau]at cR;omega) (by rw[Kau]at cR;omega)
   generalize hx:(S.take i)[j]=x at *
   refine Sz3 qN hx eh ?_;refine Qb (fun he=>?_) (fun he=>?_)
   ·refine Sz1 eh ?_;exact df ⟨7,rfl,fun h=>(by cases h),fun q=>by rcases q.n with q|q;exact absurd q gp;exact absurd he (u9 q.2)⟩ rfl
   refine Sz1 qN ?_;refine Qm ((S.take i).length-(j+1)) (by omega) ⟨j+1,rfl,by omega,?_⟩;exact Tz1 eh
  refine Sz0 ?_;exact df ⟨0,rfl,fun _=>cM,fun _=>rfl⟩ rfl
structure rP(S:List cB)(G:List cI):Prop where
 s:∀i (h:i<S.length),ou i S[i]
 g:∀g∈G,dF g S.length=0
 l:S.length<=40
structure Cn(S:List cB)(G:List cI):Prop where
 ok:rP S G
 s:∀i (h:i<S.length),FM S i S[i]
 gl:G.length<=8
theorem Ic(hN:pG){S:List cB}{G:List cI}(hS:S.length<2^40)(hG:G.length<2^40)(hb:∀s∈S,oH s)(hg:∀g∈G,oG g):
  Qd Tryz.prog 21 [PV.fp S G] (fun r=>∃e:Int,r= .int .i64 e/\(e=0->rP S G)/\(Cn S G->e=0)):=by
 refine Qf Qk Tryz.func21 rfl UZ (by simp[CO]) fun C hP=>?_;simp only[CO,Zo,Zg,Zm,Zc,Zf,Zl,Zh,Zs,Zi,Zb,Zk,Zn,Zu,Zq,Zr,Zz];refine Sz0 ?_;refine Q6 (fun ZF=>?_) (fun ZF=>?_)
 ·refine Sz0 ?_;exact df ⟨4,rfl,fun h=>(by cases h),fun q=>absurd q.ok.l (by omega)⟩ rfl
 refine Sz0 ?_;refine Qb (fun h8=>?_) (fun h8=>?_)
 ·refine Sz0 ?_;exact df ⟨4,rfl,fun h=>(by cases h),fun q=>absurd q.gl (by omega)⟩ rfl
 refine Sz0 ?_;refine Q5 (by repeat (first|exact Qx|exact Qq|exact Qr|exact Qt|exact Qu|apply Qp|apply Qw|apply Q3|apply Q8|apply Q9|apply Qn|apply Q7)) [(2,4),(21,31)] [] (fun m J hp=>∃i,m=S.length-i/\i<=S.length/\(∀n (h:n<S.length),n<i->ou n S[n])/\J 21= .int .i64 (i:Nat)/\hp 1=some ⟨2,25,[PV.fp S G],false⟩) S.length ?_ ?_
 ·refine⟨0,rfl,by omega,by omega,?_⟩;refine Sz0 ?_;rfl
 rintro _ J h ⟨i,rfl,hi,aR,lk,aX⟩;refine Sz1 lk ?_;refine Qb (fun hc=>?_) (fun hc=>?_)
 ·have aA:i<S.length:=by omega
  have hr:=Of hN hS hb aA;refine Sz2 lk aX ?_;refine gW hP hr rfl rfl rfl ?_;rintro _ ⟨e,rfl,he,Ec⟩;by_cases h0:e=0
  ·subst h0;have bQ:=he rfl;refine Sz2 lk aX ?_;refine Qm (S.length-(i+1)) (by omega) ⟨i+1,rfl,by omega,fun n hn qD=>?_,?_⟩
   ·by_cases e:n=i
    ·subst e;exact bQ
    ·exact aR n hn (by omega)
   exact Tz1 aX
  ·have d:decide (¬e=0)=true:=decide_eq_true h0;refine Sz3 lk aX d ?_;exact df ⟨e,rfl,fun h=>absurd h h0,fun q=>absurd (Ec (q.s i aA)) h0⟩ rfl
 obtain rfl:i=S.length:=by omega
 refine Sz1 aX ?_;refine Q5 (by repeat (first|exact Qx|exact Qq|exact Qr|exact Qt|exact Qu|apply Qp|apply Qw|apply Q3|apply Q8|apply Q9|apply Qn|apply Q7)) [(2,2),(6,7),(35,47)] [6] (fun m J hp=>∃i,m=G.length-i/\i<=G.length/\(∀n (h:n<G.length),n<i->dF G[n] S.length=0)/\J 35= .int .i64 (i:Nat)/\hp 1=some ⟨2,25,[PV.fp S G],false⟩) G.length ?_ ?_
 ·refine⟨0,rfl,by omega,by omega,?_⟩;refine Sz1 aX ?_;rfl
 rintro _ J2 h2 ⟨i,rfl,kq,lb,yL,aX⟩;refine Sz1 yL ?_;refine Qb (fun hc=>?_) (fun hc=>?_)
 ·have aA:i<G.length:=by omega
  have hr:=Ob (n:=S.length) (hg _ (Kao aA));have dB:dF G[i] S.length=0->∀n (h:n<G.length),n<i+1->dF G[n] S.length=0:=fun h n hn qD=>by
   by_cases e:n=i
   ·subst e;exact h
   ·exact lb n hn (by omega)
  have hgm:=Kao aA;generalize hx:G[i]=x at *
  refine Sz3 yL aX hx ?_;refine Qa hP hr rfl rfl rfl ?_;by_cases h0:dF x S.length=0
  ·have d:decide (¬dF x S.length=0)=false:=by simp[h0]
   refine Sz3 yL aX d ?_;refine Qm (G.length-(i+1)) (by omega) ⟨i+1,rfl,by omega,dB h0,?_⟩;exact Tz1 aX
  ·have d:decide (¬dF x S.length=0)=true:=decide_eq_true h0;refine Sz3 yL aX d ?_;exact df ⟨_,rfl,fun h=>absurd h h0,fun q=>absurd (q.ok.g x hgm) h0⟩ rfl
 obtain rfl:i=G.length:=by omega
 refine Sz0 ?_;refine df ⟨0,rfl,fun _=>⟨fun i h=>aR i h h,fun g hm=>?_,by omega⟩,fun _=>rfl⟩ rfl;obtain⟨n,hn,rfl⟩:=KaZ hm;exact lb n hn hn
def jB(w l:List Int)(n:Nat):Int:=w.getD (l.getD n 0).toNat 0
def fj(w:List Int)(k:Int)(l:List Int):Int:=if k=2 then jB w l 0+jB w l 1 else if k=3∨k=4 then jB w l 0+jB w l 1+jB w l 2 else if k=5 then 2*jB w l 0+jB w l 1 else 1
def fD:cB:=⟨0,.empty,[],false,[],[]⟩
def cO(S:List cB):Nat->List Int
 |0=>[]
 |i+1=>cO S i++[fj (cO S i) (S.getD i fD).k (S.getD i fD).args]
theorem mz(S:List cB):∀n,(cO S n).length=n
 |0=>rfl
 |n+1=>by rw[cO,KaG,mz S n];rfl
theorem Tq{w l:List Int}{B:Int}(h:∀x∈w,0<=x/\x<=B)(hB:0<=B)(n:Nat):0<=jB w l n/\jB w l n<=B:=by
 unfold jB;rw[Kad];cases hq:w[(l.getD n 0).toNat]? with
 |none=>exact⟨Int.le_refl _,hB⟩
 |some x=>exact h x (Kag hq)
theorem FN(S:List cB):∀n,∀x∈cO S n,0<=x/\x<=(4^n:Nat)
 |0,x,h=>by cases h
 | n+1,x,h=>by
  have ih:=FN S n;have h4:4^(n+1)=4*4^n:=by rw[Kbg,KaP]
  have hp:1<=4^n:=Nat.one_le_pow _ _ (by omega);rw[cO]at h;rcases KaR.1 h with h|h
  ·have:=ih x h;omega
  ·obtain rfl:x=fj (cO S n) (S.getD n fD).k (S.getD n fD).args:=by simpa using h
   have b:=fun m=>Tq (l:=(S.getD n fD).args) ih (by omega) m;have b0:=b 0;have b1:=b 1;have b2:=b 2;unfold fj
   repeat' split
   all_goals omega
theorem P1{α:Type}{f:α->PV}{fr:Fr}{hp:HP}{K:Qg}{e d:Nat}{k:IntKind}{xs:List α}(h:2<xs.length):cG e (.sl e (xs.map f)) (.int k 2) d fr hp K=K (ae fr d (.pt (f (xs[2]'h)).cells)) hp:=by rw[pI (by omega) (by omega)];rfl
attribute [go_sem] P1
theorem YC{S:List cB}{G:List cI}(hf:rP S G)(DO:S.length<=8):Qd Tryz.prog 44 [PV.fp S G] (· =PV.mono (cO S S.length)):=by
 refine Qf Qk Tryz.func44 rfl UY (by simp[C6]) fun C hP=>?_;simp only[C6,Zo,Zg,Zm,Zc,Zf,Zl,Zh,Zs,Zi,Zb,Zk,Zn,Zu,Zq,Zr,Zz];refine Sz0 ?_;refine mC 3 900 1 3 (by omega) Tz0 ?_;refine Q5 (by repeat (first|exact Qx|exact Qq|exact Qr|exact Qt|exact Qu|apply Qp|apply Qw|apply Q3|apply Q8|apply Q9|apply Qn|apply Q7)) [(3,83)] [82,83,900] (fun m J hp=>∃i,m=S.length-i/\i<=S.length/\J 3= .ms 900 i/\J 4= .int .i64 (i:Nat)/\hp 1=some ⟨2,25,[PV.fp S G],false⟩/\hp 900=some ⟨1,3,lT (cO S i),false⟩) S.length ?_ ?_
 ·refine⟨0,rfl,by omega,?_⟩;refine Sz0 ?_;exact⟨rfl,rfl⟩
 rintro _ J h ⟨i,rfl,hi,j3,j4,aX,dY⟩;refine Sz2 j4 aX ?_;refine Qb (fun hc=>?_) (fun hc=>?_)
 ·have aA:i<S.length:=by omega
  have bQ:=hf.s i aA;have hd:S.getD i fD=S[i]:=by rw[Kad,Kaf aA];rfl
  have nO:cO S (i+1)=cO S i++[fj (cO S i) S[i].k S[i].args]:=by rw[cO,hd]
  have iu:=mz S i;have Kd:=FN S i;generalize hx:S[i]=s at *
  have h48:4^i<=4^8:=KaV (by omega) (by omega);have bK:∀n,n<s.args.length->∃(m:Nat)(v:Int),m<i/\(∀h:n<s.args.length,s.args[n]'h=(m:Int))/\(∀h:m<(cO S i).length,(cO S i)[m]'h=v)/\jB (cO S i) s.args n=v/\0<=v/\v<=65536:=fun n hn=>by
   have hr:=bQ.r _ (Kao hn);have Eo:s.args[n].toNat<(cO S i).length:=by omega
   have hv:=Kd _ (Kao Eo);refine⟨s.args[n].toNat,(cO S i)[s.args[n].toNat],by omega,fun _=>by omega,fun _=>rfl,?_,hv.1,by omega⟩;unfold jB;rw[Kad,Kad,Kaf hn];simp only[Kbm];rw[Kaf Eo];rfl
  have hlen:=bQ.l;generalize cO S i=w at *
  clear bQ Kd;by_cases k2:s.k=2
  ·have mb:s.args.length=2:=by rw[k2]at hlen;have:eR 2=2:=(by decide);omega
   obtain⟨m0,v0,a0,a1,a2,a3,a4,a5⟩:=bK 0 (by omega);obtain⟨m1,v1,b0,b1,b2,b3,b4,b5⟩:=bK 1 (by omega);rw[show fj w s.k s.args=v0+v1 by rw[fj,if_pos k2,a3,b3]]at nO;have d2:decide (s.k=2)=true:=decide_eq_true k2;refine uu j3 j4 dY aX hx d2 a1 a2 b1 b2 ?_;rw[dm (f:=PV.int .i64) (y:=(v0+v1)) (xs:=w) (ty':=3) (fz:=false) (jz dY) bA (by omega) iu.symm (by omega) (by omega)];refine Sz2 j4 aX ?_;refine Qm (S.length-(i+1)) (by omega) ⟨i+1,rfl,by omega,?_⟩;exact Tz3 j4 aX nO
  by_cases k3:s.k=3∨s.k=4
  ·have mb:s.args.length=3:=by
    rcases k3 with k3|k3
    ·rw[k3]at hlen;have:eR 3=3:=by decide
     omega
    ·rw[k3]at hlen;have:eR 4=3:=by decide
     omega
   obtain⟨m0,v0,a0,a1,a2,a3,a4,a5⟩:=bK 0 (by omega);obtain⟨m1,v1,b0,b1,b2,b3,b4,b5⟩:=bK 1 (by omega);obtain⟨m2,v2,c0,c1,c2,c3,c4,c5⟩:=bK 2 (by omega);rw[show fj w s.k s.args=v0+v1+v2 by rw[fj,if_neg k2,if_pos k3,a3,b3,c3]]at nO;have d2:decide (s.k=2)=false:=decide_eq_false k2;rcases k3 with k3|k3
   ·have d3:decide (s.k=3)=true:=decide_eq_true k3;refine zt j3 j4 dY aX hx d2 d3 a1 a2 b1 b2 c1 c2 ?_;rw[dm (f:=PV.int .i64) (y:=(v0+v1+v2)) (xs:=w) (ty':=3) (fz:=false) (jz dY) bA (by omega) iu.symm (by omega) (by omega)];refine Sz2 j4 aX ?_;refine Qm (S.length-(i+1)) (by omega) ⟨i+1,rfl,by omega,?_⟩;exact Tz3 j4 aX nO
   ·have d3:decide (s.k=3)=false:=decide_eq_false (by omega);have d4:decide (s.k=4)=true:=decide_eq_true k3;have dd:decide (s.k=2)=false/\decide (s.k=3)=false/\decide (s.k=4)=true:=⟨d2,d3,d4⟩
    refine pZ j3 j4 dY aX hx dd a1 a2 b1 b2 c1 c2 ?_;rw[dm (f:=PV.int .i64) (y:=(v0+v1+v2)) (xs:=w) (ty':=3) (fz:=false) (jz dY) bA (by omega) iu.symm (by omega) (by omega)];refine Sz2 j4 aX ?_;refine Qm (S.length-(i+1)) (by omega) ⟨i+1,rfl,by omega,?_⟩;exact Tz3 j4 aX nO
  have dd:decide (s.k=2)=false/\decide (s.k=3)=false/\decide (s.k=4)=false:=⟨decide_eq_false k2,decide_eq_false (by omega),decide_eq_false (by omega)⟩
  by_cases k5:s.k=5
  ·have mb:s.args.length=2:=by rw[k5]at hlen;have:eR 5=2:=(by decide);omega
   obtain⟨m0,v0,a0,a1,a2,a3,a4,a5⟩:=bK 0 (by omega);obtain⟨m1,v1,b0,b1,b2,b3,b4,b5⟩:=bK 1 (by omega);rw[show fj w s.k s.args=2*v0+v1 by rw[fj,if_neg k2,if_neg k3,if_pos k5,a3,b3]]at nO;have d5:decide (s.k=5)=true:=decide_eq_true k5;refine vJ j3 j4 dY aX hx dd d5 a1 a2 b1 b2 ?_;rw[dm (f:=PV.int .i64) (y:=(2*v0+v1)) (xs:=w) (ty':=3) (fz:=false) (jz dY) bA (by omega) iu.symm (by omega) (by omega)];refine Sz2 j4 aX ?_;refine Qm (S.length-(i+1)) (by omega) ⟨i+1,rfl,by omega,?_⟩;exact Tz3 j4 aX nO
  ·rw[show fj w s.k s.args=1 by rw[fj,if_neg k2,if_neg k3,if_neg k5]]at nO;have d5:decide (s.k=5)=false:=decide_eq_false k5;refine Sz7 j3 j4 dY aX hx dd d5 ?_;rw[dm (f:=PV.int .i64) (y:=1) (xs:=w) (ty':=3) (fz:=false) (jz dY) bA (by omega) iu.symm (by omega) (by omega)];refine Sz2 j4 aX ?_;refine Qm (S.length-(i+1)) (by omega) ⟨i+1,rfl,by omega,?_⟩;exact Tz3 j4 aX nO
 obtain rfl:i=S.length:=by omega
 refine Sz1 j3 ?_;exact iF (e:=1) (ty:=3) (xs:=lT (cO S S.length)) (fz:=false) dY (by rw[Kai (by simp[mz])])
structure FO(S:List cB)(G:List cI):Prop where
 w:∀x∈cO S S.length,x<=8
 g:∀g∈G,g.k=6∨g.k=7->∀a∈g.args,(cO S S.length).getD a.toNat 0<=3
theorem FP{g:cI}{n:Int}(h:dF g n=0):cD g.k≠0/\(g.args.length:Int)=cD g.k/\(∀a∈g.args,0<=a/\a<n)/\(if g.k=9 then kO g.n g.a g.d else fX g.n g.a g.d)=true:=by
 unfold dF at h;split at h
 ·cases h
 split at h
 ·cases h
 split at h
 ·cases h
 rename_i h1 h2 h3;by_cases h4:(if g.k=9 then kO g.n g.a g.d else fX g.n g.a g.d)=true
 ·refine⟨h1,by omega,fun a ha=>?_,h4⟩;have:¬(a<0∨n<=a):=fun hq=>h3 (KaS.2 ⟨a,ha,decide_eq_true hq⟩);omega
 ·rw[if_neg h4]at h;cases h
theorem P2{S:List cB}{G:List cI}(hf:rP S G)(DO:S.length<=8)(hG:G.length<2^40):Qd Tryz.prog 22 [PV.fp S G] (fun r=>∃b,r= .bool b/\(b=true->FO S G)):=by
 have hw:=YC hf DO;have iu:(cO S S.length).length=S.length:=mz S _;have sD:∀x∈cO S S.length,x=x:=fun _ _=>rfl;refine Qf Qk Tryz.func22 rfl UX (by simp[CP]) fun C hP=>?_;simp only[CP,Zo,Zg,Zm,Zc,Zf,Zl,Zh,Zs,Zi,Zb,Zk,Zn,Zu,Zq,Zr,Zz];refine Sz0 ?_;refine Qa hP hw rfl rfl rfl ?_;obtain⟨w,EE⟩:∃w,cO S S.length=w:=⟨_,rfl⟩
 rw[EE]at iu⊢;refine Sz0 ?_;refine Q5 (by repeat (first|exact Qx|exact Qq|exact Qr|exact Qt|exact Qu|apply Qp|apply Qw|apply Q3|apply Q8|apply Q9|apply Qn|apply Q7)) [(2,2),(4,4),(10,20)] [] (fun m J hp=>∃i,m=w.length-i/\i<=w.length/\(∀n (h:n<w.length),n<i->w[n]<=8)/\J 4= .int .i64 (i:Nat)/\hp 1=some ⟨2,25,[PV.fp S G],false⟩) w.length ?_ ?_
 ·refine⟨0,rfl,by omega,by omega,?_⟩;refine Sz0 ?_;rfl
 rintro _ J h ⟨i,rfl,hi,h8,j4,aX⟩;refine Sz1 j4 ?_;refine Qb (fun hc=>?_) (fun hc=>?_)
 ·have aA:i<w.length:=by omega
  have dB:w[i]<=8->∀n (h:n<w.length),n<i+1->w[n]<=8:=fun h n hn qD=>by
   by_cases e:n=i
   ·subst e;exact h
   ·exact h8 n hn (by omega)
  generalize hx:w[i]=x at *
  refine Sz2 j4 hx ?_;refine Qb (fun hq=>?_) (fun hq=>?_)
  ·refine Sz0 ?_;exact df ⟨false,rfl,fun h=>by cases h⟩ rfl
  refine Sz1 j4 ?_;refine Qm (w.length-(i+1)) (by omega) ⟨i+1,rfl,by omega,dB (by omega),?_⟩;exact Tz1 aX
 obtain rfl:i=w.length:=by omega
 have dJ:∀x∈w,x<=8:=fun x hx=>by obtain⟨n,hn,rfl⟩:=KaZ hx;exact h8 n hn hn
 refine Sz1 aX ?_;refine Q5 (by repeat (first|exact Qx|exact Qq|exact Qr|exact Qt|exact Qu|apply Qp|apply Qw|apply Q3|apply Q8|apply Q9|apply Qn|apply Q7)) [(2,2),(5,7),(21,58)] [6] (fun m J hp=>∃i,m=G.length-i/\i<=G.length/\(∀n (h:n<G.length),n<i->G[n].k=6∨G[n].k=7->∀a∈G[n].args,w.getD a.toNat 0<=3)/\J 5= .int .i64 (i:Nat)/\hp 1=some ⟨2,25,[PV.fp S G],false⟩) G.length ?_ ?_
 ·refine⟨0,rfl,by omega,by omega,?_⟩;refine Sz1 aX ?_;rfl
 rintro _ J2 h2 ⟨i,rfl,kq,lb,j5,aX⟩;refine Sz2 j5 aX ?_;refine Qb (fun hc=>?_) (fun hc=>?_)
 ·have aA:i<G.length:=by omega
  obtain⟨_,J9,yC,_⟩:=FP (hf.g _ (Kao aA));have dB:(G[i].k=6∨G[i].k=7->∀a∈G[i].args,w.getD a.toNat 0<=3)->∀n (h:n<G.length),n<i+1->G[n].k=6∨G[n].k=7->∀a∈G[n].args,w.getD a.toNat 0<=3:=fun h n hn qD=>by
   by_cases e:n=i
   ·subst e;exact h
   ·exact lb n hn (by omega)
  generalize hx:G[i]=g at *
  refine Sz3 j5 aX hx ?_;have qv:g.args.length<=8:=by
   unfold cD at J9
   repeat' split at J9
   all_goals omega
  refine Q5 (by repeat (first|exact Qx|exact Qq|exact Qr|exact Qt|exact Qu|apply Qp|apply Qw|apply Q3|apply Q8|apply Q9|apply Qn|apply Q7)) [(2,2),(7,7),(33,58)] [] (fun m J hp=>∃j,m=g.args.length-j/\j<=g.args.length/\(∀n (h:n<g.args.length),n<j->g.k=6∨g.k=7->w.getD g.args[n].toNat 0<=3)/\J 7= .int .i64 (j:Nat)/\hp 1=some ⟨2,25,[PV.fp S G],false⟩/\hp 6=some ⟨5,34,[PV.jg g],false⟩) g.args.length ?_ ?_
  ·refine⟨0,rfl,by omega,by omega,?_⟩;refine Sz1 aX ?_;rfl
  rintro _ J3 h3 ⟨j,rfl,hj,Ks,j7,aX,qn⟩;refine Sz2 j7 qn ?_;refine Qb (fun fq=>?_) (fun fq=>?_)
  ·have cR:j<g.args.length:=by omega
   have KK:=yC _ (Kao cR);have uH:(g.k=6∨g.k=7->w.getD g.args[j].toNat 0<=3)->∀n (h:n<g.args.length),n<j+1->g.k=6∨g.k=7->w.getD g.args[n].toNat 0<=3:=fun h n hn qD=>by
    by_cases e:n=j
    ·subst e;exact h
    ·exact Ks n hn (by omega)
   obtain⟨m,hm⟩:∃m:Nat,g.args[j]=(m:Int):=⟨g.args[j].toNat,by omega⟩
   have hmw:m<w.length:=by omega
   rw[hm,KbU,Kad,Kaf hmw]at uH;simp only[Kbm]at uH;generalize hy:w[m]=y at *
   by_cases k6:g.k=6
   ·have d6:decide (g.k=6)=true:=decide_eq_true k6;refine Sz5 j7 qn d6 hm hy ?_;refine Qb (fun hq=>?_) (fun hq=>?_)
    ·refine Sz0 ?_;exact df ⟨false,rfl,fun h=>by cases h⟩ rfl
    refine Sz1 j7 ?_;refine Qm (g.args.length-(j+1)) (by omega) ⟨j+1,rfl,by omega,uH (fun _=>by omega),?_⟩;exact Tz2 aX qn
   have d6:decide (g.k=6)=false:=decide_eq_false k6;by_cases k7:g.k=7
   ·have d7:decide (g.k=6)=false/\decide (g.k=7)=true:=⟨d6,decide_eq_true k7⟩
    refine Sz5 j7 qn d7 hm hy ?_;refine Qb (fun hq=>?_) (fun hq=>?_)
    ·refine Sz0 ?_;exact df ⟨false,rfl,fun h=>by cases h⟩ rfl
    refine Sz1 j7 ?_;refine Qm (g.args.length-(j+1)) (by omega) ⟨j+1,rfl,by omega,uH (fun _=>by omega),?_⟩;exact Tz2 aX qn
   ·have d7:decide (g.k=6)=false/\decide (g.k=7)=false:=⟨d6,decide_eq_false k7⟩
    refine Sz4 j7 qn d7 hm ?_;refine Qm (g.args.length-(j+1)) (by omega) ⟨j+1,rfl,by omega,uH (fun hk=>by omega),?_⟩;exact Tz2 aX qn
  obtain rfl:j=g.args.length:=by omega
  refine Sz1 j5 ?_;simp (disch:=decide) only[jS,tQ];refine Qm (G.length-(i+1)) (by omega) ⟨i+1,rfl,by omega,dB (fun hk a ha=>?_),?_⟩
  ·obtain⟨n,hn,rfl⟩:=KaZ ha;exact Ks n hn hn hk
  exact Tz1 aX
 obtain rfl:i=G.length:=by omega
 refine Sz0 ?_;refine df ⟨true,rfl,fun _=>⟨by rw[EE];exact dJ,fun g hm=>?_⟩⟩ rfl;rw[EE];obtain⟨n,hn,rfl⟩:=KaZ hm;exact lb n hn hn
structure xF(S:List cB)(G:List cI):Prop where
 f:rP S G
 l:S.length<=8
 gl:G.length<=3
 t:FO S G
 s:∀s∈S,s.a.length<=2/\s.d.length<=2
 g:∀g∈G,g.a.length<=2/\g.d.length<=2
theorem Tr(hN:pG){S:List cB}{G:List cI}(hS:S.length<2^40)(hG:G.length<2^40)(hb:∀s∈S,oH s)(hg:∀g∈G,oG g):
  Qd Tryz.prog 6 [PV.fp S G] (fun r=>∃b,r= .bool b/\(b=true->xF S G)):=by
 have hR:=Ic hN hS hG hb hg;refine Qf Qk Tryz.func6 rfl W3 (by simp[c6]) fun C hP=>?_;simp only[c6,Zo,Zg,Zm,Zc,Zf,Zl,Zh,Zs,Zi,Zb,Zk,Zn,Zu,Zq,Zr,Zz];refine Sz0 ?_;refine Q6 (fun h8=>?_) (fun h8=>?_)
 ·refine Sz0 ?_;exact df ⟨false,rfl,fun h=>by cases h⟩ rfl
 refine Sz0 ?_;refine Q6 (fun h3=>?_) (fun h3=>?_)
 ·refine Sz0 ?_;exact df ⟨false,rfl,fun h=>by cases h⟩ rfl
 refine Sz0 ?_;refine gW hP hR rfl rfl rfl ?_;rintro _ ⟨e,rfl,he,_⟩;by_cases h0:¬e=0
 ·have d:decide (¬e=0)=true:=decide_eq_true h0;refine Sz1 d ?_;exact df ⟨false,rfl,fun h=>by cases h⟩ rfl
 obtain rfl:e=0:=by omega
 have hf:=he rfl;have hT:=P2 hf (by omega) hG;refine Sz0 ?_;refine gW hP hT rfl rfl rfl ?_;rintro _ ⟨b,rfl,ht⟩;cases b
 ·refine Sz0 ?_;exact df ⟨false,rfl,fun h=>by cases h⟩ rfl
 replace ht:=ht rfl;refine Sz0 ?_;refine Q5 (by repeat (first|exact Qx|exact Qq|exact Qr|exact Qt|exact Qu|apply Qp|apply Qw|apply Q3|apply Q8|apply Q9|apply Qn|apply Q7)) [(2,3),(25,52)] [] (fun m J hp=>∃i,m=S.length-i/\i<=S.length/\(∀n (h:n<S.length),n<i->S[n].a.length<=2/\S[n].d.length<=2)/\J 3= .int .i64 (i:Nat)/\hp 1=some ⟨2,25,[PV.fp S G],false⟩) S.length ?_ ?_
 ·refine⟨0,rfl,by omega,by omega,?_⟩;refine Sz0 ?_;rfl
 rintro _ J h ⟨i,rfl,hi,aR,j3,aX⟩;refine Sz2 j3 aX ?_;refine Qb (fun hc=>?_) (fun hc=>?_)
 ·have aA:i<S.length:=by omega
  have dB:S[i].a.length<=2/\S[i].d.length<=2->∀n (h:n<S.length),n<i+1->S[n].a.length<=2/\S[n].d.length<=2:=fun h n hn qD=>by
   by_cases e:n=i
   ·subst e;exact h
   ·exact aR n hn (by omega)
  generalize hx:S[i]=s at *
  refine Sz3 j3 aX hx ?_;refine Q6 (fun q1=>?_) (fun q1=>?_)
  ·refine Sz0 ?_;exact df ⟨false,rfl,fun h=>by cases h⟩ rfl
  refine Sz3 j3 aX hx ?_;refine Qb (fun q2=>?_) (fun q2=>?_)
  ·refine Sz0 ?_;exact df ⟨false,rfl,fun h=>by cases h⟩ rfl
  refine Sz1 j3 ?_;refine Qm (S.length-(i+1)) (by omega) ⟨i+1,rfl,by omega,dB ⟨by omega,by omega⟩,?_⟩;exact Tz1 aX
 obtain rfl:i=S.length:=by omega
 refine Sz1 aX ?_;refine Q5 (by repeat (first|exact Qx|exact Qq|exact Qr|exact Qt|exact Qu|apply Qp|apply Qw|apply Q3|apply Q8|apply Q9|apply Qn|apply Q7)) [(2,2),(4,4),(53,80)] [] (fun m J hp=>∃i,m=G.length-i/\i<=G.length/\(∀n (h:n<G.length),n<i->G[n].a.length<=2/\G[n].d.length<=2)/\J 4= .int .i64 (i:Nat)/\hp 1=some ⟨2,25,[PV.fp S G],false⟩) G.length ?_ ?_
 ·refine⟨0,rfl,by omega,by omega,?_⟩;refine Sz1 aX ?_;rfl
 rintro _ J2 h2 ⟨i,rfl,kq,lb,j4,aX⟩;refine Sz2 j4 aX ?_;refine Qb (fun hc=>?_) (fun hc=>?_)
 ·have aA:i<G.length:=by omega
  have dB:G[i].a.length<=2/\G[i].d.length<=2->∀n (h:n<G.length),n<i+1->G[n].a.length<=2/\G[n].d.length<=2:=fun h n hn qD=>by
   by_cases e:n=i
   ·subst e;exact h
   ·exact lb n hn (by omega)
  generalize hx:G[i]=g at *
  refine Sz3 j4 aX hx ?_;refine Q6 (fun q1=>?_) (fun q1=>?_)
  ·refine Sz0 ?_;exact df ⟨false,rfl,fun h=>by cases h⟩ rfl
  refine Sz3 j4 aX hx ?_;refine Qb (fun q2=>?_) (fun q2=>?_)
  ·refine Sz0 ?_;exact df ⟨false,rfl,fun h=>by cases h⟩ rfl
  refine Sz1 j4 ?_;refine Qm (G.length-(i+1)) (by omega) ⟨i+1,rfl,by omega,dB ⟨by omega,by omega⟩,?_⟩;exact Tz1 aX
 obtain rfl:i=G.length:=by omega
 refine Sz0 ?_;refine df ⟨true,rfl,fun _=>⟨hf,by omega,by omega,ht,fun s hm=>?_,fun g hm=>?_⟩⟩ rfl
 ·obtain⟨n,hn,rfl⟩:=KaZ hm;exact aR n hn hn
 ·obtain⟨n,hn,rfl⟩:=KaZ hm;exact lb n hn hn
open Go Go.FW Go.ChangeShapes Go.WideShapes Go.ChangeAt Go.RowKit
variable {H : Type} {enc : TypeId × Value -> H}
def uf(l:List Int):Prop:=l.length<=1048576/\∀x∈l,-9223372036854775808<=x/\x<=9223372036854775807
theorem JF:Rd enc 26 fun ps=>∃l:List Int,ps=[PV.mono l]/\uf l:=by refine(wc (α:=Int) (f:=fun(x:Int)=>.int .i64 x) bW Tryz.underlying26 (by rw[Bs];omega) (wE Tryz.underlying3)).mono ?_;rintro ps ⟨l,rfl,h1,h2⟩;exact⟨l,by rw[Bs],h1,h2⟩
instance : Inhabited cI := ⟨⟨0, [], false, [], []⟩⟩
instance : Inhabited cB := ⟨⟨0, .empty, [], false, [], []⟩⟩
def xG(f:cI):Prop:=uf f.args/\Raw 1048576 f.n f.a f.d
theorem Ts:Rd enc 34 fun ps=>∃f:cI,ps=(PV.jg f).cells/\xG f:=by refine(AP (Qs:=[fun ps=>∃n:Int,ps=[.int .i64 n]/\ -9223372036854775808<=n/\n<=9223372036854775807,fun ps=>∃l:List Int,ps=[PV.mono l]/\uf l,fun ps=>∃(n:Bool)(a d:List Nat),ps=[.bool n,PV.nat a,PV.nat d]/\Raw 1048576 n a d]) bW Tryz.underlying34 (by kernel_rfl) ⟨rfl,wE Tryz.underlying3,rfl,JF,rfl,FK,trivial⟩).mono ?_;rintro ps ⟨p,q,rfl,⟨k,rfl,h0⟩,p1,q1,rfl,⟨l,rfl,h1⟩,p2,q2,rfl,⟨n,a,d,rfl,h2⟩,rfl⟩;exact⟨⟨k,l,n,a,d⟩,rfl,h1,h2⟩
def ub(s:cB):Prop:=s.name.size<=1048576/\uf s.args/\Raw 1048576 s.n s.a s.d
theorem P3{l:List UInt8}:l.length<=Rows.uptoBulk (H:=H) (.lit (.string l)):=by simp[Rows.uptoBulk]
theorem Tt:Rd enc 76 fun ps=>∃s:cB,ps=(PV.mu s).cells/\ub s:=by refine(AP (Qs:=[fun ps=>∃n:Int,ps=[.int .i64 n]/\ -9223372036854775808<=n/\n<=9223372036854775807,fun ps=>∃s:ByteArray,ps=[.str s]/\s.size<=1048576,fun ps=>∃l:List Int,ps=[PV.mono l]/\uf l,fun ps=>∃(n:Bool)(a d:List Nat),ps=[.bool n,PV.nat a,PV.nat d]/\Raw 1048576 n a d]) bW Tryz.underlying76 (by kernel_rfl) ⟨rfl,wE Tryz.underlying3,rfl,XU Tryz.underlying9 (fun l=>P3),rfl,JF,rfl,FK,trivial⟩).mono ?_;rintro ps ⟨p,q,rfl,⟨k,rfl,h0⟩,p3,q3,rfl,⟨s,rfl,h3⟩,p1,q1,rfl,⟨l,rfl,h1⟩,p2,q2,rfl,⟨n,a,d,rfl,h2⟩,rfl⟩;exact⟨⟨k,s,l,n,a,d⟩,rfl,h3,h1,h2⟩
theorem Hb:Tryz.prog.cellsOf 34=5:=by kernel_rfl
theorem Hc:Tryz.prog.cellsOf 76=6:=by kernel_rfl
def Cy(G:List cI):Prop:=G.length<=1048576/\∀g∈G,xG g
def Co(S:List cB)(G:List cI):Prop:=(S.length<=1048576/\∀s∈S,ub s)/\Cy G
theorem P4:Rd enc 23 fun ps=>∃G:List cI,ps=[.sl 5 (G.map PV.jg)]/\Cy G:=by refine(wc (α:=cI) (f:=PV.jg) (G:=xG) bW Tryz.underlying23 (by rw[Hb];omega) Ts).mono ?_;rintro ps ⟨l,rfl,h1,h2⟩;exact⟨l,by rw[Hb],h1,h2⟩
theorem Og:Rd enc 25 fun ps=>∃(S:List cB)(G:List cI),ps=(PV.fp S G).cells/\Co S G:=by
 refine(AP (Qs:=[fun ps=>∃l:List cB,ps=[.sl 6 (l.map PV.mu)]/\l.length<=1048576/\∀s∈l,ub s,fun ps=>∃G:List cI,ps=[.sl 5 (G.map PV.jg)]/\Cy G]) bW Tryz.underlying25 (by kernel_rfl) ⟨rfl,?_,rfl,P4,trivial⟩).mono ?_
 ·refine(wc (α:=cB) (f:=PV.mu) (G:=ub) bW Tryz.underlying22 (by rw[Hc];omega) Tt).mono ?_;rintro ps ⟨l,rfl,h1,h2⟩;exact⟨l,by rw[Hc],h1,h2⟩
 rintro ps ⟨p,q,rfl,⟨S,rfl,h1⟩,p2,q2,rfl,⟨G,rfl,h2⟩,rfl⟩;exact⟨S,G,rfl,h1,h2⟩
variable {w : World} {base : Nat} {spare : Nat -> Bool} {held : Bool} {r : Reach} {b0 : Nat} {v : Value} {d : DataW H} {ps : List MemPlace}
theorem MA(dz:Value.okWide Tryz.prog w r b0 25 v)(hd:DataW.Trod enc Tryz.prog w base spare held 25 v d ps)(hn:Rows.uptoBulk d<=1048576):∃S G,aV w bO (PV.fp S G) v/\Co S G:=by obtain⟨p,⟨S,G,rfl,h⟩,h2⟩:=L9 Tryz.underlying25 dz Og hd hn;exact⟨S,G,h2,h⟩
theorem Wj{f:cI}(h:xG f):oG f:=⟨by have:=h.1.1;omega,h.2⟩
theorem Wl{s:cB}(h:ub s):oH s:=⟨by have:=h.1;omega,by have:=h.2.1.1;omega,h.2.2⟩
end Go.Proofs.YtonjiljafkiikaaGreat
namespace Go.FW
open Go
section
variable {C : Ctx} {fr : Fr} {hp : HP} {w : World} {a : Act} {R : Qg}
end
end Go.FW
