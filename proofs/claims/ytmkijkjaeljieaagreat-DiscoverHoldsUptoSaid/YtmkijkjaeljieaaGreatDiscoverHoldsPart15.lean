/- Part 15 of the proof of DiscoverHolds: DO, DP, DQ, J11, J12, DR, DS, DT, DU, DV, DW, K9, L0, FwTB, FwTC. Own lemmas; no conditions. -/
import Derived.Test.YtmkijkjaeljieaaGreatDiscoverHoldsPart14
import Derived.Laws.RangeString
import Derived.Laws.RangeAny
import Derived.Lib.OthersKept
import Derived.LoopTactic
import Derived.Test.YtmkijkjaeljieaaGreatRows
import Derived.WalkKit
import Derived.ProofKit
import Derived.OpenShut
import Derived.JoinedCond
set_option maxHeartbeats 1000000
set_option linter.unusedSimpArgs false
set_option linter.unusedVariables false
set_option linter.unnecessarySimpa false
set_option maxRecDepth 100000
namespace Go.Proofs.YtmkijkjaeljieaaGreat
open Go.Proofs.Tryz
open Go Go.FW
theorem Kr{vs:List Rat}{p:List Tm}(hp:PB 1000000 24 p)(hl:p.length<=61)(hv:∀v∈vs,rs v<=4):rs (eC vs p)<=2^28:=by have h:=HD hp hv Oz p.length (Kae _);rw[Kba]at h;omega
theorem Sw{vs:List Rat}{p:List Tm}(hp:PB 1000000 24 p)(hl:p.length<=61)(hv:∀v∈vs,rs v<=4)(cT:vs.length<=100):AC 44 [PV.ay p,PV.cX vs] (· = .bool (dU vs p)):=by
 have hE:=UC (vs:=vs) (p:=p) (K:=1000000) (E:=24) (W:=4) hp hv Oz Oz Oz Oz Oz;have hs:=Kr hp hl hv;have hS:=St (a:=eC vs p) Oz;have hz:(eQ (eC vs p)=0)↔eC vs p=0:=lg;unfold dU;unfold vn at hE;generalize eC vs p=y at *
 cases hb:iI vs p
 ·rw[hb]at hE;simp only[KaY,if_false]at hE;have hd:decide (eQ y=0)=decide (y=0):=decide_eq_decide.2 hz;refine aw Qf func44 SJ fun C hP=>?_;refine aq hP hE ?_;refine aq hP hS ?_;refine Sz0 ?_;exact Qc (by rw[hd]) rfl
 ·rw[hb]at hE;simp only[if_true]at hE;refine aw Qf func44 SJ fun C hP=>?_;refine aq hP hE ?_;refine Sz0 ?_;exact Qc rfl rfl
theorem LZ{vs:List Rat}{p:List Tm}(hp:PB 1000000 24 p)(hl:p.length<=61)(hv:∀v∈vs,rs v<=4)(cT:vs.length<=100):AC 49 [PV.ay p,PV.cX vs] (· = .bool (dU vs p)):=by
 have hE:=Q3j (vs:=vs) (p:=p) (K:=1000000) (E:=24) (W:=4) hp hv Oz Oz Oz Oz Oz;have hs:=Kr hp hl hv;have hS:=RJ (a:=eC vs p) Oz;have hz:(eQ (eC vs p)=0)↔eC vs p=0:=lg;unfold dU;unfold vn at hE;generalize eC vs p=y at *
 cases hb:iI vs p
 ·rw[hb]at hE;simp only[KaY,if_false]at hE;have hd:decide (eQ y=0)=decide (y=0):=decide_eq_decide.2 hz;refine aw Qf func49 SM fun C hP=>?_;refine aq hP hE ?_;refine aq hP hS ?_;refine Sz0 ?_;exact Qc (by rw[hd]) rfl
 ·rw[hb]at hE;simp only[if_true]at hE;refine aw Qf func49 SM fun C hP=>?_;refine aq hP hE ?_;refine Sz0 ?_;exact Qc rfl rfl
theorem SY{vs:List Rat}{p:List Tm}{a:Rat}(hp:PB 1000000 24 p)(hl:p.length<=61)(hv:∀v∈vs,rs v<=4)(cT:vs.length<=100)(ha:rs a<=4):AC 46 [PV.ay p,PV.cX vs,PV.rat a] (· = .bool (kM vs p a)):=by
 have hE:=UC (vs:=vs) (p:=p) (K:=1000000) (E:=24) (W:=4) hp hv Oz Oz Oz Oz Oz;have hs:=Kr hp hl hv;have hS:=akX (a:=eC vs p) (b:=a) (k:=2^28) hs Oz Oz;unfold kM;unfold vn at hE;generalize eC vs p=y at *
 cases hb:iI vs p
 ·rw[hb]at hE;simp only[KaY,if_false]at hE;refine aw Qf func46 SK fun C hP=>?_;refine aq hP hE ?_;refine aq hP hS ?_;refine Sz0 ?_;exact Qc rfl rfl
 ·rw[hb]at hE;simp only[if_true]at hE;refine aw Qf func46 SK fun C hP=>?_;refine aq hP hE ?_;refine Sz0 ?_;exact Qc rfl rfl
theorem Q41{k:Int}:AC 45 [.int .i64 k] (· = .bool (decide (¬(k=1∨k=2∨k=3∨k=4∨k=5)))):=by
 by_cases h:k=1∨k=2∨k=3∨k=4∨k=5
 ·rw[decide_eq_false (fun h'=>h' h)];rcases h with rfl|rfl|rfl|rfl|rfl
  all_goals
   refine aw Qf func45 SL fun C hP=>?_;refine Sz0 ?_;exact Qc rfl rfl
 ·rw[decide_eq_true h];have d1:decide (k=1)=false:=decide_eq_false Oz;have d2:decide (k=2)=false:=decide_eq_false Oz;have d3:decide (k=3)=false:=decide_eq_false Oz;have d4:decide (k=4)=false:=decide_eq_false Oz;have d5:decide (k=5)=false:=decide_eq_false Oz;refine aw Qf func45 SL fun C hP=>?_;refine Sz5 d1 d2 d3 d4 d5 ?_;exact Qc rfl rfl
abbrev gW(cs:List Cd)(i:Nat):Cd:=cs.getD i ([],[])
def tz(L:List Rat)(cs:List Cd)(P:List Pt)(i:Nat):Bool:=kM L (gW cs i).1 (aN P i).1&&kM L (gW cs i).2 (aN P i).2
def pL(L:List Rat)(cs:List Cd)(n:Nat)(H P:List (List Tm))(x:dD):Bool:=
 H.all (dU L)&&(P.all (fun p=> !dU L p)&&(List.range n).all (tz L cs x.p))
theorem Sx{L:List Rat}{cs:List Cd}{n:Nat}{H P:List (List Tm)}{x:dD}{p:List Tm}(hp:p∈H)(h:dU L p=false):pL L cs n H P x=false:=by
 have:H.all (dU L)=false:=by rw[KcJ];intro hq;rw[Kav.1 hq p hp]at h;cases h
 unfold pL;rw[this];rfl
theorem Sy{L:List Rat}{cs:List Cd}{n:Nat}{H P:List (List Tm)}{x:dD}{p:List Tm}(hp:p∈P)(h:dU L p=true):pL L cs n H P x=false:=by
 have:P.all (fun p=> !dU L p)=false:=by rw[KcJ];intro hq;have:=Kav.1 hq p hp;rw[h]at this;cases this
 unfold pL;rw[this,Bool.false_and,Bool.and_false]
theorem SA{L:List Rat}{cs:List Cd}{n i:Nat}{H P:List (List Tm)}{x:dD}(hi:i<n)(h:tz L cs x.p i=false):pL L cs n H P x=false:=by
 have:(List.range n).all (tz L cs x.p)=false:=by rw[KcJ];intro hq;rw[Kav.1 hq i (Kcg.2 hi)]at h;cases h
 unfold pL;rw[this,Bool.and_false,Bool.and_false]
theorem S'{L:List Rat}{cs:List Cd}{n:Nat}{H P:List (List Tm)}{x:dD}(h1:∀p∈H,dU L p=true)(h2:∀p∈P,dU L p=false)(h3:∀i,i<n->tz L cs x.p i=true):pL L cs n H P x=true:=by unfold pL;rw[Kav.2 h1,Kav.2 (fun p hp=>by rw[h2 p hp];rfl),Kav.2 (fun i hi=>h3 i (Kcg.1 hi))];rfl
structure AI(S:List Q3)(cs:List Cd)(V:List Vr)(H P:List (List Tm))(x:dD):Prop where
 g:rN V S.length
 v:V.length<=60
 c:cs.length=S.length
 cb:∀c∈cs,PQ 8 120 8 c.1/\PQ 8 120 8 c.2
 h:∀p∈H,PB 1000000 24 p/\p.length<=60
 p:∀p∈P,PB 1000000 24 p/\p.length<=60
 xv:∀r∈x.v,rs r<=4
 xp:∀a∈x.p,aF 4 a
 d:sO S V x->∀i (h:i<S.length),¬(S[i].k=1∨S[i].k=2∨S[i].k=3∨S[i].k=4∨S[i].k=5)->tz (cu S V x) cs x.p i=true
 sl:S.length<=60
 hl:H.length<=1000
 pl:P.length<=1000
def jC(S:List Q3)(cs:List Cd)(V:List Vr)(H P:List (List Tm))(x:dD):Bool:=decide (sO S V x)&&pL (cu S V x) cs S.length H P x
theorem Q42{S:List Q3}{G:List Qq}{cs:List Cd}{V:List Vr}{H P:List (List Tm)}{Q:List (List (List Tm))}{x:dD}(ok:AI S cs V H P x):
  AC 21 [PV.iA S G cs V H P Q,PV.inst x] (· = .aK [.bool (jC S cs V H P x),.int .i64 (gX S V x)]):=by
 have hV:=ah3 (G:=G) (cs:=cs) (H:=H) (P:=P) (Q:=Q) ok.g (by have:=ok.v;omega) Oz ok.xv ok.xp;by_cases ho:sO S V x
 rotate_left
 ·have e1:cu S V x=[]:=if_neg ho;have e2:gX S V x=16:=if_neg ho;have e3:jC S cs V H P x=false:=by unfold jC;rw[decide_eq_false ho];rfl
  rw[e1,e2]at hV;rw[e2,e3];obtain⟨xv,xb,xp⟩:=x;refine aw Qf func21 SN fun C hP=>?_;refine aq hP hV ?_;refine Sz0 ?_;exact bO rfl rfl rfl (Qe _) (Qe _)
 have mc:∀r∈cu S V x,rs r<=4:=fun r hr=>by rw[show cu S V x=jV V x V.length from if_pos ho]at hr;obtain⟨t,ht,rfl⟩:=KaA.1 hr;exact Kq ok.g (Kcg.1 ht) ho ok.xv ok.xp
 have cT:(cu S V x).length<=100:=by rw[show cu S V x=jV V x V.length from if_pos ho,wh];have:=ok.v;omega
 have e2:gX S V x=0:=if_pos ho;have e3:jC S cs V H P x=pL (cu S V x) cs S.length H P x:=by unfold jC;rw[decide_eq_true ho];rfl
 have hD:=ok.d ho;rw[e2]at hV;rw[e2,e3];have f1:=fun p hp h=>Sx (L:=cu S V x) (cs:=cs) (n:=S.length) (H:=H) (P:=P) (x:=x) (p:=p) hp h;have f2:=fun p hp h=>Sy (L:=cu S V x) (cs:=cs) (n:=S.length) (H:=H) (P:=P) (x:=x) (p:=p) hp h;have f3:=fun i hi h=>SA (L:=cu S V x) (cs:=cs) (n:=S.length) (H:=H) (P:=P) (x:=x) (i:=i) hi h;have f4:=fun h1 h2 h3=>S' (L:=cu S V x) (cs:=cs) (n:=S.length) (H:=H) (P:=P) (x:=x) h1 h2 h3;have z1:∀p∈H,AC 44 [PV.ay p,PV.cX (cu S V x)] (· = .bool (dU (cu S V x) p)):=fun p hp=>Sw (ok.h p hp).1 (by have:=(ok.h p hp).2;omega) mc cT;have z2:∀p∈P,AC 44 [PV.ay p,PV.cX (cu S V x)] (· = .bool (dU (cu S V x) p)):=fun p hp=>Sw (ok.p p hp).1 (by have:=(ok.p p hp).2;omega) mc cT;have qR:∀i,i<x.p.length->aF 4 (aN x.p i):=fun i hi=>by unfold aN;rw[Kac,Kad hi];exact ok.xp _ (Kag hi)
 have eS:x.p.length=S.length:=ho.2;have z3:∀i,i<S.length->AC 46 [PV.ay (gW cs i).1,PV.cX (cu S V x),PV.rat (aN x.p i).1] (· = .bool (kM (cu S V x) (gW cs i).1 (aN x.p i).1))/\AC 46 [PV.ay (gW cs i).2,PV.cX (cu S V x),PV.rat (aN x.p i).2] (· = .bool (kM (cu S V x) (gW cs i).2 (aN x.p i).2)):=fun i hi=>by have hc:=ok.cb (gW cs i) (by rw[gW,Kac,Kad (by have:=ok.c;omega)];exact Kag _);have hp:=qR i Oz;exact⟨SY (hc.1.b.mono Oz Oz) (by have:=hc.1.l;omega) mc cT hp.1,SY (hc.2.b.mono Oz Oz) (by have:=hc.2.l;omega) mc cT hp.2⟩
 have yW:∀i,tz (cu S V x) cs x.p i=(kM (cu S V x) (gW cs i).1 (aN x.p i).1&&kM (cu S V x) (gW cs i).2 (aN x.p i).2):=fun i=>rfl;have cF:=ok.c;have fY:=ok.hl;have jM:=ok.pl;have y9:=ok.sl;generalize pL (cu S V x) cs S.length H P x=sat at *
 obtain⟨xv,xb,xp⟩:=x;simp only at eS qR z3 yW hD f3 f4;generalize tz (cu S V ⟨xv,xb,xp⟩) cs xp=yK at *
 generalize cu S V ⟨xv,xb,xp⟩=L at *
 clear e2 e3 mc cT ho ok qR;refine aw Qf func21 SN fun C hP=>?_;refine aq hP hV ?_;refine Sz0 ?_;refine Qm okB [(4,5),(9,9),(27,35)] [] (fun q J hp=>∃i,q=H.length-i/\i<=H.length/\(∀n (h:n<H.length),n<i->dU L H[n]=true)/\J 27= .int .i64 (i:Nat)/\hp 2=some ⟨7,37,[PV.iA S G cs V H P Q],false⟩/\hp 3=some ⟨3,50,[PV.inst ⟨xv,xb,xp⟩],false⟩) H.length ?_ ?_
 ·refine⟨0,rfl,by omega,by omega,?_⟩;refine Sz0 ?_;rfl
 rintro _ J h ⟨i,rfl,hi,g1,Oo,h2,h3⟩;refine Sz1 Oo ?_;refine Qa (fun hc=>?_) (fun hc=>?_)
 ·have aE:i<H.length:=by omega
  have z:=z1 _ (Kag aE);have hf:=f1 _ (Kag aE);have bD:dU L H[i]=true->∀n (h:n<H.length),n<i+1->dU L H[n]=true:=fun h n hn mS=>by
   by_cases e:n=i
   ·subst e;exact h
   ·exact g1 n hn Oz
  generalize hx:H[i]=p at *
  refine cR Oo hx hP z ?_;generalize dU L p=b at *
  cases b
  ·refine Sz0 ?_;exact bO (by rw[hf rfl]) rfl rfl (Qe _) (Qe _)
  ·refine Sz1 Oo ?_;refine Qh (H.length-(i+1)) Oz ⟨i+1,rfl,by omega,bD rfl,?_⟩;exact Tz2 h2 h3
 obtain rfl:i=H.length:=by omega
 have xd:∀p∈H,dU L p=true:=fun p hp=>by obtain⟨n,hn,rfl⟩:=KaG hp;exact g1 n hn hn
 clear g1 z1 f1;refine Sz1 h2 ?_;refine Qm okB [(4,5),(11,11),(39,46)] [] (fun q J hp=>∃i,q=P.length-i/\i<=P.length/\(∀n (h:n<P.length),n<i->dU L P[n]=false)/\J 39= .int .i64 (i:Nat)/\hp 2=some ⟨7,37,[PV.iA S G cs V H P Q],false⟩/\hp 3=some ⟨3,50,[PV.inst ⟨xv,xb,xp⟩],false⟩) P.length ?_ ?_
 ·refine⟨0,rfl,by omega,by omega,?_⟩;refine Sz2 h2 h3 ?_
  try rfl
 rintro _ J2 h' ⟨i,rfl,hi,g2,Ot,gK,Ed⟩;refine Sz1 Ot ?_;refine Qa (fun hc=>?_) (fun hc=>?_)
 ·have aE:i<P.length:=by omega
  have z:=z2 _ (Kag aE);have hf:=f2 _ (Kag aE);have bD:dU L P[i]=false->∀n (h:n<P.length),n<i+1->dU L P[n]=false:=fun h n hn mS=>by
   by_cases e:n=i
   ·subst e;exact h
   ·exact g2 n hn Oz
  generalize hx:P[i]=p at *
  refine cR Ot hx hP z ?_;generalize dU L p=b at *
  cases b
  ·refine Sz1 Ot ?_;refine Qh (P.length-(i+1)) Oz ⟨i+1,rfl,by omega,bD rfl,?_⟩;exact Tz2 gK Ed
  ·refine Sz0 ?_;exact bO (by rw[hf rfl]) rfl rfl (Qe _) (Qe _)
 obtain rfl:i=P.length:=by omega
 have DZ:∀p∈P,dU L p=false:=fun p hp=>by obtain⟨n,hn,rfl⟩:=KaG hp;exact g2 n hn hn
 clear g2 z2 f2 h2 h3;refine Sz1 gK ?_;refine Qm okB [(4,5),(12,14),(51,92)] [13,14] (fun q J hp=>∃i,q=S.length-i/\i<=S.length/\(∀n,n<i->yK n=true)/\J 51= .int .i64 (i:Nat)/\hp 2=some ⟨7,37,[PV.iA S G cs V H P Q],false⟩/\hp 3=some ⟨3,50,[PV.inst ⟨xv,xb,xp⟩],false⟩) S.length ?_ ?_
 ·refine⟨0,rfl,by omega,by omega,?_⟩;refine Sz2 gK Ed ?_
  try rfl
 rintro _ J3 h'' ⟨i,rfl,hi,g3,BW,yN,xj⟩;refine Sz1 BW ?_;refine Qa (fun hc=>?_) (fun hc=>?_)
 ·have aE:i<S.length:=by omega
  have bD:yK i=true->∀n,n<i+1->yK n=true:=fun h n mS=>by
   by_cases e:n=i
   ·subst e;exact h
   ·exact g3 n Oz
  have hf:=f3 i aE;have hd:=hD i aE;obtain⟨y1,y2⟩:=z3 i aE;have aa:=yW i;have ec:gW cs i=cs[i]:=by rw[gW,Kac,Kad Oz];rfl
  have ep:aN xp i=xp[i]:=by rw[aN,Kac,Kad Oz];rfl
  rw[ec,ep]at y1 y2 aa;generalize hx:S[i]=s at *
  generalize FB:cs[i]=c at *
  generalize FC:xp[i]=a at *
  clear ec ep yW z3 hD f3;have X3:=Q41 (k:=s.k);obtain⟨k,nm,args,n0,a0,d0⟩:=s;obtain⟨c1,c2⟩:=c;obtain⟨a1,a2⟩:=a;simp only at X3 hd y1 y2 aa;refine jF BW hx @yN FB hP X3 ?_;by_cases hk:k=1∨k=2∨k=3∨k=4∨k=5
  ·have d:decide (¬(k=1∨k=2∨k=3∨k=4∨k=5))=false:=decide_eq_false fun h=>h hk;rw[d];refine eF BW @xj FC hP y1 ?_;generalize kM L c1 a1=b1 at *
   generalize kM L c2 a2=b2 at *
   cases b1
   ·refine Sz0 ?_;exact bO (by rw[hf aa]) rfl rfl (Qe _) (Qe _)
   ·refine eF BW @xj FC hP y2 ?_;cases b2
    ·refine Sz0 ?_;exact bO (by rw[hf aa]) rfl rfl (Qe _) (Qe _)
    ·refine Sz1 BW ?_;refine Qh (S.length-(i+1)) Oz ⟨i+1,rfl,by omega,bD aa,?_⟩;exact Tz2 @yN @xj
  ·have d:decide (¬(k=1∨k=2∨k=3∨k=4∨k=5))=true:=decide_eq_true hk;have mM:=hd hk;rw[d];refine Sz1 BW ?_;refine Qh (S.length-(i+1)) Oz ⟨i+1,rfl,by omega,bD mM,?_⟩;exact Tz2 @yN @xj
 obtain rfl:i=S.length:=by omega
 refine Sz0 ?_;exact bO (by rw[f4 xd DZ g3]) rfl rfl (Qe _) (Qe _)
theorem Qz1{S:List Q3}{G:List Qq}{cs:List Cd}{V:List Vr}{H P:List (List Tm)}{Q:List (List (List Tm))}{x:dD}(ok:AI S cs V H P x):
  AC 23 [PV.iA S G cs V H P Q,PV.inst x] (· = .aK [.bool (jC S cs V H P x),.int .i64 (gX S V x)]):=by
 have hV:=Q85 (G:=G) (cs:=cs) (H:=H) (P:=P) (Q:=Q) (x:=x) ok.g (by have:=ok.v;omega);by_cases ho:sO S V x
 rotate_left
 ·have e1:cu S V x=[]:=if_neg ho;have e2:gX S V x=16:=if_neg ho;have e3:jC S cs V H P x=false:=by unfold jC;rw[decide_eq_false ho];rfl
  rw[e1,e2]at hV;rw[e2,e3];obtain⟨xv,xb,xp⟩:=x;refine aw Qf func23 SO fun C hP=>?_;refine aq hP hV ?_;refine Sz0 ?_;exact bO rfl rfl rfl (Qe _) (Qe _)
 have mc:∀r∈cu S V x,rs r<=4:=fun r hr=>by rw[show cu S V x=jV V x V.length from if_pos ho]at hr;obtain⟨t,ht,rfl⟩:=KaA.1 hr;exact Kq ok.g (Kcg.1 ht) ho ok.xv ok.xp
 have cT:(cu S V x).length<=100:=by rw[show cu S V x=jV V x V.length from if_pos ho,wh];have:=ok.v;omega
 have e2:gX S V x=0:=if_pos ho;have e3:jC S cs V H P x=pL (cu S V x) cs S.length H P x:=by unfold jC;rw[decide_eq_true ho];rfl
 have hD:=ok.d ho;rw[e2]at hV;rw[e2,e3];have f1:=fun p hp h=>Sx (L:=cu S V x) (cs:=cs) (n:=S.length) (H:=H) (P:=P) (x:=x) (p:=p) hp h;have f2:=fun p hp h=>Sy (L:=cu S V x) (cs:=cs) (n:=S.length) (H:=H) (P:=P) (x:=x) (p:=p) hp h;have f3:=fun i hi h=>SA (L:=cu S V x) (cs:=cs) (n:=S.length) (H:=H) (P:=P) (x:=x) (i:=i) hi h;have f4:=fun h1 h2 h3=>S' (L:=cu S V x) (cs:=cs) (n:=S.length) (H:=H) (P:=P) (x:=x) h1 h2 h3;have z1:∀p∈H,AC 49 [PV.ay p,PV.cX (cu S V x)] (· = .bool (dU (cu S V x) p)):=fun p hp=>LZ (ok.h p hp).1 (by have:=(ok.h p hp).2;omega) mc cT;have z2:∀p∈P,AC 49 [PV.ay p,PV.cX (cu S V x)] (· = .bool (dU (cu S V x) p)):=fun p hp=>LZ (ok.p p hp).1 (by have:=(ok.p p hp).2;omega) mc cT;have qR:∀i,i<x.p.length->aF 4 (aN x.p i):=fun i hi=>by unfold aN;rw[Kac,Kad hi];exact ok.xp _ (Kag hi)
 have eS:x.p.length=S.length:=ho.2;have aa8:∀(c:List Tm)(a:Rat),PQ 8 120 8 c->rs a<=4->AC 51 [PV.rat a] (· =PV.ay (dz a))/\AC 50 [PV.ay c,PV.ay (dz a)] (· =PV.ay (bF c (dz a)))/\AC 49 [PV.ay (bF c (dz a)),PV.cX (cu S V x)] (· = .bool (kM (cu S V x) c a)):=fun c a hc ha=>by have hq:PQ 1 5 0 (dz a):=PQ.const Oz;have hs:=hc.sub (hq.mono (Kae _) (Kae _) (show 0<=8 by omega));have hC:=KL (kC (Kae (rs a))) Oz;rw[kG]at hC;have hz:=LZ (vs:=cu S V x) (hs.b.mono Oz Oz) (by have:=hs.l;omega) mc cT;rw[ah5 hc.n]at hz;exact⟨hC,Uu hc.b (hq.b.mono Oz Oz) hq.n.z Oz Oz Oz (by have:=hc.l;omega) (by have:=hq.l;omega),hz⟩
 have z3:∀i,i<S.length->(PQ 8 120 8 (gW cs i).1/\PQ 8 120 8 (gW cs i).2)/\aF 4 (aN x.p i):=fun i hi=>
  ⟨ok.cb (gW cs i) (by rw[gW,Kac,Kad (by have:=ok.c;omega)];exact Kag _),qR i Oz⟩
 have yW:∀i,tz (cu S V x) cs x.p i=(kM (cu S V x) (gW cs i).1 (aN x.p i).1&&kM (cu S V x) (gW cs i).2 (aN x.p i).2):=fun i=>rfl;have cF:=ok.c;have fY:=ok.hl;have jM:=ok.pl;have y9:=ok.sl;generalize pL (cu S V x) cs S.length H P x=sat at *
 obtain⟨xv,xb,xp⟩:=x;simp only at eS qR z3 yW hD f3 f4;generalize tz (cu S V ⟨xv,xb,xp⟩) cs xp=yK at *
 generalize cu S V ⟨xv,xb,xp⟩=L at *
 clear e2 e3 mc cT ho ok qR;refine aw Qf func23 SO fun C hP=>?_;refine aq hP hV ?_;refine Sz0 ?_;refine Qm okB [(4,5),(8,8),(21,35)] [] (fun q J hp=>∃i,q=H.length-i/\i<=H.length/\(∀n (h:n<H.length),n<i->dU L H[n]=true)/\J 8= .int .i64 (i:Nat)/\hp 2=some ⟨7,37,[PV.iA S G cs V H P Q],false⟩/\hp 3=some ⟨3,50,[PV.inst ⟨xv,xb,xp⟩],false⟩) H.length ?_ ?_
 ·refine⟨0,rfl,by omega,by omega,?_⟩;refine Sz0 ?_;rfl
 rintro _ J h ⟨i,rfl,hi,g1,j8,h2,h3⟩;refine Sz2 j8 h2 ?_;refine Qa (fun hc=>?_) (fun hc=>?_)
 ·have aE:i<H.length:=by omega
  have z:=z1 _ (Kag aE);have hf:=f1 _ (Kag aE);have bD:dU L H[i]=true->∀n (h:n<H.length),n<i+1->dU L H[n]=true:=fun h n hn mS=>by
   by_cases e:n=i
   ·subst e;exact h
   ·exact g1 n hn Oz
  generalize hx:H[i]=p at *
  refine eF j8 h2 hx hP z ?_;generalize dU L p=b at *
  cases b
  ·refine Sz0 ?_;exact bO (by rw[hf rfl]) rfl rfl (Qe _) (Qe _)
  ·refine Sz1 j8 ?_;refine Qh (H.length-(i+1)) Oz ⟨i+1,rfl,by omega,bD rfl,?_⟩;exact Tz2 h2 h3
 obtain rfl:i=H.length:=by omega
 have xd:∀p∈H,dU L p=true:=fun p hp=>by obtain⟨n,hn,rfl⟩:=KaG hp;exact g1 n hn hn
 clear g1 z1 f1;refine Sz1 h2 ?_;refine Qm okB [(4,5),(9,9),(36,49)] [] (fun q J hp=>∃i,q=P.length-i/\i<=P.length/\(∀n (h:n<P.length),n<i->dU L P[n]=false)/\J 9= .int .i64 (i:Nat)/\hp 2=some ⟨7,37,[PV.iA S G cs V H P Q],false⟩/\hp 3=some ⟨3,50,[PV.inst ⟨xv,xb,xp⟩],false⟩) P.length ?_ ?_
 ·refine⟨0,rfl,by omega,by omega,?_⟩;refine Sz2 h2 h3 ?_
  try rfl
 rintro _ J2 h' ⟨i,rfl,hi,g2,j9,gK,Ed⟩;refine Sz2 j9 gK ?_;refine Qa (fun hc=>?_) (fun hc=>?_)
 ·have aE:i<P.length:=by omega
  have z:=z2 _ (Kag aE);have hf:=f2 _ (Kag aE);have bD:dU L P[i]=false->∀n (h:n<P.length),n<i+1->dU L P[n]=false:=fun h n hn mS=>by
   by_cases e:n=i
   ·subst e;exact h
   ·exact g2 n hn Oz
  generalize hx:P[i]=p at *
  refine eF j9 gK hx hP z ?_;generalize dU L p=b at *
  cases b
  ·refine Sz1 j9 ?_;refine Qh (P.length-(i+1)) Oz ⟨i+1,rfl,by omega,bD rfl,?_⟩;exact Tz2 gK Ed
  ·refine Sz0 ?_;exact bO (by rw[hf rfl]) rfl rfl (Qe _) (Qe _)
 obtain rfl:i=P.length:=by omega
 have DZ:∀p∈P,dU L p=false:=fun p hp=>by obtain⟨n,hn,rfl⟩:=KaG hp;exact g2 n hn hn
 clear g2 z2 f2 h2 h3;refine Sz1 gK ?_;refine Qm okB [(4,5),(10,11),(50,91)] [11] (fun q J hp=>∃i,q=S.length-i/\i<=S.length/\(∀n,n<i->yK n=true)/\J 10= .int .i64 (i:Nat)/\hp 2=some ⟨7,37,[PV.iA S G cs V H P Q],false⟩/\hp 3=some ⟨3,50,[PV.inst ⟨xv,xb,xp⟩],false⟩) S.length ?_ ?_
 ·refine⟨0,rfl,by omega,by omega,?_⟩;refine Sz2 gK Ed ?_
  try rfl
 rintro _ J3 h'' ⟨i,rfl,hi,g3,xJ,yN,xj⟩;refine Sz2 xJ @yN ?_;refine Qa (fun hc=>?_) (fun hc=>?_)
 ·have aE:i<S.length:=by omega
  have bD:yK i=true->∀n,n<i+1->yK n=true:=fun h n mS=>by
   by_cases e:n=i
   ·subst e;exact h
   ·exact g3 n Oz
  have hf:=f3 i aE;have hd:=hD i aE;obtain⟨y1,y2⟩:=z3 i aE;have aa:=yW i;have ec:gW cs i=cs[i]:=by rw[gW,Kac,Kad Oz];rfl
  have ep:aN xp i=xp[i]:=by rw[aN,Kac,Kad Oz];rfl
  rw[ec]at y1;rw[ep]at y2;rw[ec,ep]at aa;generalize FB:cs[i]=c at *
  generalize FC:xp[i]=a at *
  clear ec yW z3 hD f3 hd;obtain⟨c1,c2⟩:=c;obtain⟨a1,a2⟩:=a;simp only at y1 y2 aa;obtain⟨u1,u2,u3⟩:=aa8 c1 a1 y1.1 y2.1;obtain⟨v1,v2,v3⟩:=aa8 c2 a2 y1.2 y2.2;generalize bF c1 (dz a1)=p1 at *
  generalize dz a1=q1 at *
  generalize bF c2 (dz a2)=p2 at *
  generalize dz a2=q2 at *
  generalize kM L c1 a1=b1 at *
  generalize kM L c2 a2=b2 at *
  refine lX xJ @yN @xj FB FC hP u1 ?_;refine aq hP u2 ?_;refine aq hP u3 ?_;cases b1
  ·refine Sz0 ?_;exact bO (by rw[hf aa]) rfl rfl (Qe _) (Qe _)
  ·refine eF xJ @xj FC hP v1 ?_;refine aq hP v2 ?_;refine aq hP v3 ?_;cases b2
   ·refine Sz0 ?_;exact bO (by rw[hf aa]) rfl rfl (Qe _) (Qe _)
   ·refine Sz1 xJ ?_;refine Qh (S.length-(i+1)) Oz ⟨i+1,rfl,by omega,bD aa,?_⟩;exact Tz2 @yN @xj
 obtain rfl:i=S.length:=by omega
 refine Sz0 ?_;exact bO (by rw[f4 xd DZ g3]) rfl rfl (Qe _) (Qe _)
theorem WC{S:List Q3}{G:List Qq}(hF:om S G)(hb:∀s∈S,lA s):∀n,n<=S.length->∀q∈iE S n,HQ q
 |0,_,q,hq=>by cases hq
 |n+1,hn,q,hq=>by
  rw[iE,KaS]at hq;rcases hq with h|h
  ·exact WC hF hb n Oz q h
  have hl:=(AE S S.length).1;have tM:=hF.l;have cF:(eK S).length=S.length:=rB S S.length;refine aii (by show(bb S S.length).2.1.length<=64;omega) (AH hF hb) ?_ q h;have e:S.getD n cM=S[n]:=by rw[Kac,Kad (show n<S.length by omega)];rfl
  rw[e];intro a ha;have:=(hF.f.s n Oz).r a ha;omega
theorem ju{V N:List Vr}{t:Nat}:cw (V++N) t=if t<V.length then cw V t else cw N (t-V.length):=by
 simp only[cw,Kac];by_cases h:t<V.length
 ·rw[if_pos h,KbA h]
 ·rw[if_neg h,Kbm Oz]
theorem rN.app{V N:List Vr}{i:Nat}(hV:rN V i)(hN:∀s,s<N.length->(cw N s).1≠1->(cw N s).2.1=(i:Int)/\∀r,r<s->(cw N r).1≠1->r+1=s):rN (V++N) (i+1):=by
 constructor
 ·intro t ht h1;rw[Kap]at ht;rw[ju]at h1⊢;by_cases h:t<V.length
  ·rw[if_pos h]at h1⊢;have:=hV.b t h h1;omega
  ·rw[if_neg h]at h1⊢;have:=(hN _ Oz h1).1;omega
 ·intro t ht h1 u hu h2 h3;rw[Kap]at ht;rw[ju]at h1 h2;rw[ju (t:=u),ju (t:=t)]at h3;by_cases h:t<V.length
  ·rw[if_pos h]at h1 h3;rw[if_pos Oz]at h2 h3;exact hV.u t h h1 u hu h2 h3
  ·rw[if_neg h]at h1 h3;obtain⟨g1,g2⟩:=hN _ Oz h1;by_cases h':u<V.length
   ·rw[if_pos h']at h2 h3;have:=hV.b u h' h2;omega
   ·rw[if_neg h']at h2;have:=g2 _ (show u-V.length<t-V.length by omega) h2;omega
theorem Q86(k:Int)(i b:Nat):∀s,s<(iY k (i:Nat) b).length->(cw (iY k (i:Nat) b) s).1≠1->(cw (iY k (i:Nat) b) s).2.1=(i:Int)/\∀r,r<s->(cw (iY k (i:Nat) b) r).1≠1->r+1=s:=by
 have h3:=LA k (i:Nat) b;intro s hs;have sF:s=0∨s=1∨s=2:=by omega
 revert hs;unfold iY rM;split
 ·split
  ·intro hs;simp at hs
  ·split
   ·intro hs h1;obtain rfl:s=0:=by simp at hs;omega
    exact absurd rfl h1
   ·intro hs h1;rcases sF with rfl|rfl|rfl
    ·exact absurd rfl h1
    ·exact absurd rfl h1
    ·simp at hs
 split
 ·intro hs h1;obtain rfl:s=0:=by simp at hs;omega
  exact absurd rfl h1
 split
 ·intro hs h1;rcases sF with rfl|rfl|rfl
  ·exact absurd rfl h1
  ·refine⟨rfl,fun r hr h2=>?_⟩;obtain rfl:r=0:=by omega
   exact absurd rfl h2
  ·refine⟨rfl,fun r hr h2=>?_⟩;by_cases e:r=0
   ·subst e;exact absurd rfl h2
   ·omega
 split
 ·intro hs;simp at hs
 ·intro hs h1;rcases sF with rfl|rfl|rfl
  ·exact⟨rfl,fun r hr=>by omega⟩
  ·exact⟨rfl,fun r hr _=>by omega⟩
  ·simp at hs
theorem L1(S:List Q3):∀i,rN (bb S i).2.1 i
 |0=>⟨fun t ht=>by simp[bb]at ht,fun t ht=>by simp[bb]at ht⟩
 |i+1=>by rw[bb];exact(L1 S i).app (Q86 _ i _)
def Xf(k:Int):Prop:=¬(k=1∨k=2∨k=3∨k=4∨k=5)
theorem RM(S:List Q3)(j:Nat)(hk:Xf (S.getD j cM).k):∀i,j<i->∃u,u+1<(bb S i).2.1.length/\gW (bb S i).1 j=(cq (u:Nat),cq (u+1:Nat))/\(cw (bb S i).2.1 u).1≠1/\(cw (bb S i).2.1 (u+1)).1≠1/\(cw (bb S i).2.1 u).2.1=(j:Int)/\(cw (bb S i).2.1 (u+1)).2.1=(j:Int)/\¬lV (bb S i).2.1 u
 |0,h=>by omega
 | i +1,h=>by
  have hl:=rB S i;by_cases hj:j<i
  ·obtain⟨u,h1,h2,h3,h4,h5,h6,h7⟩:=RM S j hk i hj;rw[bb];simp only;refine⟨u,by rw[Kap];omega,?_,?_,?_,?_,?_,?_⟩
   ·rw[<-h2];simp only[gW,Kac];rw[KbA Oz]
   ·rw[ju,if_pos Oz];exact h3
   ·rw[ju,if_pos Oz];exact h4
   ·rw[ju,if_pos Oz];exact h5
   ·rw[ju,if_pos Oz];exact h6
   ·rintro⟨g1,g2,g3⟩;rw[ju,if_pos Oz]at g2 g3;rw[ju,if_pos Oz]at g3;exact h7 ⟨g1,g2,g3⟩
  ·obtain rfl:j=i:=by omega
   have hG:=L1 S j;rw[bb];simp only;generalize S.getD j cM=s at *
   generalize hV:(bb S j).2.1=V at *
   generalize hC:(bb S j).1=cs at *
   have EB:∀c,gW (cs++[c]) j=c:=fun c=>by rw[gW,Kac,Kbm Oz,hl,Kbw];rfl
   rw[EB];have cG:¬(s.k=1∨s.k=2∨s.k=3∨s.k=4∨s.k=5):=hk;by_cases h6:s.k=6
   ·rw[h6];refine⟨V.length+1,by rw[Kap];show _<_+3;omega,rfl,?_,?_,?_,?_,?_⟩
    ·rw[ju,if_neg Oz,show V.length+1-V.length=1 by omega];show(2:Int)≠1;decide
    ·rw[ju,if_neg Oz,show V.length+1+1-V.length=2 by omega];show(2:Int)≠1;decide
    ·rw[ju,if_neg Oz,show V.length+1-V.length=1 by omega];rfl
    ·rw[ju,if_neg Oz,show V.length+1+1-V.length=2 by omega];rfl
    ·rintro⟨g1,g2,g3⟩;rw[show V.length+1-1=V.length by omega,ju,if_neg Oz,Kbw]at g2;exact g2 rfl
   ·have e1:iY s.k (j:Nat) (bb S j).2.2=[(2,(j:Int),0),(2,(j:Int),1)]:=by unfold iY;rw[if_neg Oz,if_neg Oz,if_neg h6,if_neg Oz]
    have e2:∀q l b,jx s.k q l V.length b=(cq V.length,cq (V.length+1:Nat)):=fun q l b=>by unfold jx;rw[if_neg Oz,if_neg Oz,if_neg Oz,if_neg Oz,if_neg Oz,if_neg Oz]
    rw[e1,e2];refine⟨V.length,by rw[Kap];show _<_+2;omega,rfl,?_,?_,?_,?_,?_⟩
    ·rw[ju,if_neg Oz,Kbw];show(2:Int)≠1;decide
    ·rw[ju,if_neg Oz,show V.length+1-V.length=1 by omega];show(2:Int)≠1;decide
    ·rw[ju,if_neg Oz,Kbw];rfl
    ·rw[ju,if_neg Oz,show V.length+1-V.length=1 by omega];rfl
    ·rintro⟨g1,g2,g3⟩;rw[ju,if_pos Oz]at g2 g3;rw[ju,if_neg Oz,Kbw]at g3;have:=hG.b (V.length-1) Oz g2;have e:(cw [((2:Int),(j:Int),(0:Int)),(2,(j:Int),1)] 0).2.1=(j:Int):=rfl;omega
theorem RN{V:List Vr}{x:dD}{u:Nat}(h:u<V.length):(jV V x V.length).getD u 0=pK V x u:=by rw[Kac,Kad (by rw[wh];exact h)];simp[jV]
theorem afJ{S:List Q3}{G:List Qq}(hF:om S G)(hb:∀s∈S,lA s)(hL:∀p∈yD S G,p.length<=60){x:dD}(hv:∀r∈x.v,rs r<=4)(hp:∀a∈x.p,aF 4 a):AI S (eK S) (dZ S) (iE S S.length) (pJ S) x:=by
 have hG:=L1 S S.length;have cT:=(AE S S.length).1;have cF:=rB S S.length;have tT:=hF.l;refine⟨hG,by show(bb S S.length).2.1.length<=60;omega,cF,fun c hc=>?_,fun p hp=>?_,fun p hp=>?_,hv,hp,fun ho i hi hk=>?_,by omega,?_,?_⟩
 ·have:=AH hF hb c hc;exact⟨this.x.q,this.y.q⟩
 ·have:=WC hF hb S.length (Kae _) p hp;exact⟨this.q.b,hL p (by unfold yD;simp[hp])⟩
 ·have hl:=hL p (by unfold yD;simp[hp]);obtain⟨c,hc,rfl⟩:=KaA.1 hp;obtain⟨i,hi,hd⟩:=LY (Kae _) hc;have ok:=SF (n:=S.length) hi Oz (hF.f.s i hi) hd;have:=aoI (vs:=dZ S) (AH hF hb) (by rw[show(eK S).length=S.length from cF];exact ok.r);exact⟨this.q.b,hl⟩
 ·have cG:Xf (S.getD i cM).k:=by rw[Kac,Kad hi];exact hk
  obtain⟨u,h1,h2,h3,h4,h5,h6,h7⟩:=RM S i cG S.length hi;rw[show cu S (dZ S) x=jV (dZ S) x (dZ S).length from if_pos ho];unfold tz;rw[show gW (eK S) i=(cq (u:Nat),cq (u+1:Nat))from h2];have hvu:pK (dZ S) x u=(aN x.p i).1:=by unfold pK;rw[if_neg h3,if_neg h7,h5];rfl
  have av0:pK (dZ S) x (u+1)=(aN x.p i).2:=by
   unfold pK;have hs:lV (dZ S) (u+1):=⟨by omega,h3,by rw[KbZ,h5,h6]⟩
   rw[if_neg h4,if_pos hs,h6];rfl
  have e1:=RL (vs:=jV (dZ S) x (dZ S).length) (v:=u) (by rw[wh];show u<(bb S S.length).2.1.length;omega) Oz;have e2:=RL (vs:=jV (dZ S) x (dZ S).length) (v:=u+1) (by rw[wh];show u+1<(bb S S.length).2.1.length;omega) Oz;rw[RN (by show u<(bb S S.length).2.1.length;omega),hvu]at e1;rw[RN (by show u+1<(bb S S.length).2.1.length;omega),av0]at e2;simp only;rw[e1,e2];rfl
 ·have:=Ll S S.length;omega
 ·have:=HK S S.length;unfold pJ;rw[KaJ];omega
def pM(er:dD->Int)(sa:dD->Bool):List dD->Int
 | []=>0
 |x::r=>if er x=0 then(if sa x=true then pM er sa r else 17)else er x
def pN(al:Qq->Bool×Int):List Qq->List Qq->List Qq×Int
 | [],acc=>(acc,0)
 |f::r,acc=>if(al f).2=0 then pN al r (if(al f).1=true then acc++[f]else acc)else([],(al f).2)
def oo(er:dD->Int)(sa:dD->Bool)(l:List Qq)(X:List dD):List Qq×Int:=if pM er sa X=0 then pN (fun f=>jB f X true) l []else([],pM er sa X)
theorem aoQ{S:List Q3}{G:List Qq}{cs:List Cd}{V:List Vr}{H P:List (List Tm)}{Q:List (List (List Tm))}{l:List Qq}{X:List dD}(ok:∀x∈X,AI S cs V H P x)(yR:X.length<2^20)(hl:l.length<2^20)(hIn:∀x∈X,AX 4 x)(hf:∀f∈l,tp 4 f):
  AC 8 [PV.iA S G cs V H P Q,.sl 5 (l.map PV.bI),.sl 3 (X.map PV.inst)] (· = .aK [.sl 5 ((oo (gX S V) (jC S cs V H P) l X).1.map PV.bI),.int .i64 (oo (gX S V) (jC S cs V H P) l X).2]):=by
 have hS:∀x∈X,AC 21 [PV.iA S G cs V H P Q,PV.inst x] (· = .aK [.bool (jC S cs V H P x),.int .i64 (gX S V x)]):=fun x hx=>Q42 (ok x hx);have hA:∀f∈l,AC 22 [PV.bI f,.sl 3 (X.map PV.inst)] (· = .aK [.bool (jB f X true).1,.int .i64 (jB f X true).2]):=fun f hx=>apL Oz Oz hIn Oz (hf f hx);generalize jC S cs V H P=sa at *
 generalize gX S V=er at *
 have l8:oo er sa l X=if pM er sa X=0 then pN (fun f=>jB f X true) l []else([],pM er sa X):=rfl
 obtain⟨al,fV⟩:∃al:Qq->Bool×Int,al=fun f=>jB f X true:=⟨_,rfl⟩
 rw[<-fV]at l8;replace hA:∀f∈l,AC 22 [PV.bI f,.sl 3 (X.map PV.inst)] (· = .aK [.bool (al f).1,.int .i64 (al f).2]):=by rw[fV];exact hA
 clear fV ok hIn hf;generalize oo er sa l X=R at *
 generalize gz:pM er sa X=R0 at *
 refine aw Qf func8 apF fun C hP=>?_;refine Sz0 ?_;refine Qm okB [(6,7),(9,11),(19,34)] [9] (fun q J hp=>∃i,q=X.length-i/\i<=X.length/\pM er sa (X.drop i)=R0/\J 19= .int .i64 (i:Nat)/\hp 3=some ⟨7,37,[PV.iA S G cs V H P Q],false⟩) X.length ?_ ?_
 ·refine⟨0,rfl,by omega,gz,?_⟩;refine Sz0 ?_
  try rfl
 clear gz;rintro _ J h ⟨i,rfl,hi,gz,ji,h3⟩;refine Sz1 ji ?_;refine Qa (fun hc=>?_) (fun hc=>?_)
 ·have aE:i<X.length:=by omega
  have hs:=hS _ (Kag aE);rw[Kax aE,pM]at gz;generalize hx:X[i]=x at *
  generalize er x=e at *
  generalize sa x=b at *
  obtain⟨xv,xb,xp⟩:=x;refine eF ji h3 hx hP hs ?_;by_cases he:e=0
  ·subst he;rw[if_pos rfl]at gz;cases b
   ·simp only[KaY,if_false]at gz;subst gz;rw[if_neg (by decide)]at l8;refine Sz0 ?_;exact bO (by rw[l8];rfl) rfl rfl (p':=.sl 5 []) trivial (Qe _)
   ·simp only[if_true]at gz;refine Sz1 ji ?_;refine Qh (X.length-(i+1)) Oz ⟨i+1,rfl,by omega,gz,?_⟩;exact Tz1 h3
  ·rw[if_neg he]at gz;subst gz;rw[if_neg he]at l8;have d:decide (¬e=0)=true:=decide_eq_true he;refine Sz1 d ?_;exact bO (by rw[l8];rfl) rfl rfl (p':=.sl 5 []) trivial (Qe _)
 obtain rfl:i=X.length:=by omega
 rw[Kcc]at gz;obtain rfl:0=R0:=gz;rw[if_pos rfl]at l8;clear hS;refine Sz0 ?_;refine jt 12 900 5 59 Oz Tz0 ?_;refine Qm okB [(6,7),(12,12),(14,16),(37,55)] [14,53,54,900] (fun q J hp=>∃i acc,q=l.length-i/\i<=l.length/\acc.length<=i/\pN al (l.drop i) acc=R/\J 12= .ms 900 acc.length/\J 37= .int .i64 (i:Nat)/\hp 900=some ⟨5,59,acc.map PV.bI,false⟩) l.length ?_ ?_
 ·refine⟨0,[],rfl,by omega,Kae _,l8.symm,?_⟩;refine Sz0 ?_;rfl
 clear l8;rintro _ J2 h' ⟨i,acc,rfl,hi,hac,hR,qm,sJ,bB⟩;refine Sz1 sJ ?_;refine Qa (fun hc=>?_) (fun hc=>?_)
 ·have aE:i<l.length:=by omega
  have ha:=hA _ (Kag aE);rw[Kax aE,pN]at hR;generalize hx:l[i]=f at *
  generalize al f=r at *
  obtain⟨b,e⟩:=r;simp only at hR ha;refine cR sJ hx hP ha ?_;by_cases he:e=0
  ·subst he;rw[if_pos rfl]at hR;cases b
   ·simp only[KaY,if_false]at hR;refine Sz1 sJ ?_;refine Qh (l.length-(i+1)) Oz ⟨i+1,acc,rfl,by omega,by omega,hR,?_⟩;exact Tz2 qm bB
   ·simp only[if_true]at hR;refine Sz3 sJ qm hx ?_;rw[Qv (f:=PV.bI) (y:=f) (xs:=acc) (ty':=59) (fz:=false) (Tz1 bB) a9 Oz rfl Oz Oz];refine Sz1 sJ ?_;refine Qh (l.length-(i+1)) Oz ⟨i+1,acc++[f],rfl,by omega,by simp;omega,hR,?_⟩;rw[Kap];exact Tz0
  ·rw[if_neg he]at hR;have d:decide (¬e=0)=true:=decide_eq_true he;refine Sz1 d ?_;exact bO (by rw[<-hR];rfl) rfl rfl (p':=.sl 5 []) trivial (Qe _)
 obtain rfl:i=l.length:=by omega
 rw[Kcc]at hR;refine Sz2 qm bB ?_;have cO:List.take acc.length (acc.map PV.bI)=acc.map PV.bI:=Kah (by rw[KaJ];exact Kae _);have zw:Qr h' (.ms 900 acc.length)= .sl 5 (acc.map PV.bI):=by simp only[Qr,cx,bB,if_neg (show ¬aQ 900=true by decide)];exact congrArg _ cO
 rw[zw];exact bO (by rw[<-hR];rfl) rfl rfl (Qe _) (Qe _)
theorem ah6{S:List Q3}{G:List Qq}{cs:List Cd}{V:List Vr}{H P:List (List Tm)}{Q:List (List (List Tm))}{l:List Qq}{X:List dD}(ok:∀x∈X,AI S cs V H P x)(yR:X.length<2^20)(hl:l.length<2^20)(hIn:∀x∈X,AX 4 x)(hf:∀f∈l,tp 4 f):
  AC 9 [PV.iA S G cs V H P Q,.sl 5 (l.map PV.bI),.sl 3 (X.map PV.inst)] (· = .aK [.sl 5 ((oo (gX S V) (jC S cs V H P) l X).1.map PV.bI),.int .i64 (oo (gX S V) (jC S cs V H P) l X).2]):=by
 have hS:∀x∈X,AC 23 [PV.iA S G cs V H P Q,PV.inst x] (· = .aK [.bool (jC S cs V H P x),.int .i64 (gX S V x)]):=fun x hx=>Qz1 (ok x hx);have hA:∀f∈l,AC 24 [PV.bI f,.sl 3 (X.map PV.inst)] (· = .aK [.bool (jB f X true).1,.int .i64 (jB f X true).2]):=fun f hx=>afG Oz Oz hIn Oz (hf f hx);generalize jC S cs V H P=sa at *
 generalize gX S V=er at *
 have l8:oo er sa l X=if pM er sa X=0 then pN (fun f=>jB f X true) l []else([],pM er sa X):=rfl
 obtain⟨al,fV⟩:∃al:Qq->Bool×Int,al=fun f=>jB f X true:=⟨_,rfl⟩
 rw[<-fV]at l8;replace hA:∀f∈l,AC 24 [PV.bI f,.sl 3 (X.map PV.inst)] (· = .aK [.bool (al f).1,.int .i64 (al f).2]):=by rw[fV];exact hA
 clear fV ok hIn hf;generalize oo er sa l X=R at *
 generalize gz:pM er sa X=R0 at *
 refine aw Qf func9 apG fun C hP=>?_;refine Sz0 ?_;refine Qm okB [(6,10),(15,34)] [] (fun q J hp=>∃i,q=X.length-i/\i<=X.length/\pM er sa (X.drop i)=R0/\J 8= .int .i64 (i:Nat)/\hp 3=some ⟨7,37,[PV.iA S G cs V H P Q],false⟩) X.length ?_ ?_
 ·refine⟨0,rfl,by omega,gz,?_⟩;refine Sz0 ?_
  try rfl
 clear gz;rintro _ J h ⟨i,rfl,hi,gz,ji,h3⟩;refine Sz1 ji ?_;refine Qa (fun hc=>?_) (fun hc=>?_)
 ·have aE:i<X.length:=by omega
  have hs:=hS _ (Kag aE);rw[Kax aE,pM]at gz;generalize hx:X[i]=x at *
  generalize er x=e at *
  generalize sa x=b at *
  obtain⟨xv,xb,xp⟩:=x;refine eF ji h3 hx hP hs ?_;by_cases he:e=0
  ·subst he;rw[if_pos rfl]at gz;cases b
   ·simp only[KaY,if_false]at gz;subst gz;rw[if_neg (by decide)]at l8;refine Sz0 ?_;exact bO (by rw[l8];rfl) rfl rfl (p':=.sl 5 []) trivial (Qe _)
   ·simp only[if_true]at gz;refine Sz1 ji ?_;refine Qh (X.length-(i+1)) Oz ⟨i+1,rfl,by omega,gz,?_⟩;exact Tz1 h3
  ·rw[if_neg he]at gz;subst gz;rw[if_neg he]at l8;have d:decide (¬e=0)=true:=decide_eq_true he;refine Sz1 d ?_;exact bO (by rw[l8];rfl) rfl rfl (p':=.sl 5 []) trivial (Qe _)
 obtain rfl:i=X.length:=by omega
 rw[Kcc]at gz;obtain rfl:0=R0:=gz;rw[if_pos rfl]at l8;clear hS;refine Sz0 ?_;refine jt 11 900 5 59 Oz Tz0 ?_;refine Qm okB [(6,7),(11,14),(35,60)] [59,60,900] (fun q J hp=>∃i acc,q=l.length-i/\i<=l.length/\acc.length<=i/\pN al (l.drop i) acc=R/\J 11= .ms 900 acc.length/\J 12= .int .i64 (i:Nat)/\hp 900=some ⟨5,59,acc.map PV.bI,false⟩) l.length ?_ ?_
 ·refine⟨0,[],rfl,by omega,Kae _,l8.symm,?_⟩;refine Sz0 ?_;rfl
 clear l8;rintro _ J2 h' ⟨i,acc,rfl,hi,hac,hR,qm,sJ,bB⟩;refine Sz1 sJ ?_;refine Qa (fun hc=>?_) (fun hc=>?_)
 ·have aE:i<l.length:=by omega
  have ha:=hA _ (Kag aE);rw[Kax aE,pN]at hR;generalize hx:l[i]=f at *
  generalize al f=r at *
  obtain⟨b,e⟩:=r;simp only at hR ha;refine cR sJ hx hP ha ?_;by_cases he:e=0
  ·subst he;rw[if_pos rfl]at hR;cases b
   ·simp only[KaY,if_false]at hR;refine Sz1 sJ ?_;refine Qh (l.length-(i+1)) Oz ⟨i+1,acc,rfl,by omega,by omega,hR,?_⟩;exact Tz2 qm bB
   ·simp only[if_true]at hR;refine Sz3 sJ qm hx ?_;rw[Qv (f:=PV.bI) (y:=f) (xs:=acc) (ty':=59) (fz:=false) (Tz1 bB) a9 Oz rfl Oz Oz];refine Sz1 sJ ?_;refine Qh (l.length-(i+1)) Oz ⟨i+1,acc++[f],rfl,by omega,by simp;omega,hR,?_⟩;rw[Kap];exact Tz0
  ·rw[if_neg he]at hR;have d:decide (¬e=0)=true:=decide_eq_true he;refine Sz1 d ?_;exact bO (by rw[<-hR];rfl) rfl rfl (p':=.sl 5 []) trivial (Qe _)
 obtain rfl:i=l.length:=by omega
 rw[Kcc]at hR;refine Sz2 qm bB ?_;have cO:List.take acc.length (acc.map PV.bI)=acc.map PV.bI:=Kah (by rw[KaJ];exact Kae _);have zw:Qr h' (.ms 900 acc.length)= .sl 5 (acc.map PV.bI):=by simp only[Qr,cx,bB,if_neg (show ¬aQ 900=true by decide)];exact congrArg _ cO
 rw[zw];exact bO (by rw[<-hR];rfl) rfl rfl (Qe _) (Qe _)
def Ci(q:RQ):Prop:=q.a.length<=2/\q.d.length<=2/\iX q.n q.a q.d=true
theorem ah7{l:List RQ}{k:Nat}(hb:∀q∈l,Raw k q.n q.a q.d)(hk:k<2^36)(hl:l.length<2^40):AC 53 [PV.JX l] (fun r=>∃b,r= .bool b/\(b=true->(∀q∈l,Ci q)/\l.length<=12)):=by
 refine aw Qf func53 aoh fun C hP=>?_;refine Sz0 ?_;refine Qa (fun hn=>?_) (fun hn=>?_)
 ·refine Sz0 ?_;exact Q4 ⟨false,rfl,fun h=>by cases h⟩ rfl
 have vH:l.length<=12:=by omega
 refine Sz0 ?_;refine Qm okB [(2,3),(7,37)] [] (fun n J hp=>∃i,n=l.length-i/\i<=l.length/\(∀j (h:j<l.length),j<i->Ci l[j])/\J 3= .int .i64 (i:Nat)) l.length ?_ ?_
 ·refine⟨0,rfl,by omega,by omega,?_⟩;refine Sz0 ?_;rfl
 rintro _ J h ⟨i,rfl,hi,h1,h3⟩;refine Sz1 h3 ?_;refine Qa (fun hg=>?_) (fun hg=>?_)
 ·have aE:i<l.length:=by omega
  have lG:=hb _ (Kag aE);have bD:Ci l[i]->∀j (h:j<l.length),j<i+1->Ci l[j]:=fun h j hj hZ=>by
   by_cases e:j=i
   ·subst e;exact h
   ·exact h1 j hj Oz
  generalize hx:l[i]=x at *
  refine Sz2 h3 hx ?_;refine Qp (fun h2=>?_) (fun h2=>?_)
  ·refine Sz0 ?_;exact Q4 ⟨false,rfl,fun h=>by cases h⟩ rfl
  refine Sz2 h3 hx ?_;refine Qp (fun h4=>?_) (fun h4=>?_)
  ·refine Sz0 ?_;exact Q4 ⟨false,rfl,fun h=>by cases h⟩ rfl
  refine cR h3 hx hP (Cn lG hk) ?_;refine Sz2 h3 hx ?_;cases bd:iX x.n x.a x.d
  ·refine Sz0 ?_;exact Q4 ⟨false,rfl,fun h=>by cases h⟩ rfl
  ·refine Sz1 h3 ?_;refine Qh (l.length-(i+1)) Oz ⟨i+1,rfl,by omega,bD ⟨by omega,by omega,bd⟩,?_⟩;exact Tz0
 ·obtain rfl:i=l.length:=by omega
  refine Sz0 ?_;refine Q4 ⟨true,rfl,fun _=>⟨fun q hq=>?_,vH⟩⟩ rfl;obtain⟨j,hj,rfl⟩:=KaG hq;exact h1 j hj hj
abbrev RP:=RQ×RQ
abbrev PV.xM(p:RP):PV:=.agg [.bool p.1.n,PV.nat p.1.a,PV.nat p.1.d,.bool p.2.n,PV.nat p.2.a,PV.nat p.2.d]
structure RI where
 v:List RQ
 b:List Bool
 p:List RP
abbrev PV.ri(x:RI):PV:=.agg [PV.JX x.v,.sl 1 (x.b.map PV.bool),.sl 6 (x.p.map PV.xM)]
def wM(q:RQ):Prop:=q.a.length<=4/\q.d.length<=4/\iX q.n q.a q.d=true
structure qF(x:RI):Prop where
 v:∀q∈x.v,Ci q
 vl:x.v.length<=12
 p:∀q∈x.p,wM q.1/\wM q.2
 pl:x.p.length<=12
structure wS(k:Nat)(x:RI):Prop where
 v:∀q∈x.v,Raw k q.n q.a q.d
 vl:x.v.length<2^40
 bl:x.b.length<2^40
 p:∀q∈x.p,Raw k q.1.n q.1.a q.1.d/\Raw k q.2.n q.2.a q.2.d
 pl:x.p.length<2^40
theorem ah8{x:RI}{k:Nat}(hb:wS k x)(hk:k<2^36):AC 25 [PV.ri x] (fun r=>∃b,r= .bool b/\(b=true->qF x)):=by
 have hM:=ah7 hb.v hk hb.vl;have mL:=hb.p;have pW:=hb.bl;have ej:=hb.pl;have dS:=fun a b c d=>qF.mk (x:=x) a b c d;generalize qF x=F at *
 obtain⟨xv,xb,xp⟩:=x;simp only at hM mL pW ej dS;clear hb;refine aw Qf func25 aoN fun C hP=>?_;refine Sz0 ?_;refine gP hP hM rfl rfl rfl ?_;rintro _ ⟨b,rfl,hm⟩;cases b
 ·refine Sz0 ?_;exact Q4 ⟨false,rfl,fun h=>by cases h⟩ rfl
 obtain⟨m1,m2⟩:=hm rfl;refine Sz0 ?_;refine Qp (fun h2=>?_) (fun h2=>?_)
 ·refine Sz0 ?_;exact Q4 ⟨false,rfl,fun h=>by cases h⟩ rfl
 refine Sz0 ?_;refine Qa (fun h3=>?_) (fun h3=>?_)
 ·refine Sz0 ?_;exact Q4 ⟨false,rfl,fun h=>by cases h⟩ rfl
 refine Sz0 ?_;refine Qm okB [(2,5),(22,74)] [4,5] (fun n J hp=>∃i,n=xp.length-i/\i<=xp.length/\(∀j (h:j<xp.length),j<i->wM xp[j].1/\wM xp[j].2)/\J 3= .int .i64 (i:Nat)/\hp 1=some ⟨3,50,[PV.ri ⟨xv,xb,xp⟩],false⟩) xp.length ?_ ?_
 ·refine⟨0,rfl,by omega,by omega,?_⟩;refine Sz0 ?_;rfl
 rintro _ J h ⟨i,rfl,hi,h1,j3,bw⟩;refine Sz2 j3 bw ?_;refine Qa (fun hg=>?_) (fun hg=>?_)
 ·have aE:i<xp.length:=by omega
  have lG:=mL _ (Kag aE);have bD:wM xp[i].1/\wM xp[i].2->∀j (h:j<xp.length),j<i+1->wM xp[j].1/\wM xp[j].2:=fun h j hj hZ=>by
   by_cases e:j=i
   ·subst e;exact h
   ·exact h1 j hj Oz
  generalize hx:xp[i]=y at *
  obtain⟨⟨n1,a1,d1⟩,⟨n2,a2,d2⟩⟩:=y;simp only at lG bD;have r1:=Cn lG.1 hk;have r2:=Cn lG.2 hk;refine Sz3 j3 bw hx ?_;refine PI okB [(4,5),(34,40)] [4,5] (fun J hp=>J 4= .mp 4 0 0/\J 5= .mp 5 0 0/\hp 1=some ⟨3,50,[PV.ri ⟨xv,xb,xp⟩],false⟩/\hp 4=some ⟨3,57,[PV.rr n1 a1 d1],false⟩/\hp 5=some ⟨3,57,[PV.rr n2 a2 d2],false⟩) ?_ ?_
  ·repeat' first
    |refine eW ?_ ?_
    |simp+decide (disch:=try exact D3 j3 bw hx) only[go_sem,j3,bw,hx]
   all_goals
    refine uI ?_;refine Sz1 bw ?_
    try (first|trivial|rfl|exact⟨rfl,rfl⟩)
  rintro J2 h' ⟨k4,k5,c1,c4,c5⟩;refine Sz4 k4 k5 c4 c5 ?_;refine Qp (fun g1=>?_) (fun g1=>?_)
  ·refine Sz0 ?_;exact Q4 ⟨false,rfl,fun h=>by cases h⟩ rfl
  refine Sz4 k4 k5 c4 c5 ?_;refine Qp (fun g2=>?_) (fun g2=>?_)
  ·refine Sz0 ?_;exact Q4 ⟨false,rfl,fun h=>by cases h⟩ rfl
  refine Sz4 k4 k5 c4 c5 ?_;refine Qp (fun g3=>?_) (fun g3=>?_)
  ·refine Sz0 ?_;exact Q4 ⟨false,rfl,fun h=>by cases h⟩ rfl
  refine Sz4 k4 k5 c4 c5 ?_;refine Qp (fun g4=>?_) (fun g4=>?_)
  ·refine Sz0 ?_;exact Q4 ⟨false,rfl,fun h=>by cases h⟩ rfl
  refine jF k4 k5 c4 c5 hP r1 ?_;cases o1:iX n1 a1 d1
  ·refine Sz0 ?_;exact Q4 ⟨false,rfl,fun h=>by cases h⟩ rfl
  refine jF k4 k5 c4 c5 hP r2 ?_;cases o2:iX n2 a2 d2
  ·refine Sz0 ?_;exact Q4 ⟨false,rfl,fun h=>by cases h⟩ rfl
  refine Sz1 j3 ?_;rw[Ul (by decide) (by decide)];refine Qh (xp.length-(i+1)) Oz ⟨i+1,rfl,by omega,bD ⟨⟨by show a1.length<=4;omega,by show d1.length<=4;omega,o1⟩,⟨by show a2.length<=4;omega,by show d2.length<=4;omega,o2⟩⟩,?_⟩;exact Tz1 c1
 ·obtain rfl:i=xp.length:=by omega
  refine Sz0 ?_;refine Q4 ⟨true,rfl,fun _=>dS m1 m2 (fun q hq=>?_) Oz⟩ rfl;obtain⟨j,hj,rfl⟩:=KaG hq;exact h1 j hj hj
theorem ah9{x:RI}{k:Nat}(hb:wS k x)(hk:k<2^36):AC 11 [PV.ri x] (fun r=>∃b,r= .bool b/\(b=true->qF x)):=by
 have h:=ah8 hb hk;generalize qF x=F at *
 obtain⟨xv,xb,xp⟩:=x;refine aw Qf func11 aoO fun C hP=>?_;refine Sz0 ?_;refine gP hP h rfl rfl rfl ?_;rintro _ ⟨b,rfl,hm⟩;refine Sz0 ?_;exact Q4 ⟨b,rfl,hm⟩ rfl
structure KA(l:List Qq)(X:List RI):Prop where
 ll:l.length<=20
 xl:X.length<=4
 fi:∀x∈X,qF x
 ar:∀f∈l,f.args.length<=20/\f.a.length<=2/\f.d.length<=2
theorem Q88{l:List Qq}{X:List RI}{k:Nat}(hf:∀f∈l,jD f)(hX:∀x∈X,wS k x)(hk:k<2^36)(hl:l.length<2^40)(yR:X.length<2^40):AC 4 [.sl 5 (l.map PV.bI),.sl 3 (X.map PV.ri)] (fun r=>∃b,r= .bool b/\(b=true->KA l X)):=by
 have hF:∀x∈X,AC 11 [PV.ri x] (fun r=>∃b,r= .bool b/\(b=true->qF x)):=fun x hx=>ah9 (hX x hx) hk;have dS:=fun a b c d=>KA.mk (l:=l) (X:=X) a b c d;generalize KA l X=F at *
 have X7:∀f∈l,f.args.length<2^40:=fun f h=>(hf f h).l;clear hX;refine aw Qf func4 apH fun C hP=>?_;refine Sz0 ?_;refine Qp (fun h2=>?_) (fun h2=>?_)
 ·refine Sz0 ?_;exact Q4 ⟨false,rfl,fun h=>by cases h⟩ rfl
 refine Sz0 ?_;refine Qa (fun h3=>?_) (fun h3=>?_)
 ·refine Sz0 ?_;exact Q4 ⟨false,rfl,fun h=>by cases h⟩ rfl
 have g2:l.length<=20:=by omega
 have g3:X.length<=4:=by omega
 refine Sz0 ?_;refine Qm okB [(4,5),(15,26)] [] (fun n J hp=>∃i,n=X.length-i/\i<=X.length/\(∀j (h:j<X.length),j<i->qF X[j])/\J 5= .int .i64 (i:Nat)) X.length ?_ ?_
 ·refine⟨0,rfl,by omega,by omega,?_⟩;refine Sz0 ?_;rfl
 rintro _ J h ⟨i,rfl,hi,h1,j5⟩;refine Sz1 j5 ?_;refine Qa (fun hg=>?_) (fun hg=>?_)
 ·have aE:i<X.length:=by omega
  have hs:=hF _ (Kag aE);have bD:qF X[i]->∀j (h:j<X.length),j<i+1->qF X[j]:=fun h j hj hZ=>by
   by_cases e:j=i
   ·subst e;exact h
   ·exact h1 j hj Oz
  generalize hx:X[i]=x at *
  generalize qF x=Fx at *
  obtain⟨xv,xb,xp⟩:=x;refine Sz2 j5 hx ?_;refine gP hP hs rfl rfl rfl ?_;rintro _ ⟨b,rfl,hm⟩;cases b
  ·refine Sz0 ?_;exact Q4 ⟨false,rfl,fun h=>by cases h⟩ rfl
  refine Sz1 j5 ?_;refine Qh (X.length-(i+1)) Oz ⟨i+1,rfl,by omega,bD (hm rfl),?_⟩;exact Tz0
 obtain rfl:i=X.length:=by omega
 refine Sz0 ?_;refine Qm okB [(4,4),(6,6),(27,60)] [] (fun n J hp=>∃i,n=l.length-i/\i<=l.length/\(∀j (h:j<l.length),j<i->l[j].args.length<=20/\l[j].a.length<=2/\l[j].d.length<=2)/\J 6= .int .i64 (i:Nat)) l.length ?_ ?_
 ·refine⟨0,rfl,by omega,by omega,?_⟩;refine Sz0 ?_
  try rfl
 rintro _ J2 h' ⟨i,rfl,hi,gJ,j6⟩;refine Sz1 j6 ?_;refine Qa (fun hg=>?_) (fun hg=>?_)
 ·have aE:i<l.length:=by omega
  have hb:=hf _ (Kag aE);have bD:l[i].args.length<=20/\l[i].a.length<=2/\l[i].d.length<=2->∀j (h:j<l.length),j<i+1->l[j].args.length<=20/\l[j].a.length<=2/\l[j].d.length<=2:=fun h j hj hZ=>by
   by_cases e:j=i
   ·subst e;exact h
   ·exact gJ j hj Oz
  have b1:=hb.l;have b2:=hb.r.k1;generalize hx:l[i]=f at *
  obtain⟨kd,args,n0,a,d⟩:=f;simp only at bD b1;have b3:=hb.r.sa;have b4:=hb.r.sd;simp only at b3 b4;refine Sz2 j6 hx ?_;refine Qp (fun g4=>?_) (fun g4=>?_)
  ·refine Sz0 ?_;exact Q4 ⟨false,rfl,fun h=>by cases h⟩ rfl
  refine Sz2 j6 hx ?_;refine Qp (fun g5=>?_) (fun g5=>?_)
  ·refine Sz0 ?_;exact Q4 ⟨false,rfl,fun h=>by cases h⟩ rfl
  refine Sz2 j6 hx ?_;refine Qa (fun g6=>?_) (fun g6=>?_)
  ·refine Sz0 ?_;exact Q4 ⟨false,rfl,fun h=>by cases h⟩ rfl
  refine Sz1 j6 ?_;refine Qh (l.length-(i+1)) Oz ⟨i+1,rfl,by omega,bD ⟨by omega,by omega,by omega⟩,?_⟩;exact Tz0
 obtain rfl:i=l.length:=by omega
 refine Sz0 ?_;refine Q4 ⟨true,rfl,fun _=>dS g2 g3 (fun x hx=>?_) (fun f hm=>?_)⟩ rfl
 ·obtain⟨j,hj,rfl⟩:=KaG hx;exact h1 j hj hj
 ·obtain⟨j,hj,rfl⟩:=KaG hm;exact gJ j hj hj
theorem Q3o{f:Qq}(hf:jD f)(hl:f.args.length<=100):AC 32 [PV.bI f,PV.bI f] (· = .int .i64 0):=by
 have hC:=Q4o hf.r hf.r Oz;have XY:qH (rv f.n f.a f.d) (rv f.n f.a f.d)=0:=by
  unfold qH
  try simp
  try grind
 rw[XY]at hC;clear XY hf;obtain⟨k,args,n,a,d⟩:=f;simp only at hl hC;refine aw Qf func32 Sp fun C hP=>?_;refine Sz0 ?_;refine Qm okB [(4,5),(16,51)] [] (fun m J hp=>∃i,m=args.length-i/\i<=args.length/\J 5= .int .i64 (i:Nat)/\hp 2=some ⟨5,59,[PV.bI ⟨k,args,n,a,d⟩],false⟩/\hp 3=some ⟨5,59,[PV.bI ⟨k,args,n,a,d⟩],false⟩) args.length ?_ ?_
 ·refine⟨0,rfl,by omega,?_⟩;refine Sz0 ?_
  try rfl
 rintro _ J h ⟨i,rfl,hi,j5,h2,h3⟩;by_cases hg:i<args.length
 ·have e1:decide ((i:Int)<(args.length:Int))=true:=decide_eq_true Oz;generalize hx:args[i]=x at *
  refine Sz5 j5 h2 h3 e1 hx ?_;refine Qh (args.length-(i+1)) Oz ⟨i+1,rfl,by omega,?_⟩;refine Sz2 h2 h3 ?_
  try trivial
 have e1:decide ((i:Int)<(args.length:Int))=false:=decide_eq_false Oz;by_cases h9:k=9
 ·have d9:decide (¬k=9)=false:=decide_eq_false fun h=>h h9;refine lX j5 h2 h3 e1 d9 hP hC ?_;refine Sz0 ?_;exact Qc rfl rfl
 ·have d9:decide (¬k=9)=true:=decide_eq_true h9;refine Sz5 j5 h2 h3 e1 d9 ?_;exact Qc rfl rfl
theorem Qx3{f:Qq}(hf:jD f)(hl:f.args.length<=100):AC 14 [PV.bI f,PV.bI f] (· = .bool true):=by have h:=Q3o hf hl;refine aw Qf func14 Sq fun C hP=>?_;refine aq hP h ?_;refine Sz0 ?_;exact Qc rfl rfl
theorem Qz2{l:List Qq}(hf:∀f∈l,jD f)(ha:∀f∈l,f.args.length<=100)(hl:l.length<2^40):AC 10 [.sl 5 (l.map PV.bI),.sl 5 (l.map PV.bI)] (· = .bool true):=by
 have hE:∀f∈l,AC 14 [PV.bI f,PV.bI f] (· = .bool true):=fun f h=>Qx3 (hf f h) (ha f h);refine aw Qf func10 anM fun C hP=>?_;refine Sz0 ?_;refine Qm okB [(4,5),(11,26)] [] (fun m J hp=>∃i,m=l.length-i/\i<=l.length/\J 5= .int .i64 (i:Nat)) l.length ?_ ?_
 ·refine⟨0,rfl,by omega,?_⟩;refine Sz0 ?_
  try rfl
 rintro _ J h ⟨i,rfl,hi,j5⟩;refine Sz1 j5 ?_;refine Qa (fun hg=>?_) (fun hg=>?_)
 ·have aE:i<l.length:=by omega
  have he:=hE _ (Kag aE);generalize hx:l[i]=f at *
  refine cR j5 hx hP he ?_;refine Sz1 j5 ?_;refine Qh (l.length-(i+1)) Oz ⟨i+1,rfl,by omega,?_⟩;exact Tz0
 refine Sz0 ?_;exact Qc rfl rfl
theorem L2{al:Qq->Bool×Int}:∀(l acc:List Qq),∀f∈(pN al l acc).1,f∈l∨f∈acc
 | [],acc,f,h=>.inr h
 | g ::r,acc,f,h=>by
  rw[pN]at h;split at h
  ·split at h
   ·rcases L2 r (acc++[g]) f h with h|h
    ·exact .inl (KaZ _ h)
    ·rcases KaS.1 h with h|h
     ·exact .inr h
     ·rw[Kay.1 h];exact .inl Kbt
   ·rcases L2 r acc f h with h|h
    ·exact .inl (KaZ _ h)
    ·exact .inr h
  ·cases h
theorem L3{al:Qq->Bool×Int}:∀(l acc:List Qq),(pN al l acc).1.length<=l.length+acc.length
 | [],acc=>by simp[pN]
 | g::r,acc=>by
  rw[pN];split
  ·split
   ·have:=L3 (al:=al) r (acc++[g]);simp at this ⊢;omega
   ·have:=L3 (al:=al) r acc;simp;omega
  ·simp
theorem WD{er:dD->Int}{sa:dD->Bool}{l:List Qq}{X:List dD}:∀f∈(oo er sa l X).1,f∈l:=fun f h=>by
 unfold oo at h;split at h
 ·rcases L2 l [] f h with h|h
  ·exact h
  ·cases h
 ·cases h
theorem af6{er:dD->Int}{sa:dD->Bool}{l:List Qq}{X:List dD}:(oo er sa l X).1.length<=l.length:=by
 unfold oo;split
 ·have:=L3 (al:=fun f=>jB f X true) l [];simpa using this
 ·simp
def c3:az:=⟨56,[.t 6],Zr (YM 3 2 25 0<|bP 6)<| .seq (Zr (fU 13 1 2 4<|Zu 16 15<|Bg 17 16 2 3 5 .nil)<| .cond (.t 21) (Zr (Zq 22 false 6 []<|Ye 6 22) .ret) .skip)<|Zr (oE 24 2 3 7 23<|Zo (.alloc 7 7 37 (.agg [.ab,.ab,.ab,.ab,.ab,.ab,.ab]))<|Zs 7 7 26<|Ye 8 27)<| .seq (Zr (YU 28 8)<| .cond (.t 29) (Zr (Zq 30 false 6 []<|Ye 6 30) .ret) .skip)<|Zr (Zh 32 7 7<|Ym 33 1 2<|Zq 35 false 8 [.t 32,.t 33,.t 34]<|Zm 31 35<|Yh 36 31<|et 9 36 37)<|Zr (Zh 39 7 7<|Ym 40 1 2<|Zq 42 false 9 [.t 39,.t 40,.t 41]<|Zm 38 42<|Yh 43 38<|et 11 43 44)<|Zr (Ym 45 10 12<|Zb 47 .eql 45 46<|j' 48 47 9<|Zg 48 true (.mv 50 (.t 11))<|Zg 48 true (.call (some 51) false (.c (.fn 10 [] [])) [.t 49,.t 50])<|Yp 52 48 51<|Zm 53 52<|Zg 53 true (.call (some 54) false (.c (.fn 6 [] [])) [])<|Yp 55 53 54<|Ye 6 55) .ret⟩
theorem apO:Qd Tryz.prog Tryz.f3=some c3:=by kernel_rfl
def toQ(q:RQ):Rat:=rv q.n q.a q.d
def sQ(x:RI):dD:=⟨x.v.map toQ,x.b,x.p.map fun p=>(toQ p.1,toQ p.2)⟩
theorem KB{q:RQ}{k m:Nat}(h:Raw k q.n q.a q.d)(ha:q.a.length<=m)(hd:q.d.length<=m)(h1:1<=m)(ho:iX q.n q.a q.d=true):PV.rq q=PV.rat (toQ q)/\rs (toQ q)<=m:=
 ⟨Ix h.la h.ld ho,(show Raw m q.n q.a q.d from⟨h.la,h.ld,ha,hd,h1⟩).rs⟩
theorem KD{x:RI}{k:Nat}(h:wS k x)(hF:qF x):PV.ri x=PV.inst (sQ x)/\(∀r∈(sQ x).v,rs r<=4)/\(∀a∈(sQ x).p,aF 4 a)/\AX 4 (sQ x):=by
 have hv:∀q∈x.v,PV.rq q=PV.rat (toQ q)/\rs (toQ q)<=2:=fun q hq=>by obtain⟨h1,h2,h3⟩:=hF.v q hq;exact KB (h.v q hq) h1 h2 Oz h3
 have hp:∀p∈x.p,(PV.rq p.1=PV.rat (toQ p.1)/\rs (toQ p.1)<=4)/\(PV.rq p.2=PV.rat (toQ p.2)/\rs (toQ p.2)<=4):=fun p hp=>by obtain⟨⟨h1,h2,h3⟩,g1,g2,g3⟩:=hF.p p hp;obtain⟨r1,r2⟩:=h.p p hp;exact⟨KB r1 h1 h2 Oz h3,KB r2 g1 g2 Oz g3⟩
 have ZS:∀a∈(sQ x).p,aF 4 a:=fun a ha=>by obtain⟨p,hm,rfl⟩:=KaA.1 ha;exact⟨(hp p hm).1.2,(hp p hm).2.2⟩
 refine⟨?_,fun r hr=>?_,ZS,⟨ZS,?_⟩⟩
 ·have e1:x.v.map PV.rq=(x.v.map toQ).map PV.rat:=by rw[KcW];exact KaX fun q hq=>(hv q hq).1
  have e2:x.p.map PV.xM=(x.p.map fun p=>(toQ p.1,toQ p.2)).map PV.aH:=by
   rw[KcW];refine KaX fun p hm=>?_;obtain⟨⟨q1,-⟩,⟨q2,-⟩⟩:=hp p hm;injection q1 with q1
   injection q1 with a1 q1
   injection q1 with a2 q1
   injection q1 with a3 q1
   injection q2 with q2
   injection q2 with b1 q2
   injection q2 with b2 q2
   injection q2 with b3 q2
   simp only[PV.xM,PV.aH,Function.comp];rw[a1,a2,a3,b1,b2,b3]
  show PV.agg [.sl 3 (x.v.map PV.rq),_,.sl 6 (x.p.map PV.xM)]=_;rw[e1,e2];rfl
 ·obtain⟨q,hq,rfl⟩:=KaA.1 hr;have:=(hv q hq).2;omega
 ·show(x.p.map _).length<_;rw[KaJ];have:=hF.pl;omega
theorem Qr9(hN:rp){S:List Q3}{G:List Qq}{l:List Qq}{X:List RI}(hS:S.length<2^40)(hG:G.length<2^40)(hb:∀s∈S,lA s)(hg:∀g∈G,jD g)(hl:l.length<2^40)(hX:X.length<2^40)(hf:∀f∈l,jD f)(hx:∀x∈X,wS 1048576 x):
  AC 3 [PV.df S G,.sl 5 (l.map PV.bI),.sl 3 (X.map PV.ri)] (· = .bool true):=by
 have hA:=afo ao1;have XD:=Q88 (k:=1048576) hf hx Oz hl hX;have Xx:=afT hN hS hG hb hg;refine aw Qf func3 apO fun C hP=>?_;refine Sz0 ?_;refine gP hP XD rfl rfl rfl ?_;rintro _ ⟨b,rfl,hs⟩;cases b
 ·refine aq hP hA ?_;refine Sz0 ?_;exact Qc rfl rfl
 replace hs:=hs rfl;refine Sz0 ?_;refine gP hP Xx rfl rfl rfl ?_;rintro _ ⟨b,rfl,hL⟩;cases b
 ·refine aq hP hA ?_;refine Sz0 ?_;exact Qc rfl rfl
 obtain⟨hF,hL⟩:=hL rfl;have hM:=P9 hN hF hS hG hb hg;refine Sz0 ?_;refine gP hP hM rfl rfl rfl ?_;rintro _ ⟨M,e,rfl,he⟩;rcases he with⟨rfl,rfl⟩|⟨he,rfl⟩
 rotate_left
 ·have d:decide (¬e=0)=true:=decide_eq_true he;refine pP d hP hA ?_;refine Sz0 ?_;exact Qc rfl rfl
 have xo:X.map PV.ri=(X.map sQ).map PV.inst:=by rw[KcW];exact KaX fun x hm=>(KD (hx x hm) (hs.fi x hm)).1
 have hX4:=hs.xl;have ZH:=hs.ll;have bd:∀x∈X.map sQ,AI S (eK S) (dZ S) (iE S S.length) (pJ S) x:=fun x hm=>by obtain⟨y,hy,rfl⟩:=KaA.1 hm;obtain⟨_,q1,q2,_⟩:=KD (hx y hy) (hs.fi y hy);exact afJ hF hb hL q1 q2
 have kS:∀x∈X.map sQ,AX 4 x:=fun x hm=>by obtain⟨y,hy,rfl⟩:=KaA.1 hm;exact(KD (hx y hy) (hs.fi y hy)).2.2.2
 have NA:∀f∈l,tp 4 f:=fun f hm=>⟨hf f hm,fun _ ho=>by obtain⟨_,h1,h2⟩:=hs.ar f hm;have:=(show Raw 2 f.n f.a f.d from⟨(hf f hm).r.la,(hf f hm).r.ld,h1,h2,by omega⟩).rs;omega⟩
 have Bx:=aoQ (G:=G) (Q:=tv S G) (l:=l) bd (by rw[KaJ];omega) Oz kS NA;have M1:=ah6 (G:=G) (Q:=tv S G) (l:=l) bd (by rw[KaJ];omega) Oz kS NA;have XC:=Qz2 (l:=(oo (gX S (dZ S)) (jC S (eK S) (dZ S) (iE S S.length) (pJ S)) l (X.map sQ)).1) (fun f h=>hf f (WD f h)) (fun f h=>by have:=(hs.ar f (WD f h)).1;omega) (by have:=af6 (er:=gX S (dZ S)) (sa:=jC S (eK S) (dZ S) (iE S S.length) (pJ S)) (l:=l) (X:=X.map sQ);omega);rw[<-xo]at Bx M1;generalize oo (gX S (dZ S)) (jC S (eK S) (dZ S) (iE S S.length) (pJ S)) l (X.map sQ)=R at *
 obtain⟨R1,R2⟩:=R;simp only at Bx M1 XC;clear bd kS NA xo hL hM Xx XD;unfold GG at *
 refine aq hP Bx ?_;refine aq hP M1 ?_;refine aq hP XC ?_;refine aq hP hA ?_;refine Sz0 ?_;exact Qc rfl rfl
theorem Vw(n:Nat)(w:World):Calls Tryz.prog 104 #[.int .u8 n] w fun e w'=>e= .returned (.bool (mj n))/\Ext Q5 w w':=by
 refine((Q8q (n:=n)).2 w Q5 #[.int .u8 n] (fun _ h=>h.elim) rfl (fun i x hx=>?_)).mono fun e w' h=>?_
 ·match i,hx with
  |0,hx=>simp at hx;subst hx;exact Qn.int _ _
  |i+1,hx=>simp at hx
 ·obtain⟨v,r,rfl,h1,h2,rfl⟩:=h;cases h2;exact⟨rfl,h1⟩
theorem af7(n:Nat)(w:World):Calls Tryz.prog 105 #[.int .u8 n] w fun e w'=>e= .returned (.bool (tK n))/\Ext Q5 w w':=by
 refine((afA (n:=n)).2 w Q5 #[.int .u8 n] (fun _ h=>h.elim) rfl (fun i x hx=>?_)).mono fun e w' h=>?_
 ·match i,hx with
  |0,hx=>simp at hx;subst hx;exact Qn.int _ _
  |i+1,hx=>simp at hx
 ·obtain⟨v,r,rfl,h1,h2,rfl⟩:=h;cases h2;exact⟨rfl,h1⟩
theorem Q3p(w:World):Calls Tryz.prog 106 #[] w fun e w'=>∃b off cap,e= .returned (.slice (some ⟨b,off,none⟩) 29 cap)/\Ext Q5 w w'/\∀i (h:i<lM.length),w'.cell? ⟨b,off+i,none⟩=some (.string lM[i]):=by
 refine(Q2t.2 w Q5 #[] (fun _ h=>h.elim) rfl (fun i x hx=>by simp at hx)).mono fun e w' h=>?_;obtain⟨v,r,rfl,h1,h2,rfl⟩:=h;have gK:Qn w' Q5 (.sl 1 (lM.map PV.str)) v:=h2;cases gK with
 |sl _ _ b off cap vs hX hb hl hc he hv hr=>
  refine⟨b,off,cap,rfl,h1,fun i hi=>?_⟩;have hlen:(lM.map PV.str).length=29:=rfl;have vD:i<lM.length:=hi;have hg:(lM.map PV.str)[i]? =some (.str lM[i]):=by rw[Kao,Kad vD];rfl
  have h3:=hv i (by rw[hlen];exact vD) 0 Oz;have h4:=hr i _ hg 0 _ rfl;generalize vs i 0=u at h3 h4;cases h4;rw[<-h3];simp
theorem af8(s:ByteArray)(pos:Nat)(h:pos<s.size):1<=(Utf8.decode s pos).2:=by
 by_cases ha:(s[pos]'h).toNat<128
 ·rw[decode_ascii s pos h ha];exact Kae _
 ·exact(decode_high s pos h Oz).2
theorem aia{w wr:World}(h:Ext Q5 w wr)(s:ByteArray)(p:Nat):Ext Q5 w (wr.iter s p):=h.trans (Ext.alloc wr _ _)
theorem Q9b{w wr:World}(h:Ext Q5 w wr){b:Nat}(hb:w.heap.size<=b)(s:ByteArray)(p:Nat):Ext Q5 w (wr.iterAt b s p):=
 ⟨h.os,h.tape,h.output,by rw[Lib.iterAt_size];exact h.size,fun c hc hn=>by rw[Lib.iterAt_other _ _ _ _ _ Oz];exact h.block c hc hn⟩
theorem aoR{s k:ByteArray}(h:s.toList=k.toList):s=k:=by rw[KcN,KcN]at h;cases s;cases k;exact congrArg _ (Array.toList_inj.1 h)
theorem Gp{p:Prop}(h:p->False):false=true↔p:=⟨fun e=>(by cases e),fun q=>(h q).elim⟩
theorem Ta{s:ByteArray}(h:Nq s):¬s.toList=[]:=fun e=>by have:=h.p;have h2:=congrArg List.length e;rw[KcN,Kcm]at h2;have:s.size=0:=h2;omega
theorem aon{s:ByteArray}(h:Nq s)(h0:0<s.size):¬((s.toList.isEmpty=true∨(20:Int)<s.size)∨(!mj (s[0]'h0).toNat)=true):=by
 rintro((e|e)|e)
 ·exact Ta h (List.isEmpty_iff.1 e)
 ·have:=h.l;omega
 ·rw[h.f h0]at e;cases e
set_option maxHeartbeats 2000000 in
theorem Q3q (s:ByteArray) (hs:s.size<2^40) (w:World):Calls Tryz.prog 64 #[.string s] w fun e w'=>∃b,e= .returned (.bool b)/\Ext Q5 w w'/\(b=true↔Nq s):=by
 go_enter func64,Tryz.ntmps64
 go_wp2_with (go_at_call 104;refine(Vw _ _).mono ?_;rintro e w2 ⟨rfl,hx⟩)
 all_goals try (go_ret;first|exact⟨_,rfl,Ext.refl _ _,Gp fun hn=>absurd (by assumption) (Ta hn)⟩|exact⟨_,rfl,by assumption,Gp fun hn=>absurd (by assumption) (aon hn _)⟩|exact .inl ⟨rfl,Ext.refl _ _,fun hn=>absurd hn.l (by omega)⟩)
 rotate_left
 ·exfalso;have h1:¬s.toList=[]:=by assumption
  have h2:¬0<s.size:=by assumption
  refine h1 (Kas.1 ?_);rw[KcN];simp only[Kcm];show s.size=0;omega
 rename_i r1 r2 r3 r4 r5 r6;have ZH:s.size<=20:=by omega
 have Jg:mj (s[0]'r3).toNat=true:=by simpa using r4.2
 have hf1:∀h:0<s.size,mj (s[0]'h).toNat=true:=fun _=>Jg;clear r1 r2 r4 Jg;generalize s.toList.isEmpty=b0;generalize decide (20<(s.size:Int))=b1;generalize mj (s[0]'r3).toNat=b2
 go_loopw [3] (fun v wr=>∃pos n,wr.heap[w2.heap.size]? =some (.stringIter s pos)/\Ext Q5 w wr/\pos=iF s n/\∀m,m<n->∀h:iF s m<s.size,mj (s[iF s m]'h).toNat=true∨tK (s[iF s m]'h).toNat=true) (fun _ wr=>s.size-wr.iterPos w2.heap.size)
 case atStart=>exact⟨0,0,World.iter_heap w2 s 0,aia hx s 0,rfl,fun m hm=>absurd hm (by omega)⟩
 case round=>
  have JB:=hx.size;obtain⟨pos,n,EN,hE,qR,bC⟩:=hrel;have hip:wr.iterPos w2.heap.size=pos:=by simp[World.iterPos,EN]
  have IS:w2.heap.size<wr.heap.size:=(Kan.1 EN).1;by_cases hp:pos<s.size
  ·have nS:∀ty,(Instr.next (.pointer (some ⟨w2.heap.size,0,none⟩)) true ty).run Tryz.prog wr=_:=fun ty=>Lib.run_next_any_at wr w2.heap.size s pos ty EN hp;have hwd:=af8 s pos hp;have NS:iF s (n+1)=pos+(Utf8.decode s pos).2:=by rw[iF,<-qR,if_pos hp]
   have bD:(mj (s[pos]'hp).toNat=true∨tK (s[pos]'hp).toNat=true)->∀m,m<n+1->∀h:iF s m<s.size,mj (s[iF s m]'h).toNat=true∨tK (s[iF s m]'h).toNat=true:=by
    subst qR;intro ho m hm h;by_cases e:m=n
    ·subst e;exact ho
    ·exact bC m (by omega) h
   have at6:¬(mj (s[pos]'hp).toNat=true∨tK (s[pos]'hp).toNat=true)->¬Nq s:=by subst qR;exact fun ho q=>ho (q.a n hp)
   clear bC qR;obtain⟨wd,av5⟩:∃wd,(Utf8.decode s pos).2=wd:=⟨_,rfl⟩
   rw[av5]at nS hwd NS;have EO:=Lib.iterAt_heap wr w2.heap.size s pos (pos+wd) EN;have xk:=Q9b hE JB s (pos+wd);obtain⟨W1,qL⟩:∃W1,W1=wr.iterAt w2.heap.size s (pos+wd):=⟨_,rfl⟩
   have Bs:w2.heap.size<W1.heap.size:=by rw[qL,Lib.iterAt_size];exact IS
   rw[<-qL]at nS EO xk;clear qL
   go_wp2_with (first|(go_at_call 104;refine(Vw _ _).mono ?_;rintro e w3 ⟨rfl,sG⟩)|(go_at_call 105;refine(af7 _ _).mono ?_;rintro e w4 ⟨rfl,hx4⟩))
   ·go_roundw
    case rel=>exact⟨pos+wd,n+1,(sG.block _ Bs id).trans EO,xk.trans sG,NS.symm,bD (.inl (by assumption))⟩
    case measure=>
     have:w3.iterPos w2.heap.size=pos+wd:=by simp[World.iterPos,(sG.block _ Bs id).trans EO]
     omega
   ·go_ret
    exact⟨_,rfl,(xk.trans sG).trans hx4,Gp (at6 (fun ho=>by rcases ho with ho|ho;exact absurd ho (by assumption);simp_all))⟩
   ·have Fz:=sG.trans hx4
    go_roundw
    case rel=>exact⟨pos+wd,n+1,(Fz.block _ Bs id).trans EO,xk.trans Fz,NS.symm,bD (.inr (by simp_all))⟩
    case measure=>
     have:w4.iterPos w2.heap.size=pos+wd:=by simp[World.iterPos,(Fz.block _ Bs id).trans EO]
     omega
  ·have nS:∀ty,(Instr.next (.pointer (some ⟨w2.heap.size,0,none⟩)) true ty).run Tryz.prog wr=_:=fun ty=>Lib.run_next_end_at wr w2.heap.size s pos ty EN hp
   go_wp2_with (go_at_call 106;refine(Q3p _).mono ?_;rintro e w5 ⟨bk,ok,ck,rfl,Fz,hk⟩)
   have dS:=hE.trans Fz;have atZ:∀m (h:iF s m<s.size),mj (s[iF s m]'h).toNat=true∨tK (s[iF s m]'h).toNat=true:=fun m h=>by
    rcases Kb1 m n with hm|hm
    ·exact bC m hm h
    ·have e:=Wu (s:=s) (n:=n) (by omega) (m-n);rw[show n+(m-n)=m by omega]at e;omega
   clear bC
   go_loopw [38] (fun v wr=>∃i:Nat,v= .int .i64 i/\i<=29/\wr=w5/\∀j (h:j<lM.length),j<i->s≠lM[j]) (fun v _=>29-(Go.RowKit.intOf v).toNat)
   case atStart=>exact⟨0,rfl,by omega,rfl,fun j _ hj=>absurd hj (by omega)⟩
   case round=>
    obtain⟨i,rfl,hi,rfl,bz⟩:=hrel;by_cases se:i<29
    ·have vD:i<lM.length:=se;have hck:=hk i vD;have hkm:=Kag vD;have bD:s≠lM[i]->∀j (h:j<lM.length),j<i+1->s≠lM[j]:=fun hh j hj hZ=>by
      by_cases e:j=i
      ·subst e;exact hh
      ·exact bz j hj (by omega)
     have oN:(i:Int)<29:=by omega
     go_wp2
     ·go_ret
      exact⟨_,rfl,dS,Gp fun hn=>absurd (aoR (eq_of_beq (by assumption))) (hn.k _ hkm)⟩
     ·have hwr:IntKind.i64.wrap ((i:Int)+1)=((i+1:Nat):Int):=by rw[IntKind.wrap_i64];omega
      refine js (v:=.int .i64 ((i+1:Nat):Int)) (w':=wr) ?_ ?_
      ·unfold execOp;simp[Act.eval,eqGuard,binOp,Op.intArith,hwr]
       try trace_state
      ·rename_i ka kb;refine kb _ _ ?_
       go_wp2
       refine js (v:=.int .i64 ((i+1:Nat):Int)) (w':=wr) ?_ ?_
       ·unfold execOp;simp[Act.eval,Act.put]
        try trace_state
       ·rename_i kc kd;refine kd _ _ ?_
        go_wp2
        refine⟨?_,?_⟩
        ·repeat apply Exists.intro
         refine⟨⟨i+1,rfl,by omega,trivial,bD (fun e=>by simp_all)⟩,rfl⟩
        ·show 29-(Go.RowKit.intOf (.int .i64 ((i+1:Nat):Int))).toNat<29-(Go.RowKit.intOf (.int .i64 (i:Int))).toNat;simp only[Go.RowKit.intOf,Kbs];omega
    ·have oN:¬(i:Int)<29:=by omega
     go_wp2
     go_ret
     have Xz:Nq s:=⟨r3,ZH,hf1,atZ,fun k iy=>by obtain⟨j,hj,rfl⟩:=KaG iy;exact bz j hj (by have:lM.length=29:=(rfl);omega)⟩
     first|exact .inr ⟨rfl,dS,Xz⟩|exact⟨_,rfl,dS,fun _=>Xz,fun _=>rfl⟩|trace_state
theorem Q9c(s:ByteArray)(hs:s.size<2^40):AC 64 [PV.str s] (fun r=>r= .bool (BZ s)):=by
 refine⟨by unfold lT;kernel_rfl,fun w X aR hX hl ha=>?_⟩;have h0:=ha 0 (.str s) rfl;obtain⟨v,rfl⟩:∃v,aR= #[v]:=by
  obtain⟨l⟩:=aR
  match l,hl with
  | [v],_=>exact⟨v,rfl⟩
 have h1:Qn w X (.str s) v:=h0;cases h1;refine(Q3q s hs w).mono fun e w' h=>?_;obtain⟨b,rfl,h2,h3⟩:=h;exact⟨_,.bool b,rfl,h2,Qn.bool b,by rw[aoB h3]⟩
open Go Go.FW Go.ChangeShapes Go.WideShapes Go.ChangeAt Go.RowKit
theorem WE{H:Type}{d:DataW H}{l:List (DataW H)}(h:d∈l):Rows.uptoBulk d<=Rows.uptoBulkAll l:=by
 induction l with
 |nil=>cases h
 |cons x r ih=>
  simp only[Rows.uptoBulkAll];cases KaH.1 h with
  |inl e=>subst e;omega
  |inr e=>have:=ih e;omega
theorem aib{H:Type}(d:DataW H):1<=Rows.uptoBulk d:=by
 cases d with
 |lit l=>cases l<;>simp[Rows.uptoBulk]
 |nil=>simp[Rows.uptoBulk]
 |ptr d=>simp[Rows.uptoBulk]
 |slice elems spare=>simp[Rows.uptoBulk]
 |agg parts=>simp[Rows.uptoBulk]
 |iface t d=>simp[Rows.uptoBulk]
 |map entries=>simp[Rows.uptoBulk]
 |held h=>simp[Rows.uptoBulk]
theorem Q43{H:Type}(l:List (DataW H)):l.length<=Rows.uptoBulkAll l:=by
 induction l with
 |nil=>simp[Rows.uptoBulkAll]
 |cons x r ih=>have:=aib x;simp only[Rows.uptoBulkAll,Kaz];omega
theorem cC{H:Type}:Gw (H:=H) Rows.uptoBulk:=by
 refine⟨fun elems spare=>?_,fun elems spare d hd=>?_,fun parts d hd=>?_⟩
 ·have:=Q43 elems;simp only[Rows.uptoBulk];omega
 ·have:=WE hd;simp only[Rows.uptoBulk];omega
 ·have:=WE hd;simp only[Rows.uptoBulk];omega
theorem aic{H:Type}{l:List (DataW H)}(hk:Rows.uptoSmall H l=true):Rows.uptoBulkAll l<=1048576:=of_decide_eq_true hk
theorem own:ownKnob Tryz.prog.godebug=none:=by kernel_rfl
theorem laid:laidOutB Tryz.prog=true:=by kernel_rfl
theorem aoo:mapsRowed Tryz.prog=true:=by kernel_rfl
def SQ(P:Program):Bool:=(List.range P.types.size).all fun t=>match P.underlying t with|some (.slice e)=>decide (0<P.cellsOf e)|_=>true
theorem apP:SQ Tryz.prog=true:=by kernel_rfl
theorem aop{t e:TypeId}(ht:t<Tryz.prog.types.size)(he:Tryz.prog.underlying t=some (.slice e)):0<Tryz.prog.cellsOf e:=by have h:=apP;simp only[SQ,Kav]at h;have:=h t (Kcg.2 ht);rw[he]at this;exact of_decide_eq_true this
variable {H : Type} {enc : TypeId × Value -> H}
abbrev Rd(enc:TypeId×Value->H):=kH enc Tryz.prog Rows.uptoBulk 1048576
theorem WG:Tryz.prog.cellsOf 177=1:=by kernel_rfl
theorem Lr:Tryz.prog.cellsOf 3=1:=by kernel_rfl
theorem WH:Tryz.prog.cellsOf 57=3:=by kernel_rfl
theorem SR:Rd enc 53 fun ps=>∃l:List Nat,ps=[PV.nat l]/\l.length<=1048576/\Qi l:=by refine(v7 (α:=Nat) (f:=fun(x:Nat)=>.int .u16 x) (G:=fun x=>x<65536) cC Tryz.underlying53 (by rw[WG];omega) (aeZ Tryz.underlying177)).mono ?_;rintro ps ⟨l,rfl,h1,h2⟩;exact⟨l,by rw[WG],h1,h2⟩
theorem aoq:Rd enc 55 fun ps=>∃(n:Bool)(a:List Nat),ps=[.bool n,PV.nat a]/\a.length<=1048576/\Qi a:=by refine(TM cC Tryz.underlying55 rfl (by kernel_rfl) (by kernel_rfl) (Vl Tryz.underlying4) SR).mono ?_;rintro ps ⟨p,q,rfl,⟨n,rfl⟩,a,rfl,h⟩;exact⟨n,a,rfl,h⟩
theorem DB:Rd enc 57 fun ps=>∃(n:Bool)(a d:List Nat),ps=[.bool n,PV.nat a,PV.nat d]/\Raw 1048576 n a d:=by refine(TM cC Tryz.underlying57 rfl (by kernel_rfl) (by kernel_rfl) aoq SR).mono ?_;rintro ps ⟨p,q,rfl,⟨n,a,rfl,h1,h2⟩,d,rfl,h3,h4⟩;exact⟨n,a,d,rfl,h2,h4,h1,h3,by omega⟩
instance : Inhabited RTm := ⟨⟨false, [], [], []⟩⟩
theorem al7:Rd enc 46 fun ps=>∃l:List RQ,ps=[PV.JX l]/\To l:=by
 refine(v7 (α:=RQ) (f:=PV.rq) (G:=fun q=>Raw 1048576 q.n q.a q.d) cC Tryz.underlying46 (by rw[WH];omega) (DB.mono ?_)).mono ?_
 ·rintro ps ⟨n,a,d,rfl,h⟩;exact⟨⟨n,a,d⟩,rfl,h⟩
 ·rintro ps ⟨l,rfl,h1,h2⟩;exact⟨l,by rw[WH],h1,h2⟩
variable {w : World} {base : Nat} {spare : Nat -> Bool} {held : Bool} {r : Reach} {b0 : Nat} {v : Value} {d : DataW H} {ps : List MemPlace}
theorem af9{f:FuncId}{fn:Func}{s:ChangeSpec}{ap fresh handsOn AK:Bool}{W:World}{args:Array Value}{ds gs:List (DataW H)}{before:List MemPlace}{aU:List PV}
  (hW:DataW.Whole enc Tryz.prog fn.params.toList s.vars ap W args.toList ds gs before) (Fv:s.vars=[]) (fq:fn.resultTypes= #[4]) (Jr:(fn.params.toList.all fun t=>decide (t<Tryz.prog.types.size))=true)
  (y6:s.fn H (ds++gs)={ results:=[.lit (.bool true)],args:=ds })
  (hF:AC f aU (· = .bool true)) (N4:args.size=aU.length) (gA:∀(i:Nat)(x:PV),aU[i]? =some x->Q8 W Q5 x (args.getD i undef)):
  Calls Tryz.prog f args W fun e W'=>∃v,e= .returned v/\s.post enc Tryz.prog fn ap fresh handsOn AK W args v W':=by
 simp only[Kav,decide_eq_true_eq]at Jr;exact Q13 hW Fv fq Tryz.underlying4 laid aoo (fun h1 h2=>aop h1 h2) Jr y6 hF N4 gA
theorem aiH{w:World}{ps:List PV}{vs:List Value}(h:∀(i:Nat)(x:PV),ps[i]? =some x->∀v,vs[i]? =some v->Q8 w Q5 x v)(hl:vs.length=ps.length):∀(i:Nat)(x:PV),ps[i]? =some x->Q8 w Q5 x (vs.toArray.getD i undef):=by
 intro i x hx;have hi:i<vs.length:=by rw[hl];exact(Kaf.1 hx).1
 have:=h i x hx vs[i] (Kad hi);simpa[Array.getD,hi]using this
end Go.Proofs.YtmkijkjaeljieaaGreat
namespace Go.FW
open Go Go.ChangeShapes Go.WideShapes
section
variable {H : Type} {enc : TypeId × Value -> H} {P : Program} {cC : DataW H -> Nat} {N : Nat} {w : World} {base : Nat} {spare : Nat -> Bool} {held : Bool}
def Mt(enc:TypeId×Value->H)(P:Program)(cC:DataW H->Nat)(N:Nat):Nat->List Field->List (List PV->Prop)->Prop
 |_,[],[]=>True
 |off,f::fs,Q::Qs=>f.offset=off/\kH enc P cC N f.type Q/\Mt enc P cC N (off+P.cellsOf f.type) fs Qs
 |_,_,_=>False
def Ks:List (List PV->Prop)->List PV->Prop
 | [],ps=>ps=[]
 |Q::Qs,ps=>∃p q,ps=p++q/\Q p/\Ks Qs q
def AB(P:Program)(fs:List Field):Nat:=(fs.map fun f=>P.cellsOf f.type).sum
theorem SS{n:Nat}{cs:List Value}:∀ {fs:List Field} {Qs:List (List PV->Prop)} {off:Nat} {xs:List (DataW H×List MemPlace)},Mt enc P cC N off fs Qs->xs.length=fs.length->off+AB P fs<=cs.length->
  (∀(i:Nat)(f:Field),fs[i]? =some f->DataW.trod enc P w base spare held n f.type ((cs.drop f.offset).take (P.cellsOf f.type))=xs[i]?)->(∀x∈xs,cC x.1<=N)->
  ∃ps,Ks Qs ps/\ps.length=AB P fs/\∀(i:Nat)(v:PV),ps[i]? =some v->Qn w Q5 v (cs.getD (off+i) undef)
 | [],[],off,xs,_,_,_,_,_=>⟨[],rfl,rfl,fun i v h=>by simp at h⟩
 | [],_::_,off,xs,h,_,_,_,_=>h.elim
 |_::_,[],off,xs,h,_,_,_,_=>h.elim
 |f::fs,Q::Qs,off,[],_,hl,_,_,_=>by simp at hl
 | f::fs,Q::Qs,off,x::xs,⟨h0,hr,h1⟩,hl,hc,hf,hb=>by
  have hcf:AB P (f::fs)=P.cellsOf f.type+AB P fs:=by simp[AB]
  rw[hcf]at hc⊢;have hx:=hf 0 f rfl;obtain⟨p,hp,cg,qg⟩:=hr _ _ _ _ _ _ _ hx (hb x (by simp));obtain⟨q,hq,qS,Js⟩:=SS (n:=n) (cs:=cs) (fs:=fs) (Qs:=Qs) (off:=off+P.cellsOf f.type) (xs:=xs) h1 (by simpa using hl) (by omega) (fun i g hg=>by simpa using hf (i+1) g hg) (fun y hy=>hb y (KaZ _ hy));rw[h0]at cg qg;simp only[KaB,KbK]at cg;have lp:p.length=P.cellsOf f.type:=by omega
  refine⟨p++q,⟨p,q,rfl,hp,hq⟩,by rw[Kap];omega,fun i v hv=>?_⟩;by_cases hi:i<p.length
  ·rw[KbA hi]at hv;have:=qg i v hv;rw[Kac,Kcq,if_pos (by omega),Ka4]at this;rw[Kac];exact this
  ·rw[Kbm (by omega)]at hv;have:=Js _ v hv;rw[show off+P.cellsOf f.type+(i-p.length)=off+i by omega]at this;exact this
theorem Cj{t:TypeId}{fs:Array Field}{Qs:List (List PV->Prop)}(hB:Gw cC)(ht:P.underlying t=some (.struct fs))(hc:P.cellsOf t=AB P fs.toList)(hr:Mt enc P cC N 0 fs.toList Qs):kH enc P cC N t (Ks Qs):=by
 intro w base spare held fuel cs x hx hn;obtain⟨xs,n,_,rfl,hl,hlen,hf⟩:=DataW.trod_struct ht hx;obtain⟨ps,h1,h2,h3⟩:=SS (w:=w) (base:=base) (spare:=spare) (held:=held) (n:=n) (cs:=cs) (off:=0) (xs:=xs) hr (by simpa using hlen) (by omega) (fun i f BG=>hf i f (by simpa using BG)) (fun y hy=>KaQ (hB.ag _ _ (KaA.2 ⟨y,hy,rfl⟩)) hn);refine⟨ps,h1,by omega,fun i v hv=>?_⟩;have:=h3 i v hv
 rwa[Ka1]at this
end
end Go.FW
namespace Go.FW
open Go Go.ChangeShapes Go.WideShapes
section
variable {H : Type} {enc : TypeId × Value -> H} {P : Program} {cC : DataW H -> Nat} {N : Nat}
theorem aiI{w:World}{base:Nat}{spare:Nat->Bool}{held:Bool}{fuel:Nat}{t:TypeId}{cs:List Value}{x:DataW H×List MemPlace}(ht:P.underlying t=some .string)(h:DataW.trod enc P w base spare held fuel t cs=some x):∃s:ByteArray,cs=[.string s]/\x=(.lit (.string s.data.toList),[]):=by
 cases fuel with
 |zero=>simp[DataW.trod]at h
 |succ n=>unfold DataW.trod at h;rw[ht]at h;split at h<;>simp_all
theorem Q3s{t:TypeId}(ht:P.underlying t=some .string)(hB:∀l,l.length<=cC (.lit (.string l))):kH enc P cC N t fun ps=>∃s:ByteArray,ps=[.str s]/\s.size<=N:=by intro w base spare held fuel cs x hx hn;obtain⟨s,rfl,rfl⟩:=aiI ht hx;exact⟨_,⟨s,rfl,KaQ (hB _) hn⟩,rfl,CX (.str s)⟩
end
end Go.FW
