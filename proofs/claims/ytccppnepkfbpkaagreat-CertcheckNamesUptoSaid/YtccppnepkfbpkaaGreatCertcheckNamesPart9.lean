/- Part 9 of the proof of CertcheckNames: K4, FwYD. Own lemmas; no conditions. -/
import Derived.Test.YtccppnepkfbpkaaGreatCertcheckNamesPart8
set_option maxHeartbeats 1000000
set_option linter.unusedSimpArgs false
set_option linter.unusedVariables false
set_option linter.unnecessarySimpa false
set_option maxRecDepth 100000
namespace Go.Proofs.YtccppnepkfbpkaaGreat
open Go Go.FW
def qX(s:Int)(b:Nat):List Vr:=if b=0 then []else if b=1 then [(1,s,0)]else [(1,s,0),(1,s,1)]
def sH(n b:Nat):Cd:=if b=0 then([],[])else if b=1 then(Q3 n,[])else(Q3 n,Q3 (n+1:Nat))
theorem aii{cs:List Cd}{vs:List Vr}{s:Int}{b:Nat}(hv:vs.length<62)(hb:b<1000):
  pV 130 cs vs (vs++qX s b) [.int .i64 s,.int .i64 b] (PV.aC (sH vs.length b)):=by
 have h1:=xt (cs:=cs) (vs:=vs) (k:=1) (s:=s) (m:=0) (by omega);have h2:=xt (cs:=cs) (vs:=vs++[(1,s,0)]) (k:=1) (s:=s) (m:=1) (by simp;omega);have e1:(vs++[(1,s,0)]).length=vs.length+1:=by simp
 have e2:vs++[(1,s,0)]++[(1,s,1)]=vs++[(1,s,0),(1,s,1)]:=by simp
 have e3:(vs++[(1,s,0),(1,s,1)]).length=vs.length+1+1:=by simp
 rw[pV,e2,e1,e3]at h2;rw[pV,e1]at h1;rcases(by omega:b=0∨b=1∨2<=b)with rfl|rfl|dN
 ·rw[show vs++qX s 0=vs by simp[qX],show sH vs.length 0=([],[])from rfl];refine xd Qg Tryz.func130 rfl Ie Nz fun C hP=>?_;simp only[Cp];refine du ?_;refine Sz0 ?_;refine bT (pN 6 2000010 bf (by omega) rfl (by omega)) ?_;refine Sz0 ?_;refine bT (pK (γ:=2000010) (e:=2) (ty:=30) (xs:=[.agg [.aa,.aa]]) (fz:=false) Tz0 (by simp) (by omega) (fun x hx=>by rw[Kay.1 hx];rfl)) ?_;refine Sz0 ?_;refine bT (Ig (β:=8) (ty:=135) (e:=4) (e':=4) Tz0) ?_;refine Sz0 ?_;refine dp ?_ ?_
  all_goals
   refine Sz0 ?_;refine pG (γ:=2000010) (ty:=30) (n:=cs.length) (m:=vs.length) Tz0 Tz0 (q:=PV.aC ([],[])) bf rfl ⟨by rfl,by simp+decide (disch:=try exact D0) only[go_sem],by simp+decide (disch:=try exact D0) only[go_sem]⟩
 ·rw[show qX s 1=[(1,s,0)]from rfl,show sH vs.length 1=(Q3 vs.length,[])from rfl];refine xd Qg Tryz.func130 rfl Ie Nz fun C hP=>?_;simp only[Cp];refine du ?_;refine Sz0 ?_;refine bT (pN 6 2000010 bf (by omega) rfl (by omega)) ?_;refine Sz0 ?_;refine bT (pK (γ:=2000010) (e:=2) (ty:=30) (xs:=[.agg [.aa,.aa]]) (fz:=false) Tz0 (by simp) (by omega) (fun x hx=>by rw[Kay.1 hx];rfl)) ?_;refine Sz0 ?_;refine bT (Ig (β:=8) (ty:=135) (e:=4) (e':=4) Tz0) ?_;refine Sz0 ?_;refine bT (xg (γ:=4000003) (e:=2) (ty:=30) (cs:=[.au 2000000 0 cs.length,.au 2000001 0 vs.length]) Tz0) ?_;refine Sz0 ?_;refine pJ hP h1 Tz0 Tz0 rfl rfl rfl (by simp) ?_;refine Sz0 ?_;refine dp ?_ ?_
  all_goals
   refine Sz0 ?_;refine pG (γ:=2000010) (ty:=30) (n:=cs.length) (m:=(vs.length+1)) Tz0 Tz0 (q:=PV.aC (Q3 vs.length,[])) bf rfl ⟨by rw[e1],by simp+decide (disch:=try exact D0) only[go_sem],by simp+decide (disch:=try exact D0) only[go_sem]⟩
 ·rw[show qX s b=[(1,s,0),(1,s,1)]by unfold qX;rw[if_neg (by omega),if_neg (by omega)],show sH vs.length b=(Q3 vs.length,Q3 (vs.length+1:Nat))by unfold sH;rw[if_neg (by omega),if_neg (by omega)]];have d1:decide (0<(b:Int))=true:=decide_eq_true (by omega);have d2:decide (1<(b:Int))=true:=decide_eq_true (by omega);refine xd Qg Tryz.func130 rfl Ie Nz fun C hP=>?_;simp only[Cp];refine du ?_;refine Sz0 ?_;refine bT (pN 6 2000010 bf (by omega) rfl (by omega)) ?_;refine Sz0 ?_;refine bT (pK (γ:=2000010) (e:=2) (ty:=30) (xs:=[.agg [.aa,.aa]]) (fz:=false) Tz0 (by simp) (by omega) (fun x hx=>by rw[Kay.1 hx];rfl)) ?_;refine Sz0 ?_;refine bT (Ig (β:=8) (ty:=135) (e:=4) (e':=4) Tz0) ?_;refine Sz1 d1 ?_;refine bT (xg (γ:=4000003) (e:=2) (ty:=30) (cs:=[.au 2000000 0 cs.length,.au 2000001 0 vs.length]) Tz0) ?_;refine Sz0 ?_;refine pJ hP h1 Tz0 Tz0 rfl rfl rfl (by simp) ?_;refine Sz1 d2 ?_;refine bT (xg (γ:=4000003) (e:=2) (ty:=30) (cs:=[.au 2000000 0 cs.length,.au 2000001 0 (vs.length+1)]) Tz0) ?_;refine Sz0 ?_;refine pJ hP h2 Tz0 Tz0 rfl rfl rfl (by simp) ?_;refine Sz0 ?_;refine dp ?_ ?_
  all_goals
   refine Sz0 ?_;refine pG (γ:=2000010) (ty:=30) (n:=cs.length) (m:=(vs.length+1+1)) Tz0 Tz0 (q:=PV.aC (Q3 vs.length,Q3 (vs.length+1:Nat))) bf rfl ⟨by rw[e3],by simp+decide (disch:=try exact D0) only[go_sem],by simp+decide (disch:=try exact D0) only[go_sem]⟩
end Go.Proofs.YtccppnepkfbpkaaGreat
namespace Go.FW
open Go
structure PQ(T K E:Nat)(p:List Tm):Prop where
 l:p.length<=T
 b:PB K E p
 n:aR p
theorem PQ.mono{T K E T' K' E':Nat}{p:List Tm}(h:PQ T K E p)(h1:T<=T')(h2:K<=K')(h3:E<=E'):PQ T' K' E' p:=⟨KaL h.l h1,h.b.mono h2 h3,h.n⟩
theorem PQ.nil{T K E:Nat}:PQ T K E []:=⟨KbR _,PB.nil _ _,aR.nil⟩
theorem PQ.add{T K S L E:Nat}{p q:List Tm}(hp:PQ T K E p)(hq:PQ S L E q):PQ (T+S) (K+L) E (Qq p q):=
 ⟨by have:=G9 p q;have:=hp.l;have:=hq.l;omega,DZ _ _ hp.b hq.b,vg hp.n hq.n⟩
theorem PQ.scale{T K L E:Nat}{p:List Tm}{a:Rat}(hp:PQ T K E p)(ha:rs a+1<=L):PQ T (K+L) E (Q5 p a):=
 ⟨KaL (zc _ _) hp.l,zt hp.b ha,kp hp.n.s _⟩
theorem PQ.mul{T K S L E F:Nat}{p q:List Tm}(hp:PQ T K E p)(hq:PQ S L F q):PQ (T*S) (min T S*(K+L)) (E+F) (aV p q):=by obtain⟨h1,h2⟩:=Pj hp.b hq.b;refine⟨KaL h2 (KbU hp.l hq.l),h1.mono (Kal _ ?_) (Kad _),tE hp.n.s hq.n.s⟩;have:=hp.l;have:=hq.l;omega
theorem PQ.sub{T K S L E:Nat}{p q:List Tm}(hp:PQ T K E p)(hq:PQ S L E q):PQ (T+S) (K+(L+2)) E (bQ p q):=hp.add (hq.scale (by have:=B5;omega))
theorem PQ.var{v:Nat}:PQ 1 4 1 (Q3 v):=by
 unfold Q3;split
 ·exact PQ.nil
 ·rename_i h;refine⟨by simp,fun t ht=>?_,aR.one (t:=(1,tX (v:Int).toNat)) (show(1:Rat)≠0 by decide) (by simp[tX])⟩;simp only[Kay]at ht;subst ht;refine⟨by have:=sM;show rs 1+1<=4;omega,⟨?_,?_,?_⟩,?_⟩
  ·simp[tX];omega
  ·intro x hx;simp[tX]at hx;omega
  ·intro x hx;simp[tX]at hx;omega
  ·simp[tX]
theorem PQ.const{a:Rat}{k:Nat}(h:rs a+1<=k):PQ 1 k 0 (cM a):=by
 refine⟨by unfold cM;split<;>simp,?_,CY a⟩;unfold cM;split
 ·exact PB.nil _ _
 ·intro t ht;simp only[Kay]at ht;subst ht;exact⟨h,⟨by simp,by simp,by simp⟩,by simp⟩
theorem aij{fr:Fr}{hp:HP}{K:Qh}{len e β j o d:Nat}{k:IntKind}(h:0<len):kX len e (.mp β j o) (.int k 0) d fr hp K=K (ae fr d (.mp β j o)) hp:=by simp[kX,h]
theorem aik{fr:Fr}{hp:HP}{K:Qh}{len e β j o d:Nat}{k:IntKind}(h:1<len):kX len e (.mp β j o) (.int k 1) d fr hp K=K (ae fr d (.mp β j (o+e))) hp:=by simp[kX];omega
theorem ail{fr:Fr}{hp:HP}{K:Qh}{e d β n:Nat}{k:IntKind}(h:0<n)(he:(hp β).map (·.e)=some e):Q7 e (.au β 0 n) (.int k 0) d fr hp K=K (ae fr d (.mp β 0 0)) hp:=by rw[Ek (by omega) (by omega) he];rfl
theorem aim{fr:Fr}{hp:HP}{K:Qh}{e d β n:Nat}{k:IntKind}(h:1<n)(he:(hp β).map (·.e)=some e):Q7 e (.au β 0 n) (.int k 1) d fr hp K=K (ae fr d (.mp β 1 0)) hp:=by rw[Ek (by omega) (by omega) he];rfl
theorem ain{fr:Fr}{hp:HP}{K:Qh}{e d β n:Nat}{k:IntKind}(h:2<n)(he:(hp β).map (·.e)=some e):Q7 e (.au β 0 n) (.int k 2) d fr hp K=K (ae fr d (.mp β 2 0)) hp:=by rw[Ek (by omega) (by omega) he];rfl
attribute [go_sem] aij aik ail aim ain
end Go.FW
