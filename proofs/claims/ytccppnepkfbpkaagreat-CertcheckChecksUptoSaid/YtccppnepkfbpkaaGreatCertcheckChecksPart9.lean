/- Part 9 of the proof of CertcheckChecks: K4, FwYD. Own lemmas; no conditions. -/
import Derived.Test.YtccppnepkfbpkaaGreatCertcheckChecksPart8
set_option maxHeartbeats 1000000
set_option linter.unusedSimpArgs false
set_option linter.unusedVariables false
set_option linter.unnecessarySimpa false
set_option maxRecDepth 100000
namespace Go.Proofs.YtccppnepkfbpkaaGreat
open Go Go.FW
def qX(s:Int)(b:Nat):List Vr:=if b=0 then []else if b=1 then [(1,s,0)]else [(1,s,0),(1,s,1)]
def sE(n b:Nat):Cd:=if b=0 then([],[])else if b=1 then(Qx n,[])else(Qx n,Qx (n+1:Nat))
theorem ahe{cs:List Cd}{vs:List Vr}{s:Int}{b:Nat}(hv:vs.length<62)(hb:b<1000):
  pW 130 cs vs (vs++qX s b) [.int .i64 s,.int .i64 b] (PV.aC (sE vs.length b)):=by
 have h1:=xt (cs:=cs) (vs:=vs) (k:=1) (s:=s) (m:=0) (by omega);have h2:=xt (cs:=cs) (vs:=vs++[(1,s,0)]) (k:=1) (s:=s) (m:=1) (by simp;omega);have e1:(vs++[(1,s,0)]).length=vs.length+1:=by simp
 have e2:vs++[(1,s,0)]++[(1,s,1)]=vs++[(1,s,0),(1,s,1)]:=by simp
 have e3:(vs++[(1,s,0),(1,s,1)]).length=vs.length+1+1:=by simp
 rw[pW,e2,e1,e3]at h2;rw[pW,e1]at h1;rcases(by omega:b=0∨b=1∨2<=b)with rfl|rfl|dv
 ·rw[show vs++qX s 0=vs by simp[qX],show sE vs.length 0=([],[])from rfl];refine xa Qh Tryz.func130 rfl Im Nz fun C hP=>?_;simp only[Ch];refine dO ?_;refine Sz0 ?_;refine bT (pQ 6 2000010 bc (by omega) rfl (by omega)) ?_;refine Sz0 ?_;refine bT (pN (γ:=2000010) (e:=2) (ty:=30) (xs:=[.agg [.aa,.aa]]) (fz:=false) Tz0 (by simp) (by omega) (fun x hx=>by rw[Kaw.1 hx];rfl)) ?_;refine Sz0 ?_;refine bT (Io (β:=8) (ty:=135) (e:=4) (e':=4) Tz0) ?_;refine Sz0 ?_;refine dI ?_ ?_
  all_goals
   refine Sz0 ?_;refine pJ (γ:=2000010) (ty:=30) (n:=cs.length) (m:=vs.length) Tz0 Tz0 (q:=PV.aC ([],[])) bc rfl ⟨by rfl,by simp+decide (disch:=try exact D0) only[go_sem],by simp+decide (disch:=try exact D0) only[go_sem]⟩
 ·rw[show qX s 1=[(1,s,0)]from rfl,show sE vs.length 1=(Qx vs.length,[])from rfl];refine xa Qh Tryz.func130 rfl Im Nz fun C hP=>?_;simp only[Ch];refine dO ?_;refine Sz0 ?_;refine bT (pQ 6 2000010 bc (by omega) rfl (by omega)) ?_;refine Sz0 ?_;refine bT (pN (γ:=2000010) (e:=2) (ty:=30) (xs:=[.agg [.aa,.aa]]) (fz:=false) Tz0 (by simp) (by omega) (fun x hx=>by rw[Kaw.1 hx];rfl)) ?_;refine Sz0 ?_;refine bT (Io (β:=8) (ty:=135) (e:=4) (e':=4) Tz0) ?_;refine Sz0 ?_;refine bT (xb (γ:=4000003) (e:=2) (ty:=30) (cs:=[.aw 2000000 0 cs.length,.aw 2000001 0 vs.length]) Tz0) ?_;refine Sz0 ?_;refine pM hP h1 Tz0 Tz0 rfl rfl rfl (by simp) ?_;refine Sz0 ?_;refine dI ?_ ?_
  all_goals
   refine Sz0 ?_;refine pJ (γ:=2000010) (ty:=30) (n:=cs.length) (m:=(vs.length+1)) Tz0 Tz0 (q:=PV.aC (Qx vs.length,[])) bc rfl ⟨by rw[e1],by simp+decide (disch:=try exact D0) only[go_sem],by simp+decide (disch:=try exact D0) only[go_sem]⟩
 ·rw[show qX s b=[(1,s,0),(1,s,1)]by unfold qX;rw[if_neg (by omega),if_neg (by omega)],show sE vs.length b=(Qx vs.length,Qx (vs.length+1:Nat))by unfold sE;rw[if_neg (by omega),if_neg (by omega)]];have d1:decide (0<(b:Int))=true:=decide_eq_true (by omega);have d2:decide (1<(b:Int))=true:=decide_eq_true (by omega);refine xa Qh Tryz.func130 rfl Im Nz fun C hP=>?_;simp only[Ch];refine dO ?_;refine Sz0 ?_;refine bT (pQ 6 2000010 bc (by omega) rfl (by omega)) ?_;refine Sz0 ?_;refine bT (pN (γ:=2000010) (e:=2) (ty:=30) (xs:=[.agg [.aa,.aa]]) (fz:=false) Tz0 (by simp) (by omega) (fun x hx=>by rw[Kaw.1 hx];rfl)) ?_;refine Sz0 ?_;refine bT (Io (β:=8) (ty:=135) (e:=4) (e':=4) Tz0) ?_;refine Sz1 d1 ?_;refine bT (xb (γ:=4000003) (e:=2) (ty:=30) (cs:=[.aw 2000000 0 cs.length,.aw 2000001 0 vs.length]) Tz0) ?_;refine Sz0 ?_;refine pM hP h1 Tz0 Tz0 rfl rfl rfl (by simp) ?_;refine Sz1 d2 ?_;refine bT (xb (γ:=4000003) (e:=2) (ty:=30) (cs:=[.aw 2000000 0 cs.length,.aw 2000001 0 (vs.length+1)]) Tz0) ?_;refine Sz0 ?_;refine pM hP h2 Tz0 Tz0 rfl rfl rfl (by simp) ?_;refine Sz0 ?_;refine dI ?_ ?_
  all_goals
   refine Sz0 ?_;refine pJ (γ:=2000010) (ty:=30) (n:=cs.length) (m:=(vs.length+1+1)) Tz0 Tz0 (q:=PV.aC (Qx vs.length,Qx (vs.length+1:Nat))) bc rfl ⟨by rw[e3],by simp+decide (disch:=try exact D0) only[go_sem],by simp+decide (disch:=try exact D0) only[go_sem]⟩
end Go.Proofs.YtccppnepkfbpkaaGreat
namespace Go.FW
open Go
structure PQ(T K E:Nat)(p:List Tm):Prop where
 l:p.length<=T
 b:PB K E p
 n:bf p
theorem PQ.mono{T K E T' K' E':Nat}{p:List Tm}(h:PQ T K E p)(h1:T<=T')(h2:K<=K')(h3:E<=E'):PQ T' K' E' p:=⟨KaO h.l h1,h.b.mono h2 h3,h.n⟩
theorem PQ.nil{T K E:Nat}:PQ T K E []:=⟨KbL _,PB.nil _ _,bf.nil⟩
theorem PQ.add{T K S L E:Nat}{p q:List Tm}(hp:PQ T K E p)(hq:PQ S L E q):PQ (T+S) (K+L) E (Qq p q):=
 ⟨by have:=GM p q;have:=hp.l;have:=hq.l;omega,DJ _ _ hp.b hq.b,vb hp.n hq.n⟩
theorem PQ.scale{T K L E:Nat}{p:List Tm}{a:Rat}(hp:PQ T K E p)(ha:rs a+1<=L):PQ T (K+L) E (dS p a):=
 ⟨KaO (NJ _ _) hp.l,P8 hp.b ha,oI hp.n.s _⟩
theorem PQ.mul{T K S L E F:Nat}{p q:List Tm}(hp:PQ T K E p)(hq:PQ S L F q):PQ (T*S) (min T S*(K+L)) (E+F) (Q8 p q):=by obtain⟨h1,h2⟩:=Hb hp.b hq.b;refine⟨KaO h2 (KbO hp.l hq.l),h1.mono (Kam _ ?_) (Kae _),tH hp.n.s hq.n.s⟩;have:=hp.l;have:=hq.l;omega
theorem PQ.sub{T K S L E:Nat}{p q:List Tm}(hp:PQ T K E p)(hq:PQ S L E q):PQ (T+S) (K+(L+2)) E (bK p q):=hp.add (hq.scale (by have:=BU;omega))
theorem PQ.var{v:Nat}:PQ 1 4 1 (Qx v):=by
 unfold Qx;split
 ·exact PQ.nil
 ·rename_i h;refine⟨by simp,fun t ht=>?_,bf.one (t:=(1,sJ (v:Int).toNat)) (show(1:Rat)≠0 by decide) (by simp[sJ])⟩;simp only[Kaw]at ht;subst ht;refine⟨by have:=pV;show rs 1+1<=4;omega,⟨?_,?_,?_⟩,?_⟩
  ·simp[sJ];omega
  ·intro x hx;simp[sJ]at hx;omega
  ·intro x hx;simp[sJ]at hx;omega
  ·simp[sJ]
theorem PQ.const{a:Rat}{k:Nat}(h:rs a+1<=k):PQ 1 k 0 (cD a):=by
 refine⟨by unfold cD;split<;>simp,?_,CO a⟩;unfold cD;split
 ·exact PB.nil _ _
 ·intro t ht;simp only[Kaw]at ht;subst ht;exact⟨h,⟨by simp,by simp,by simp⟩,by simp⟩
theorem ahf{fr:Fr}{hp:HP}{K:Qi}{len e β j o d:Nat}{k:IntKind}(h:0<len):jI len e (.mp β j o) (.int k 0) d fr hp K=K (ab fr d (.mp β j o)) hp:=by simp[jI,h]
theorem ahg{fr:Fr}{hp:HP}{K:Qi}{len e β j o d:Nat}{k:IntKind}(h:1<len):jI len e (.mp β j o) (.int k 1) d fr hp K=K (ab fr d (.mp β j (o+e))) hp:=by simp[jI];omega
theorem ahh{fr:Fr}{hp:HP}{K:Qi}{e d β n:Nat}{k:IntKind}(h:0<n)(he:(hp β).map (·.e)=some e):Q7 e (.aw β 0 n) (.int k 0) d fr hp K=K (ab fr d (.mp β 0 0)) hp:=by rw[DX (by omega) (by omega) he];rfl
theorem ahi{fr:Fr}{hp:HP}{K:Qi}{e d β n:Nat}{k:IntKind}(h:1<n)(he:(hp β).map (·.e)=some e):Q7 e (.aw β 0 n) (.int k 1) d fr hp K=K (ab fr d (.mp β 1 0)) hp:=by rw[DX (by omega) (by omega) he];rfl
theorem ahj{fr:Fr}{hp:HP}{K:Qi}{e d β n:Nat}{k:IntKind}(h:2<n)(he:(hp β).map (·.e)=some e):Q7 e (.aw β 0 n) (.int k 2) d fr hp K=K (ab fr d (.mp β 2 0)) hp:=by rw[DX (by omega) (by omega) he];rfl
attribute [go_sem] ahf ahg ahh ahi ahj
end Go.FW
