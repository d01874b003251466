/- Part 9 of the proof of GoalsTrivial: K4, FwYD. Own lemmas; no conditions. -/
import Derived.Test.YtonjiljafkiikaaGreatGoalsTrivialPart8
set_option maxHeartbeats 1000000
set_option linter.unusedSimpArgs false
set_option linter.unusedVariables false
set_option linter.unnecessarySimpa false
set_option maxRecDepth 100000
namespace Go.Proofs.YtonjiljafkiikaaGreat
open Go Go.FW
def mK(s:Int)(b:Nat):List Vr:=if b=0 then []else if b=1 then [(1,s,0)]else [(1,s,0),(1,s,1)]
def nw(n b:Nat):Cd:=if b=0 then([],[])else if b=1 then(bV n,[])else(bV n,bV (n+1:Nat))
theorem VY{cs:List Cd}{vs:List Vr}{s:Int}{b:Nat}(hv:vs.length<62)(hb:b<1000):
  lU 53 cs vs (vs++mK s b) [.int .i64 s,.int .i64 b] (PV.bB (nw vs.length b)):=by
 have h1:=rH (cs:=cs) (vs:=vs) (k:=1) (s:=s) (m:=0) (by omega);have h2:=rH (cs:=cs) (vs:=vs++[(1,s,0)]) (k:=1) (s:=s) (m:=1) (by simp;omega);have e1:(vs++[(1,s,0)]).length=vs.length+1:=by simp
 have e2:vs++[(1,s,0)]++[(1,s,1)]=vs++[(1,s,0),(1,s,1)]:=by simp
 have e3:(vs++[(1,s,0),(1,s,1)]).length=vs.length+1+1:=by simp
 rw[lU,e2,e1,e3]at h2;rw[lU,e1]at h1;rcases(by omega:b=0∨b=1∨2<=b)with rfl|rfl|cl
 ·rw[show vs++mK s 0=vs by simp[mK],show nw vs.length 0=([],[])from rfl];refine rp Qk Tryz.func53 rfl Cw (by simp[qf]) fun C hP=>?_;simp only[qf,Zo,Zg,Zm,Zc,Zf,Zl,Zh,Zs,Zi,Zb,Zk,Zn,Zu,Zq,Zr,Zz];refine Sz0 ?_;refine cq (mJ 6 2000010 bA (by omega) rfl (by omega)) ?_;refine Sz0 ?_;refine cq (mF (γ:=2000010) (e:=2) (ty:=43) (xs:=[.agg [.aa,.aa]]) (fz:=false) Tz0 (by simp) (by omega) (fun x hx=>by rw[KaQ.1 hx];rfl)) ?_;refine Sz0 ?_;refine cq (B6 (β:=8) (ty:=82) (e:=4) (e':=4) Tz0) ?_;refine Sz0 ?_;refine iE ?_ ?_
  all_goals
   refine Sz0 ?_;refine lD (γ:=2000010) (ty:=43) (n:=cs.length) (m:=vs.length) Tz0 Tz0 (q:=PV.bB ([],[])) bA rfl ⟨by rfl,by simp+decide (disch:=try exact D0) only[go_sem],by simp+decide (disch:=try exact D0) only[go_sem]⟩
 ·rw[show mK s 1=[(1,s,0)]from rfl,show nw vs.length 1=(bV vs.length,[])from rfl];refine rp Qk Tryz.func53 rfl Cw (by simp[qf]) fun C hP=>?_;simp only[qf,Zo,Zg,Zm,Zc,Zf,Zl,Zh,Zs,Zi,Zb,Zk,Zn,Zu,Zq,Zr,Zz];refine Sz0 ?_;refine cq (mJ 6 2000010 bA (by omega) rfl (by omega)) ?_;refine Sz0 ?_;refine cq (mF (γ:=2000010) (e:=2) (ty:=43) (xs:=[.agg [.aa,.aa]]) (fz:=false) Tz0 (by simp) (by omega) (fun x hx=>by rw[KaQ.1 hx];rfl)) ?_;refine Sz0 ?_;refine cq (B6 (β:=8) (ty:=82) (e:=4) (e':=4) Tz0) ?_;refine Sz0 ?_;refine cq (ru (γ:=4000003) (e:=2) (ty:=43) (cs:=[.ao 2000000 0 cs.length,.ao 2000001 0 vs.length]) Tz0) ?_;refine Sz0 ?_;refine lH hP h1 Tz0 Tz0 rfl rfl rfl (by simp) ?_;refine Sz0 ?_;refine iE ?_ ?_
  all_goals
   refine Sz0 ?_;refine lD (γ:=2000010) (ty:=43) (n:=cs.length) (m:=(vs.length+1)) Tz0 Tz0 (q:=PV.bB (bV vs.length,[])) bA rfl ⟨by rw[e1],by simp+decide (disch:=try exact D0) only[go_sem],by simp+decide (disch:=try exact D0) only[go_sem]⟩
 ·rw[show mK s b=[(1,s,0),(1,s,1)]by unfold mK;rw[if_neg (by omega),if_neg (by omega)],show nw vs.length b=(bV vs.length,bV (vs.length+1:Nat))by unfold nw;rw[if_neg (by omega),if_neg (by omega)]];have d1:decide (0<(b:Int))=true:=decide_eq_true (by omega);have d2:decide (1<(b:Int))=true:=decide_eq_true (by omega);refine rp Qk Tryz.func53 rfl Cw (by simp[qf]) fun C hP=>?_;simp only[qf,Zo,Zg,Zm,Zc,Zf,Zl,Zh,Zs,Zi,Zb,Zk,Zn,Zu,Zq,Zr,Zz];refine Sz0 ?_;refine cq (mJ 6 2000010 bA (by omega) rfl (by omega)) ?_;refine Sz0 ?_;refine cq (mF (γ:=2000010) (e:=2) (ty:=43) (xs:=[.agg [.aa,.aa]]) (fz:=false) Tz0 (by simp) (by omega) (fun x hx=>by rw[KaQ.1 hx];rfl)) ?_;refine Sz0 ?_;refine cq (B6 (β:=8) (ty:=82) (e:=4) (e':=4) Tz0) ?_;refine Sz1 d1 ?_;refine cq (ru (γ:=4000003) (e:=2) (ty:=43) (cs:=[.ao 2000000 0 cs.length,.ao 2000001 0 vs.length]) Tz0) ?_;refine Sz0 ?_;refine lH hP h1 Tz0 Tz0 rfl rfl rfl (by simp) ?_;refine Sz1 d2 ?_;refine cq (ru (γ:=4000003) (e:=2) (ty:=43) (cs:=[.ao 2000000 0 cs.length,.ao 2000001 0 (vs.length+1)]) Tz0) ?_;refine Sz0 ?_;refine lH hP h2 Tz0 Tz0 rfl rfl rfl (by simp) ?_;refine Sz0 ?_;refine iE ?_ ?_
  all_goals
   refine Sz0 ?_;refine lD (γ:=2000010) (ty:=43) (n:=cs.length) (m:=(vs.length+1+1)) Tz0 Tz0 (q:=PV.bB (bV vs.length,bV (vs.length+1:Nat))) bA rfl ⟨by rw[e3],by simp+decide (disch:=try exact D0) only[go_sem],by simp+decide (disch:=try exact D0) only[go_sem]⟩
end Go.Proofs.YtonjiljafkiikaaGreat
namespace Go.FW
open Go
structure PQ(T K E:Nat)(p:List Tm):Prop where
 l:p.length<=T
 b:PB K E p
 n:bu p
theorem PQ.mono{T K E T' K' E':Nat}{p:List Tm}(h:PQ T K E p)(h1:T<=T')(h2:K<=K')(h3:E<=E'):PQ T' K' E' p:=⟨KaY h.l h1,h.b.mono h2 h3,h.n⟩
theorem PQ.nil{T K E:Nat}:PQ T K E []:=⟨KbE _,PB.nil _ _,bu.nil⟩
theorem PQ.add{T K S L E:Nat}{p q:List Tm}(hp:PQ T K E p)(hq:PQ S L E q):PQ (T+S) (K+L) E (Q2 p q):=
 ⟨by have:=AK p q;have:=hp.l;have:=hq.l;omega,B1 _ _ hp.b hq.b,wN hp.n hq.n⟩
theorem PQ.scale{T K L E:Nat}{p:List Tm}{a:Rat}(hp:PQ T K E p)(ha:rs a+1<=L):PQ T (K+L) E (er p a):=
 ⟨KaY (AE _ _) hp.l,H6 hp.b ha,wo hp.n.s _⟩
theorem PQ.mul{T K S L E F:Nat}{p q:List Tm}(hp:PQ T K E p)(hq:PQ S L F q):PQ (T*S) (min T S*(K+L)) (E+F) (bU p q):=by obtain⟨h1,h2⟩:=L6 hp.b hq.b;refine⟨KaY h2 (KbS hp.l hq.l),h1.mono (Kal _ ?_) (Kae _),nh hp.n.s hq.n.s⟩;have:=hp.l;have:=hq.l;omega
theorem PQ.sub{T K S L E:Nat}{p q:List Tm}(hp:PQ T K E p)(hq:PQ S L E q):PQ (T+S) (K+(L+2)) E (b6 p q):=hp.add (hq.scale (by have:=xD;omega))
theorem PQ.var{v:Nat}:PQ 1 4 1 (bV v):=by
 unfold bV;split
 ·exact PQ.nil
 ·rename_i h;refine⟨by simp,fun t ht=>?_,bu.one (t:=(1,oD (v:Int).toNat)) (show(1:Rat)≠0 by decide) (by simp[oD])⟩;simp only[KaQ]at ht;subst ht;refine⟨by have:=Lr;show rs 1+1<=4;omega,⟨?_,?_,?_⟩,?_⟩
  ·simp[oD];omega
  ·intro x hx;simp[oD]at hx;omega
  ·intro x hx;simp[oD]at hx;omega
  ·simp[oD]
theorem PQ.const{a:Rat}{k:Nat}(h:rs a+1<=k):PQ 1 k 0 (kK a):=by
 refine⟨by unfold kK;split<;>simp,?_,LO a⟩;unfold kK;split
 ·exact PB.nil _ _
 ·intro t ht;simp only[KaQ]at ht;subst ht;exact⟨h,⟨by simp,by simp,by simp⟩,by simp⟩
theorem VZ{fr:Fr}{hp:HP}{K:Qg}{len e β j o d:Nat}{k:IntKind}(h:0<len):mG len e (.mp β j o) (.int k 0) d fr hp K=K (ae fr d (.mp β j o)) hp:=by simp[mG,h]
theorem V'{fr:Fr}{hp:HP}{K:Qg}{len e β j o d:Nat}{k:IntKind}(h:1<len):mG len e (.mp β j o) (.int k 1) d fr hp K=K (ae fr d (.mp β j (o+e))) hp:=by simp[mG];omega
theorem Wa{fr:Fr}{hp:HP}{K:Qg}{e d β n:Nat}{k:IntKind}(h:0<n)(he:(hp β).map (·.e)=some e):cG e (.ao β 0 n) (.int k 0) d fr hp K=K (ae fr d (.mp β 0 0)) hp:=by rw[xp (by omega) (by omega) he];rfl
theorem Wb{fr:Fr}{hp:HP}{K:Qg}{e d β n:Nat}{k:IntKind}(h:1<n)(he:(hp β).map (·.e)=some e):cG e (.ao β 0 n) (.int k 1) d fr hp K=K (ae fr d (.mp β 1 0)) hp:=by rw[xp (by omega) (by omega) he];rfl
theorem Wc{fr:Fr}{hp:HP}{K:Qg}{e d β n:Nat}{k:IntKind}(h:2<n)(he:(hp β).map (·.e)=some e):cG e (.ao β 0 n) (.int k 2) d fr hp K=K (ae fr d (.mp β 2 0)) hp:=by rw[xp (by omega) (by omega) he];rfl
attribute [go_sem] VZ V' Wa Wb Wc
end Go.FW
