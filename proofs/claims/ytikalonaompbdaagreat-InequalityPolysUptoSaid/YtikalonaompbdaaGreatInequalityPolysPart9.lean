/- Part 9 of the proof of InequalityPolys: K4, FwYD. Own lemmas; no conditions. -/
import Derived.Test.YtikalonaompbdaaGreatInequalityPolysPart8
set_option maxHeartbeats 1000000
set_option linter.all false
set_option maxRecDepth 100000
namespace Go.Proofs.YtikalonaompbdaaGreat
open Go.Proofs.Tryz
open Go Go.FW
def mS(s:Int)(b:Nat):List Vr:=if b=0 then []else if b=1 then [(1,s,0)]else [(1,s,0),(1,s,1)]
def mT(n b:Nat):Cd:=if b=0 then([],[])else if b=1 then(bJ n,[])else(bJ n,bJ (n+1:Nat))
def ac9{cs:List Cd}{vs:List Vr}{s:Int}{b:Nat}(hv:vs.length<62)(hb:b<1000):
  sR 161 cs vs (vs++mS s b) [.int .i64 s,.int .i64 b] (PV.bj (mT vs.length b)):=by
 have h1:=AO (cs:=cs) (vs:=vs) (k:=1) (s:=s) (m:=0) Oz;have h2:=AO (cs:=cs) (vs:=vs++[(1,s,0)]) (k:=1) (s:=s) (m:=1) (by simp;omega);have e1:(vs++[(1,s,0)]).length=vs.length+1:=by simp
 have e2:vs++[(1,s,0)]++[(1,s,1)]=vs++[(1,s,0),(1,s,1)]:=by simp
 have e3:(vs++[(1,s,0),(1,s,1)]).length=vs.length+1+1:=by simp
 rw[sR,e2,e1,e3]at h2;rw[sR,e1]at h1;rcases(by omega:b=0\/b=1\/2<=b)with rfl|rfl|hb2
 .rw[show vs++mS s 0=vs by simp[mS],show mT vs.length 0=([],[])from rfl];refine jd Qd func161 rfl JZ Nz λC hP=>?_;simp only[Ih];refine cC ?_;refine Sz0 ?_;refine bV (kv 6 2000010 Qw Oz rfl Oz) ?_;refine Sz0 ?_;refine bV (me (γ:=2000010) (e:=2) (ty:=76) (xs:=[.agg [.aa,.aa]]) (fz:=false) Tz0 (by simp) Oz (λx hx=>by rw[Kax.1 hx];rfl)) ?_;refine Sz0 ?_;refine bV (J6 (O:=8) (ty:=81) (e:=4) (e':=4) Tz0) ?_;refine Sz0 ?_;refine fU ?_ ?_
  all_goals
   refine Sz0 ?_;refine sv (γ:=2000010) (ty:=76) (n:=cs.length) (m:=vs.length) Tz0 Tz0 (q:=PV.bj ([],[])) Qw rfl ⟨by rfl,by simp+decide (disch:=try exact D0) only[go_sem],by simp+decide (disch:=try exact D0) only[go_sem]⟩
 .rw[show mS s 1=[(1,s,0)]from rfl,show mT vs.length 1=(bJ vs.length,[])from rfl];refine jd Qd func161 rfl JZ Nz λC hP=>?_;simp only[Ih];refine cC ?_;refine Sz0 ?_;refine bV (kv 6 2000010 Qw Oz rfl Oz) ?_;refine Sz0 ?_;refine bV (me (γ:=2000010) (e:=2) (ty:=76) (xs:=[.agg [.aa,.aa]]) (fz:=false) Tz0 (by simp) Oz (λx hx=>by rw[Kax.1 hx];rfl)) ?_;refine Sz0 ?_;refine bV (J6 (O:=8) (ty:=81) (e:=4) (e':=4) Tz0) ?_;refine Sz0 ?_;refine bV (AF (γ:=4000003) (e:=2) (ty:=76) (cs:=[.aD 2000000 0 cs.length,.aD 2000001 0 vs.length]) Tz0) ?_;refine Sz0 ?_;refine sB hP h1 Tz0 Tz0 rfl rfl rfl (by simp) ?_;refine Sz0 ?_;refine fU ?_ ?_
  all_goals
   refine Sz0 ?_;refine sv (γ:=2000010) (ty:=76) (n:=cs.length) (m:=(vs.length+1)) Tz0 Tz0 (q:=PV.bj (bJ vs.length,[])) Qw rfl ⟨by rw[e1],by simp+decide (disch:=try exact D0) only[go_sem],by simp+decide (disch:=try exact D0) only[go_sem]⟩
 .rw[show mS s b=[(1,s,0),(1,s,1)]by unfold mS;rw[if_neg Oz,if_neg Oz],show mT vs.length b=(bJ vs.length,bJ (vs.length+1:Nat))by unfold mT;rw[if_neg Oz,if_neg Oz]];have d1:decide (0<(b:Int))=true:=decide_eq_true Oz;have d2:decide (1<(b:Int))=true:=decide_eq_true Oz;refine jd Qd func161 rfl JZ Nz λC hP=>?_;simp only[Ih];refine cC ?_;refine Sz0 ?_;refine bV (kv 6 2000010 Qw Oz rfl Oz) ?_;refine Sz0 ?_;refine bV (me (γ:=2000010) (e:=2) (ty:=76) (xs:=[.agg [.aa,.aa]]) (fz:=false) Tz0 (by simp) Oz (λx hx=>by rw[Kax.1 hx];rfl)) ?_;refine Sz0 ?_;refine bV (J6 (O:=8) (ty:=81) (e:=4) (e':=4) Tz0) ?_;refine Sz1 d1 ?_;refine bV (AF (γ:=4000003) (e:=2) (ty:=76) (cs:=[.aD 2000000 0 cs.length,.aD 2000001 0 vs.length]) Tz0) ?_;refine Sz0 ?_;refine sB hP h1 Tz0 Tz0 rfl rfl rfl (by simp) ?_;refine Sz1 d2 ?_;refine bV (AF (γ:=4000003) (e:=2) (ty:=76) (cs:=[.aD 2000000 0 cs.length,.aD 2000001 0 (vs.length+1)]) Tz0) ?_;refine Sz0 ?_;refine sB hP h2 Tz0 Tz0 rfl rfl rfl (by simp) ?_;refine Sz0 ?_;refine fU ?_ ?_
  all_goals
   refine Sz0 ?_;refine sv (γ:=2000010) (ty:=76) (n:=cs.length) (m:=(vs.length+1+1)) Tz0 Tz0 (q:=PV.bj (bJ vs.length,bJ (vs.length+1:Nat))) Qw rfl ⟨by rw[e3],by simp+decide (disch:=try exact D0) only[go_sem],by simp+decide (disch:=try exact D0) only[go_sem]⟩
end Go.Proofs.YtikalonaompbdaaGreat
namespace Go.FW
open Go
variable{E O T d e j len o:Nat}{K:Qf}{a:Rat}{fr:Fr}{hp:HP}{k:IntKind}{p:List Tm}
structure PQ(T K E:Nat)(p:List Tm):Prop where
 l:p.length<=T
 b:PB K E p
 n:cu p
def PQ.mono{T K E T' K' E':Nat}{p:List Tm}(h:PQ T K E p)(h1:T<=T')(h2:K<=K')(h3:E<=E'):PQ T' K' E' p:=⟨KaK h.l h1,h.b.mono h2 h3,h.n⟩
def PQ.nil{T K E:Nat}:PQ T K E []:=⟨KbK _,PB.nil _ _,cu.nil⟩
def PQ.add{K S L:Nat}{q:List Tm}(hp:PQ T K E p)(hq:PQ S L E q):PQ (T+S) (K+L) E (Qp p q):=
 ⟨by have:=Gl p q;have:=hp.l;have:=hq.l;omega,Hw _ _ hp.b hq.b,yG hp.n hq.n⟩
def PQ.scale{K L:Nat}(hp:PQ T K E p)(ha:rs a+1<=L):PQ T (K+L) E (ee p a):=
 ⟨KaK (FZ _ _) hp.l,Mj hp.b ha,ri hp.n.s _⟩
def PQ.mul{K S L F:Nat}{q:List Tm}(hp:PQ T K E p)(hq:PQ S L F q):PQ (T*S) (min T S*(K+L)) (E+F) (dD p q):=by obtain⟨h1,h2⟩:=GD hp.b hq.b;refine⟨KaK h2 (KaZ hp.l hq.l),h1.mono (Kap _ ?_) (Kag _),yH hp.n.s hq.n.s⟩;have:=hp.l;have:=hq.l;omega
def PQ.sub{K S L:Nat}{q:List Tm}(hp:PQ T K E p)(hq:PQ S L E q):PQ (T+S) (K+(L+2)) E (bX p q):=hp.add (hq.scale (by have:=FE;omega))
def PQ.var{v:Nat}:PQ 1 4 1 (bJ v):=by
 unfold bJ;split
 .exact PQ.nil
 .rename_i h;refine⟨by simp,λt ht=>?_,cu.one (t:=(1,rJ (v:Int).toNat)) (show(1:Rat)≠0 by decide) (by simp[rJ])⟩;simp only[Kax]at ht;subst ht;refine⟨by have:=ph;show rs 1+1<=4;omega,⟨?_,?_,?_⟩,?_⟩
  .simp[rJ];omega
  .intro x hx;simp[rJ]at hx;omega
  .intro x hx;simp[rJ]at hx;omega
  .simp[rJ]
def PQ.const{k:Nat}(h:rs a+1<=k):PQ 1 k 0 (mc a):=by
 refine⟨by unfold mc;split<;>simp,?_,LQ a⟩;unfold mc;split
 .exact PB.nil _ _
 .intro t ht;simp only[Kax]at ht;subst ht;exact⟨h,⟨by simp,by simp,by simp⟩,by simp⟩
def ada(h:0<len):rB len e (.mp O j o) (.int k 0) d fr hp K=K (ae fr d (.mp O j o)) hp:=by simp[rB,h]
def adb(h:1<len):rB len e (.mp O j o) (.int k 1) d fr hp K=K (ae fr d (.mp O j (o+e))) hp:=by simp[rB];omega
def ade{n:Nat}(h:0<n)(he:(hp O).map (·.e)=some e):ej e (.aD O 0 n) (.int k 0) d fr hp K=K (ae fr d (.mp O 0 0)) hp:=by rw[HT Oz Oz he];rfl
def adf{n:Nat}(h:1<n)(he:(hp O).map (·.e)=some e):ej e (.aD O 0 n) (.int k 1) d fr hp K=K (ae fr d (.mp O 1 0)) hp:=by rw[HT Oz Oz he];rfl
def adg{n:Nat}(h:2<n)(he:(hp O).map (·.e)=some e):ej e (.aD O 0 n) (.int k 2) d fr hp K=K (ae fr d (.mp O 2 0)) hp:=by rw[HT Oz Oz he];rfl
attribute [go_sem] ada adb ade adf adg
end Go.FW
