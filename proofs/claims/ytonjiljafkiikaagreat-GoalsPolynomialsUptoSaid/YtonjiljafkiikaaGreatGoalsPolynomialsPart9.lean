/- Part 9 of the proof of GoalsPolynomials: K4, FwYD. Own lemmas; no conditions. -/
import Derived.Test.YtonjiljafkiikaaGreatGoalsPolynomialsPart8
set_option maxHeartbeats 1000000
set_option linter.unusedSimpArgs false
set_option linter.unusedVariables false
set_option linter.unnecessarySimpa false
set_option maxRecDepth 100000
namespace Go.Proofs.YtonjiljafkiikaaGreat
open Go Go.FW
def nj(s:Int)(b:Nat):List Vr:=if b=0 then []else if b=1 then [(1,s,0)]else [(1,s,0),(1,s,1)]
def nZ(n b:Nat):Cd:=if b=0 then([],[])else if b=1 then(bX n,[])else(bX n,bX (n+1:Nat))
theorem XE{cs:List Cd}{vs:List Vr}{s:Int}{b:Nat}(hv:vs.length<62)(hb:b<1000):
  mr 53 cs vs (vs++nj s b) [.int .i64 s,.int .i64 b] (PV.ay (nZ vs.length b)):=by
 have h1:=su (cs:=cs) (vs:=vs) (k:=1) (s:=s) (m:=0) (by omega);have h2:=su (cs:=cs) (vs:=vs++[(1,s,0)]) (k:=1) (s:=s) (m:=1) (by simp;omega);have e1:(vs++[(1,s,0)]).length=vs.length+1:=by simp
 have e2:vs++[(1,s,0)]++[(1,s,1)]=vs++[(1,s,0),(1,s,1)]:=by simp
 have e3:(vs++[(1,s,0),(1,s,1)]).length=vs.length+1+1:=by simp
 rw[mr,e2,e1,e3]at h2;rw[mr,e1]at h1;rcases(by omega:b=0∨b=1∨2<=b)with rfl|rfl|cq
 ·rw[show vs++nj s 0=vs by simp[nj],show nZ vs.length 0=([],[])from rfl];refine rV Qh Tryz.func53 rfl CO (by simp[qM]) fun C hP=>?_;simp only[qM,Zo,Zg,Zm,Zc,Zf,Zl,Zh,Zs,Zi,Zb,Zk,Zn,Zu,Zq,Zr,Zz];refine Sz0 ?_;refine cO (ni 6 2000010 bd (by omega) rfl (by omega)) ?_;refine Sz0 ?_;refine cO (nc (γ:=2000010) (e:=2) (ty:=43) (xs:=[.agg [.aa,.aa]]) (fz:=false) Tz0 (by simp) (by omega) (fun x hx=>by rw[KaB.1 hx];rfl)) ?_;refine Sz0 ?_;refine cO (CJ (β:=8) (ty:=82) (e:=4) (e':=4) Tz0) ?_;refine Sz0 ?_;refine eV ?_ ?_
  all_goals
   refine Sz0 ?_;refine ma (γ:=2000010) (ty:=43) (n:=cs.length) (m:=vs.length) Tz0 Tz0 (q:=PV.ay ([],[])) bd rfl ⟨by rfl,by simp+decide (disch:=try exact D0) only[go_sem],by simp+decide (disch:=try exact D0) only[go_sem]⟩
 ·rw[show nj s 1=[(1,s,0)]from rfl,show nZ vs.length 1=(bX vs.length,[])from rfl];refine rV Qh Tryz.func53 rfl CO (by simp[qM]) fun C hP=>?_;simp only[qM,Zo,Zg,Zm,Zc,Zf,Zl,Zh,Zs,Zi,Zb,Zk,Zn,Zu,Zq,Zr,Zz];refine Sz0 ?_;refine cO (ni 6 2000010 bd (by omega) rfl (by omega)) ?_;refine Sz0 ?_;refine cO (nc (γ:=2000010) (e:=2) (ty:=43) (xs:=[.agg [.aa,.aa]]) (fz:=false) Tz0 (by simp) (by omega) (fun x hx=>by rw[KaB.1 hx];rfl)) ?_;refine Sz0 ?_;refine cO (CJ (β:=8) (ty:=82) (e:=4) (e':=4) Tz0) ?_;refine Sz0 ?_;refine cO (r9 (γ:=4000003) (e:=2) (ty:=43) (cs:=[.aq 2000000 0 cs.length,.aq 2000001 0 vs.length]) Tz0) ?_;refine Sz0 ?_;refine me hP h1 Tz0 Tz0 rfl rfl rfl (by simp) ?_;refine Sz0 ?_;refine eV ?_ ?_
  all_goals
   refine Sz0 ?_;refine ma (γ:=2000010) (ty:=43) (n:=cs.length) (m:=(vs.length+1)) Tz0 Tz0 (q:=PV.ay (bX vs.length,[])) bd rfl ⟨by rw[e1],by simp+decide (disch:=try exact D0) only[go_sem],by simp+decide (disch:=try exact D0) only[go_sem]⟩
 ·rw[show nj s b=[(1,s,0),(1,s,1)]by unfold nj;rw[if_neg (by omega),if_neg (by omega)],show nZ vs.length b=(bX vs.length,bX (vs.length+1:Nat))by unfold nZ;rw[if_neg (by omega),if_neg (by omega)]];have d1:decide (0<(b:Int))=true:=decide_eq_true (by omega);have d2:decide (1<(b:Int))=true:=decide_eq_true (by omega);refine rV Qh Tryz.func53 rfl CO (by simp[qM]) fun C hP=>?_;simp only[qM,Zo,Zg,Zm,Zc,Zf,Zl,Zh,Zs,Zi,Zb,Zk,Zn,Zu,Zq,Zr,Zz];refine Sz0 ?_;refine cO (ni 6 2000010 bd (by omega) rfl (by omega)) ?_;refine Sz0 ?_;refine cO (nc (γ:=2000010) (e:=2) (ty:=43) (xs:=[.agg [.aa,.aa]]) (fz:=false) Tz0 (by simp) (by omega) (fun x hx=>by rw[KaB.1 hx];rfl)) ?_;refine Sz0 ?_;refine cO (CJ (β:=8) (ty:=82) (e:=4) (e':=4) Tz0) ?_;refine Sz1 d1 ?_;refine cO (r9 (γ:=4000003) (e:=2) (ty:=43) (cs:=[.aq 2000000 0 cs.length,.aq 2000001 0 vs.length]) Tz0) ?_;refine Sz0 ?_;refine me hP h1 Tz0 Tz0 rfl rfl rfl (by simp) ?_;refine Sz1 d2 ?_;refine cO (r9 (γ:=4000003) (e:=2) (ty:=43) (cs:=[.aq 2000000 0 cs.length,.aq 2000001 0 (vs.length+1)]) Tz0) ?_;refine Sz0 ?_;refine me hP h2 Tz0 Tz0 rfl rfl rfl (by simp) ?_;refine Sz0 ?_;refine eV ?_ ?_
  all_goals
   refine Sz0 ?_;refine ma (γ:=2000010) (ty:=43) (n:=cs.length) (m:=(vs.length+1+1)) Tz0 Tz0 (q:=PV.ay (bX vs.length,bX (vs.length+1:Nat))) bd rfl ⟨by rw[e3],by simp+decide (disch:=try exact D0) only[go_sem],by simp+decide (disch:=try exact D0) only[go_sem]⟩
end Go.Proofs.YtonjiljafkiikaaGreat
namespace Go.FW
open Go
structure PQ(T K E:Nat)(p:List Tm):Prop where
 l:p.length<=T
 b:PB K E p
 n:cK p
theorem PQ.mono{T K E T' K' E':Nat}{p:List Tm}(h:PQ T K E p)(h1:T<=T')(h2:K<=K')(h3:E<=E'):PQ T' K' E' p:=⟨KaZ h.l h1,h.b.mono h2 h3,h.n⟩
theorem PQ.nil{T K E:Nat}:PQ T K E []:=⟨KbG _,PB.nil _ _,cK.nil⟩
theorem PQ.add{T K S L E:Nat}{p q:List Tm}(hp:PQ T K E p)(hq:PQ S L E q):PQ (T+S) (K+L) E (Q4 p q):=
 ⟨by have:=Bg p q;have:=hp.l;have:=hq.l;omega,CE _ _ hp.b hq.b,B2 hp.n hq.n⟩
theorem PQ.scale{T K L E:Nat}{p:List Tm}{a:Rat}(hp:PQ T K E p)(ha:rs a+1<=L):PQ T (K+L) E (eC p a):=
 ⟨KaZ (AX _ _) hp.l,JF hp.b ha,NB hp.n.s _⟩
theorem PQ.mul{T K S L E F:Nat}{p q:List Tm}(hp:PQ T K E p)(hq:PQ S L F q):PQ (T*S) (min T S*(K+L)) (E+F) (cz p q):=by obtain⟨h1,h2⟩:=NT hp.b hq.b;refine⟨KaZ h2 (KbU hp.l hq.l),h1.mono (Kam _ ?_) (Kag _),KG hp.n.s hq.n.s⟩;have:=hp.l;have:=hq.l;omega
theorem PQ.sub{T K S L E:Nat}{p q:List Tm}(hp:PQ T K E p)(hq:PQ S L E q):PQ (T+S) (K+(L+2)) E (cH p q):=hp.add (hq.scale (by have:=yI;omega))
theorem PQ.var{v:Nat}:PQ 1 4 1 (bX v):=by
 unfold bX;split
 ·exact PQ.nil
 ·rename_i h;refine⟨by simp,fun t ht=>?_,cK.one (t:=(1,pb (v:Int).toNat)) (show(1:Rat)≠0 by decide) (by simp[pb])⟩;simp only[KaB]at ht;subst ht;refine⟨by have:=MY;show rs 1+1<=4;omega,⟨?_,?_,?_⟩,?_⟩
  ·simp[pb];omega
  ·intro x hx;simp[pb]at hx;omega
  ·intro x hx;simp[pb]at hx;omega
  ·simp[pb]
theorem PQ.const{a:Rat}{k:Nat}(h:rs a+1<=k):PQ 1 k 0 (lz a):=by
 refine⟨by unfold lz;split<;>simp,?_,NC a⟩;unfold lz;split
 ·exact PB.nil _ _
 ·intro t ht;simp only[KaB]at ht;subst ht;exact⟨h,⟨by simp,by simp,by simp⟩,by simp⟩
theorem XF{fr:Fr}{hp:HP}{K:Qg}{len e β j o d:Nat}{k:IntKind}(h:0<len):nd len e (.mp β j o) (.int k 0) d fr hp K=K (ae fr d (.mp β j o)) hp:=by simp[nd,h]
theorem XG{fr:Fr}{hp:HP}{K:Qg}{len e β j o d:Nat}{k:IntKind}(h:1<len):nd len e (.mp β j o) (.int k 1) d fr hp K=K (ae fr d (.mp β j (o+e))) hp:=by simp[nd];omega
theorem XH{fr:Fr}{hp:HP}{K:Qg}{e d β n:Nat}{k:IntKind}(h:0<n)(he:(hp β).map (·.e)=some e):aK e (.aq β 0 n) (.int k 0) d fr hp K=K (ae fr d (.mp β 0 0)) hp:=by rw[yu (by omega) (by omega) he];rfl
theorem XI{fr:Fr}{hp:HP}{K:Qg}{e d β n:Nat}{k:IntKind}(h:1<n)(he:(hp β).map (·.e)=some e):aK e (.aq β 0 n) (.int k 1) d fr hp K=K (ae fr d (.mp β 1 0)) hp:=by rw[yu (by omega) (by omega) he];rfl
theorem XJ{fr:Fr}{hp:HP}{K:Qg}{e d β n:Nat}{k:IntKind}(h:2<n)(he:(hp β).map (·.e)=some e):aK e (.aq β 0 n) (.int k 2) d fr hp K=K (ae fr d (.mp β 2 0)) hp:=by rw[yu (by omega) (by omega) he];rfl
attribute [go_sem] XF XG XH XI XJ
end Go.FW
