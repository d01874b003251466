/- Part 13 of the proof of DiscoverHolds: DB, FwVG. Own lemmas; no conditions. -/
import Derived.Test.YtmkijkjaeljieaaGreatDiscoverHoldsPart12
set_option maxHeartbeats 1000000
set_option linter.unusedSimpArgs false
set_option linter.unusedVariables false
set_option linter.unnecessarySimpa false
set_option maxRecDepth 100000
namespace Go.Proofs.YtmkijkjaeljieaaGreat
open Tryz
open Go Go.FW
abbrev Pt:=Rat×Rat
abbrev PV.aH(p:Pt):PV:=.agg [.bool (decide (p.1.num<0)),PV.num p.1.num.natAbs,PV.num p.1.den,.bool (decide (p.2.num<0)),PV.num p.2.num.natAbs,PV.num p.2.den]
def aF(k:Nat)(p:Pt):Prop:=rs p.1<=k/\rs p.2<=k
def kL(p q:Pt):Pt:=(q.1-p.1,q.2-p.2)
def Bo(u v:Pt):Rat:=u.1*v.2-u.2*v.1
def yL(u v:Pt):Rat:=u.1*v.1+u.2*v.2
def dy(a b c d:Pt):Rat:=Bo (kL a b) (kL c d)
def aW(a b c d:Pt):Rat:=yL (kL a b) (kL c d)
theorem nk{p q:Pt}{k:Nat}(hp:aF k p)(hq:aF k q):aF (2*k+1) (kL p q):=by have h1:=uU q.1 p.1;have h2:=uU q.2 p.2;obtain⟨a,b⟩:=hp;obtain⟨c,d⟩:=hq;exact⟨by show rs (q.1-p.1)<=_;omega,by show rs (q.2-p.2)<=_;omega⟩
theorem apJ{u v:Pt}{k:Nat}(hu:aF k u)(hv:aF k v):rs (Bo u v)<=4*k+1:=by have h1:=fw u.1 v.2;have h2:=fw u.2 v.1;have h3:=uU (u.1*v.2) (u.2*v.1);obtain⟨a,b⟩:=hu;obtain⟨c,d⟩:=hv;show rs (u.1*v.2-u.2*v.1)<=_;omega
theorem apK{u v:Pt}{k:Nat}(hu:aF k u)(hv:aF k v):rs (yL u v)<=4*k+1:=by have h1:=fw u.1 v.1;have h2:=fw u.2 v.2;have h3:=pw (u.1*v.1) (u.2*v.2);obtain⟨a,b⟩:=hu;obtain⟨c,d⟩:=hv;show rs (u.1*v.1+u.2*v.2)<=_;omega
theorem Dk{p q:Pt}{k:Nat}(hp:aF k p)(hq:aF k q)(hk:k<=2^30):AC 186 [PV.aH p,PV.aH q] (· =PV.aH (kL p q)):=by have h1:=tk (a:=q.1) (b:=p.1) (k:=k) hq.1 hp.1 Oz;have h2:=tk (a:=q.2) (b:=p.2) (k:=k) hq.2 hp.2 Oz;obtain⟨p1,p2⟩:=p;obtain⟨q1,q2⟩:=q;simp only[kL]at h1 h2⊢;refine aw Qf func186 alq fun C hP=>?_;refine aq hP h1 ?_;refine aq hP h2 ?_;refine Sz0 ?_;refine bX ?_;refine Sz0 ?_;exact Qc rfl rfl
theorem CA{p q:Pt}{k:Nat}(hp:aF k p)(hq:aF k q)(hk:k<=2^30):AC 191 [PV.aH p,PV.aH q] (· =PV.aH (kL p q)):=by have h1:=uE (a:=q.1) (b:=p.1) (k:=k) hq.1 hp.1 Oz;have h2:=uE (a:=q.2) (b:=p.2) (k:=k) hq.2 hp.2 Oz;obtain⟨p1,p2⟩:=p;obtain⟨q1,q2⟩:=q;simp only[kL]at h1 h2⊢;refine aw Qf func191 alz fun C hP=>?_;refine aq hP h1 ?_;refine aq hP h2 ?_;refine Sz0 ?_;refine bX ?_;refine Sz0 ?_;exact Qc rfl rfl
theorem aio{u v:Pt}{k:Nat}(hu:aF k u)(hv:aF k v)(hk:k<=2^28):AC 187 [PV.aH u,PV.aH v] (· =PV.rat (Bo u v)):=by have m1:=fw u.1 v.2;have m2:=fw u.2 v.1;obtain⟨a1,a2⟩:=hu;obtain⟨b1,b2⟩:=hv;have h1:=qD (a:=u.1) (b:=v.2) (k:=k) a1 b2 Oz;have h2:=qD (a:=u.2) (b:=v.1) (k:=k) a2 b1 Oz;have h3:=tk (a:=u.1*v.2) (b:=u.2*v.1) (k:=2*k) Oz Oz Oz;obtain⟨u1,u2⟩:=u;obtain⟨v1,v2⟩:=v;simp only[Bo]at h1 h2 h3⊢;refine aw Qf func187 alr fun C hP=>?_;refine aq hP h1 ?_;refine aq hP h2 ?_;refine aq hP h3 ?_;refine Sz0 ?_;refine bX ?_;refine Sz0 ?_;exact Qc rfl rfl
theorem afU{u v:Pt}{k:Nat}(hu:aF k u)(hv:aF k v)(hk:k<=2^28):AC 190 [PV.aH u,PV.aH v] (· =PV.rat (Bo u v)):=by have m1:=fw u.1 v.2;have m2:=fw u.2 v.1;obtain⟨a1,a2⟩:=hu;obtain⟨b1,b2⟩:=hv;have h1:=pj (a:=u.1) (b:=v.2) (k:=k) a1 b2 Oz;have h2:=pj (a:=u.2) (b:=v.1) (k:=k) a2 b1 Oz;have h3:=uE (a:=u.1*v.2) (b:=u.2*v.1) (k:=2*k) Oz Oz Oz;obtain⟨u1,u2⟩:=u;obtain⟨v1,v2⟩:=v;simp only[Bo]at h1 h2 h3⊢;refine aw Qf func190 aly fun C hP=>?_;refine aq hP h1 ?_;refine aq hP h2 ?_;refine aq hP h3 ?_;refine Sz0 ?_;refine bX ?_;refine Sz0 ?_;exact Qc rfl rfl
theorem SP{u v:Pt}{k:Nat}(hu:aF k u)(hv:aF k v)(hk:k<=2^28):AC 188 [PV.aH u,PV.aH v] (· =PV.rat (yL u v)):=by have m1:=fw u.1 v.1;have m2:=fw u.2 v.2;obtain⟨a1,a2⟩:=hu;obtain⟨b1,b2⟩:=hv;have h1:=qD (a:=u.1) (b:=v.1) (k:=k) a1 b1 Oz;have h2:=qD (a:=u.2) (b:=v.2) (k:=k) a2 b2 Oz;have h3:=Gl (a:=u.1*v.1) (b:=u.2*v.2) (k:=2*k) Oz Oz Oz;obtain⟨u1,u2⟩:=u;obtain⟨v1,v2⟩:=v;simp only[yL]at h1 h2 h3⊢;refine aw Qf func188 als fun C hP=>?_;refine aq hP h1 ?_;refine aq hP h2 ?_;refine aq hP h3 ?_;refine Sz0 ?_;refine bX ?_;refine Sz0 ?_;exact Qc rfl rfl
theorem RG{u v:Pt}{k:Nat}(hu:aF k u)(hv:aF k v)(hk:k<=2^28):AC 192 [PV.aH u,PV.aH v] (· =PV.rat (yL u v)):=by have m1:=fw u.1 v.1;have m2:=fw u.2 v.2;obtain⟨a1,a2⟩:=hu;obtain⟨b1,b2⟩:=hv;have h1:=pj (a:=u.1) (b:=v.1) (k:=k) a1 b1 Oz;have h2:=pj (a:=u.2) (b:=v.2) (k:=k) a2 b2 Oz;have h3:=C1 (a:=u.1*v.1) (b:=u.2*v.2) (k:=2*k) Oz Oz Oz;obtain⟨u1,u2⟩:=u;obtain⟨v1,v2⟩:=v;simp only[yL]at h1 h2 h3⊢;refine aw Qf func192 alA fun C hP=>?_;refine aq hP h1 ?_;refine aq hP h2 ?_;refine aq hP h3 ?_;refine Sz0 ?_;refine bX ?_;refine Sz0 ?_;exact Qc rfl rfl
end Go.Proofs.YtmkijkjaeljieaaGreat
namespace Go.FW
open Go
variable {C : Ctx} {fr : Fr} {hp : HP} {w : World} {K R : Qg}
theorem HL{x y:RT}{sk:List It}(bd:fC R sk)(W:List (Nat×Nat))(B:List Nat)(M:Fr->HP->Prop)
  (h:rX C R x y (.el (ny W (eH B fr) M)::sk) (bu W fr (eH B fr)) hp) (hM:∀J hp,M J hp->vc C R sk (bu W J (eH B fr)) hp):rX C R x y sk fr hp:=by
 have key:∀(r:RT),vc C R (.o r:: .el (ny W (eH B fr) M)::sk) (bu W fr (eH B fr)) hp->vc C R (.o r::sk) fr hp:=by
  intro r hr;refine As (M:=ny W (eH B fr) M) ?_ _ [.o r] _ _ (Kae _) ?_
  ·rintro aC hp' ⟨J,h1,h2⟩;exact rC bd.1 _ _ _ _ _ _ (Kae _) bd.2 h1 (hM J hp' h2)
  ·exact rC bd.1 _ _ _ _ _ _ (Kae _) (.o r (.el Dc bd.2)) (Ru W B) hr
 exact⟨key x h.1,key y h.2⟩
def tl(piv:List Nat)(n:Nat):List Nat:=(List.range n).filter fun k=> !piv.contains k
end Go.FW
