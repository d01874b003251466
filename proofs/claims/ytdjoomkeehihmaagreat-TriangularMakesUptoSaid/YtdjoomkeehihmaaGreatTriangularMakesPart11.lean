/- Part 11 of the proof of TriangularMakes: W8, U5, FwUG. Own lemmas; no conditions. -/
import Derived.Test.YtdjoomkeehihmaaGreatTriangularMakesPart10
set_option maxHeartbeats 1000000
set_option linter.unusedSimpArgs false
set_option linter.unusedVariables false
set_option linter.unnecessarySimpa false
set_option maxRecDepth 100000
namespace Go.Proofs.YtdjoomkeehihmaaGreat
open Go Go.FW
theorem DE(a b:List Int):jM 0 a b=aR a b:=by unfold jM;rw[if_neg (by simp)]
structure Smd(n v:Nat)(e:Nat)(l:List bc)(p:List Tm):Prop where
 q:p=l.map bc.tm
 eq:PV.kG l=PV.aj p
 ml:∀t∈p,t.2.length<=v
 va:rf p
 b:PB 5 e p
 ln:p.length<=n
theorem SB{l:List bc}{k n v e:Nat}(hb:∀t∈l,RB k t)(h:kN n v e l=true):Smd n v e l (l.map bc.tm):=by
 simp only[kN,Kat,decide_eq_true_eq,Kax]at h;obtain⟨h1,h2,h3⟩:=h;obtain⟨e1,e2⟩:=Tu hb h3;refine⟨rfl,e1,fun t ht=>?_,e2,fun t ht=>?_,by simpa using h1⟩
 rotate_left
 ·obtain⟨x,hx,rfl⟩:=KaI.1 ht;have hs:=h2 x hx;simp only[l9,Kat,decide_eq_true_eq,Kax]at hs;have hv:=e2.t _ ht;have hr:=(show Raw 4 x.n x.a x.d from⟨(hb x hx).r.1,(hb x hx).r.2.1,hs.2.1,hs.2.2.1,by omega⟩).rs;have hm:=MB.uk hv.m;refine⟨?_,⟨hm.len,hm.lo,fun y hy=>hs.2.2.2 y hy⟩,Rw hv.m⟩;show rs (rv x.n x.a x.d)+1<=5;omega
 ·obtain⟨x,hx,rfl⟩:=KaI.1 ht;have hs:=h2 x hx;simp only[l9,Kat,decide_eq_true_eq,Kax]at hs;exact hs.1
end Go.Proofs.YtdjoomkeehihmaaGreat
namespace Go.FW
open Go
def Bx(K E:Nat)(p:List Tm):Bool:=p.all fun t=>decide (rs t.1+1<=K)&&(decide (t.2.length<=64)&&((t.2.all fun x=>decide (0<=x)&&decide (x<=E))&&decide (t.2.getLast? ≠some 0)))
theorem dh{K E:Nat}{p:List Tm}(h:Bx K E p=true):PB K E p:=fun t ht=>by have:=Kax.1 h t ht;simp only[Kat,decide_eq_true_eq,Kax]at this;obtain⟨h1,h2,h3,h4⟩:=this;exact⟨h1,⟨h2,fun x hx=>(h3 x hx).1,fun x hx=>(h3 x hx).2⟩,h4⟩
def BP:List Tm->Bool
 | []=>true
 |t::p=>(p.all fun s=>decide (0<aR t.2 s.2))&&BP p
theorem OB:∀ {p:List Tm},BP p=true->eR p
 | [],_=>trivial
 |t::p,h=>by simp only[BP,Kat,Kax,decide_eq_true_eq]at h;exact⟨h.1,OB h.2⟩
def BV(p:List Tm):Bool:=(p.all fun t=>decide (t.1≠0)&&decide (t.2.getLast? ≠some 0))&&BP p
theorem s9{p:List Tm}(h:BV p=true):aC p:=by simp only[BV,Kat,Kax,decide_eq_true_eq]at h;exact⟨fun t ht=>(h.1 t ht).2,fun t ht=>(h.1 t ht).1,OB h.2⟩
end Go.FW
