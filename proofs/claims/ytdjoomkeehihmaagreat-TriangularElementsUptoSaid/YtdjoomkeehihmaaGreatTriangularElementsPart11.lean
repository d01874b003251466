/- Part 11 of the proof of TriangularElements: W8, U5, FwUG. Own lemmas; no conditions. -/
import Derived.Test.YtdjoomkeehihmaaGreatTriangularElementsPart10
set_option maxHeartbeats 1000000
set_option linter.unusedSimpArgs false
set_option linter.unusedVariables false
set_option linter.unnecessarySimpa false
set_option maxRecDepth 100000
namespace Go.Proofs.YtdjoomkeehihmaaGreat
open Go Go.FW
theorem Ek(a b:List Int):jU 0 a b=aR a b:=by unfold jU;rw[if_neg (by simp)]
structure Smd(n v:Nat)(e:Nat)(l:List aZ)(p:List Tm):Prop where
 q:p=l.map aZ.tm
 eq:PV.kp l=PV.aj p
 ml:∀t∈p,t.2.length<=v
 va:rE p
 b:PB 5 e p
 ln:p.length<=n
theorem Tc{l:List aZ}{k n v e:Nat}(hb:∀t∈l,RB k t)(h:kW n v e l=true):Smd n v e l (l.map aZ.tm):=by
 simp only[kW,Kat,decide_eq_true_eq,Kay]at h;obtain⟨h1,h2,h3⟩:=h;obtain⟨e1,e2⟩:=Hl hb h3;refine⟨rfl,e1,fun t ht=>?_,e2,fun t ht=>?_,by simpa using h1⟩
 rotate_left
 ·obtain⟨x,hx,rfl⟩:=KaE.1 ht;have hs:=h2 x hx;simp only[mo,Kat,decide_eq_true_eq,Kay]at hs;have hv:=e2.t _ ht;have hr:=(show Raw 4 x.n x.a x.d from⟨(hb x hx).r.1,(hb x hx).r.2.1,hs.2.1,hs.2.2.1,by omega⟩).rs;have hm:=MB.uI hv.m;refine⟨?_,⟨hm.len,hm.lo,fun y hy=>hs.2.2.2 y hy⟩,Su hv.m⟩;show rs (rv x.n x.a x.d)+1<=5;omega
 ·obtain⟨x,hx,rfl⟩:=KaE.1 ht;have hs:=h2 x hx;simp only[mo,Kat,decide_eq_true_eq,Kay]at hs;exact hs.1
end Go.Proofs.YtdjoomkeehihmaaGreat
namespace Go.FW
open Go
def BR(K E:Nat)(p:List Tm):Bool:=p.all fun t=>decide (rs t.1+1<=K)&&(decide (t.2.length<=64)&&((t.2.all fun x=>decide (0<=x)&&decide (x<=E))&&decide (t.2.getLast? ≠some 0)))
theorem dm{K E:Nat}{p:List Tm}(h:BR K E p=true):PB K E p:=fun t ht=>by have:=Kay.1 h t ht;simp only[Kat,decide_eq_true_eq,Kay]at this;obtain⟨h1,h2,h3,h4⟩:=this;exact⟨h1,⟨h2,fun x hx=>(h3 x hx).1,fun x hx=>(h3 x hx).2⟩,h4⟩
def Cb:List Tm->Bool
 | []=>true
 |t::p=>(p.all fun s=>decide (0<aR t.2 s.2))&&Cb p
theorem PM:∀ {p:List Tm},Cb p=true->e9 p
 | [],_=>trivial
 |t::p,h=>by simp only[Cb,Kat,Kay,decide_eq_true_eq]at h;exact⟨h.1,PM h.2⟩
def Ci(p:List Tm):Bool:=(p.all fun t=>decide (t.1≠0)&&decide (t.2.getLast? ≠some 0))&&Cb p
theorem tG{p:List Tm}(h:Ci p=true):au p:=by simp only[Ci,Kat,Kay,decide_eq_true_eq]at h;exact⟨fun t ht=>(h.1 t ht).2,fun t ht=>(h.1 t ht).1,PM h.2⟩
end Go.FW
