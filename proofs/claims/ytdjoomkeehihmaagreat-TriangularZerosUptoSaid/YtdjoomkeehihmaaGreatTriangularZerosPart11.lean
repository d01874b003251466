/- Part 11 of the proof of TriangularZeros: W8, U5, FwUG. Own lemmas; no conditions. -/
import Derived.Test.YtdjoomkeehihmaaGreatTriangularZerosPart10
set_option maxHeartbeats 1000000
set_option linter.unusedSimpArgs false
set_option linter.unusedVariables false
set_option linter.unnecessarySimpa false
set_option maxRecDepth 100000
namespace Go.Proofs.YtdjoomkeehihmaaGreat
open Go Go.FW
theorem ED(a b:List Int):kb 0 a b=aS a b:=by unfold kb;rw[if_neg (by simp)]
structure Smd(n v:Nat)(e:Nat)(l:List aU)(p:List Tm):Prop where
 q:p=l.map aU.tm
 eq:PV.kD l=PV.aj p
 ml:∀t∈p,t.2.length<=v
 va:rG p
 b:PB 5 e p
 ln:p.length<=n
theorem UA{l:List aU}{k n v e:Nat}(hb:∀t∈l,RB k t)(h:lh n v e l=true):Smd n v e l (l.map aU.tm):=by
 simp only[lh,Kat,decide_eq_true_eq,Kav]at h;obtain⟨h1,h2,h3⟩:=h;obtain⟨e1,e2⟩:=US hb h3;refine⟨rfl,e1,fun t ht=>?_,e2,fun t ht=>?_,by simpa using h1⟩
 rotate_left
 ·obtain⟨x,hx,rfl⟩:=KaE.1 ht;have hs:=h2 x hx;simp only[mB,Kat,decide_eq_true_eq,Kav]at hs;have hv:=e2.t _ ht;have hr:=(show Raw 4 x.n x.a x.d from⟨(hb x hx).r.1,(hb x hx).r.2.1,hs.2.1,hs.2.2.1,by omega⟩).rs;have hm:=MB.uN hv.m;refine⟨?_,⟨hm.len,hm.lo,fun y hy=>hs.2.2.2 y hy⟩,SV hv.m⟩;show rs (rv x.n x.a x.d)+1<=5;omega
 ·obtain⟨x,hx,rfl⟩:=KaE.1 ht;have hs:=h2 x hx;simp only[mB,Kat,decide_eq_true_eq,Kav]at hs;exact hs.1
end Go.Proofs.YtdjoomkeehihmaaGreat
namespace Go.FW
open Go
def B9(K E:Nat)(p:List Tm):Bool:=p.all fun t=>decide (rs t.1+1<=K)&&(decide (t.2.length<=64)&&((t.2.all fun x=>decide (0<=x)&&decide (x<=E))&&decide (t.2.getLast? ≠some 0)))
theorem dn{K E:Nat}{p:List Tm}(h:B9 K E p=true):PB K E p:=fun t ht=>by have:=Kav.1 h t ht;simp only[Kat,decide_eq_true_eq,Kav]at this;obtain⟨h1,h2,h3,h4⟩:=this;exact⟨h1,⟨h2,fun x hx=>(h3 x hx).1,fun x hx=>(h3 x hx).2⟩,h4⟩
def Cu:List Tm->Bool
 | []=>true
 |t::p=>(p.all fun s=>decide (0<aS t.2 s.2))&&Cu p
theorem Rg:∀ {p:List Tm},Cu p=true->fi p
 | [],_=>trivial
 |t::p,h=>by simp only[Cu,Kat,Kav,decide_eq_true_eq]at h;exact⟨h.1,Rg h.2⟩
def CA(p:List Tm):Bool:=(p.all fun t=>decide (t.1≠0)&&decide (t.2.getLast? ≠some 0))&&Cu p
theorem tK{p:List Tm}(h:CA p=true):az p:=by simp only[CA,Kat,Kav,decide_eq_true_eq]at h;exact⟨fun t ht=>(h.1 t ht).2,fun t ht=>(h.1 t ht).1,Rg h.2⟩
end Go.FW
