/- Part 11 of the proof of TriangularEquation: W8, U5, FwUG. Own lemmas; no conditions. -/
import Derived.Test.YtdaldpkjhcfblaaGreatTriangularEquationPart10
set_option maxHeartbeats 1000000
set_option linter.unusedSimpArgs false
set_option linter.unusedVariables false
set_option linter.unnecessarySimpa false
set_option maxRecDepth 100000
namespace Go.Proofs.YtdaldpkjhcfblaaGreat
open Go Go.FW
theorem Qu2(a b:List Int):Qgu 0 a b=Qak a b:=by unfold Qgu;rw[if_neg (by simp)]
structure Smd(n v:Nat)(e:Nat)(l:List RTm)(p:List Tm):Prop where
 q:p=l.map RTm.tm
 eq:PV.rpoly l=PV.poly p
 ml:∀t∈p,t.2.length<=v
 va:PVd p
 b:PB 5 e p
 ln:p.length<=n
theorem Qvu{l:List RTm}{k n v e:Nat}(hb:∀t∈l,RB k t)(h:Qft n v e l=true):Smd n v e l (l.map RTm.tm):=by
 simp only[Qft,Bool.and_eq_true,decide_eq_true_eq,List.all_eq_true]at h;obtain⟨h1,h2,h3⟩:=h;obtain⟨e1,e2⟩:=Qqs hb h3;refine⟨rfl,e1,fun t ht=>?_,e2,fun t ht=>?_,by simpa using h1⟩
 rotate_left
 ·obtain⟨x,hx,rfl⟩:=List.mem_map.1 ht;have hs:=h2 x hx;simp only[smT,Bool.and_eq_true,decide_eq_true_eq,List.all_eq_true]at hs;have hv:=e2.t _ ht;have hr:=(show Raw 4 x.n x.a x.d from⟨(hb x hx).r.1,(hb x hx).r.2.1,hs.2.1,hs.2.2.1,by omega⟩).rs;have hm:=MB.ofOk hv.m;refine⟨?_,⟨hm.len,hm.lo,fun y hy=>hs.2.2.2 y hy⟩,Qso hv.m⟩;show rs (rv x.n x.a x.d)+1<=5;omega
 ·obtain⟨x,hx,rfl⟩:=List.mem_map.1 ht;have hs:=h2 x hx;simp only[smT,Bool.and_eq_true,decide_eq_true_eq,List.all_eq_true]at hs;exact hs.1
end Go.Proofs.YtdaldpkjhcfblaaGreat
namespace Go.FW
open Go
def pbB(K E:Nat)(p:List Tm):Bool:=p.all fun t=>decide (rs t.1+1<=K)&&(decide (t.2.length<=64)&&((t.2.all fun x=>decide (0<=x)&&decide (x<=E))&&decide (t.2.getLast? ≠some 0)))
theorem Qbf{K E:Nat}{p:List Tm}(h:pbB K E p=true):PB K E p:=fun t ht=>by have:=List.all_eq_true.1 h t ht;simp only[Bool.and_eq_true,decide_eq_true_eq,List.all_eq_true]at this;obtain⟨h1,h2,h3,h4⟩:=this;exact⟨h1,⟨h2,fun x hx=>(h3 x hx).1,fun x hx=>(h3 x hx).2⟩,h4⟩
def Qzm:List Tm->Bool
 | []=>true
 |t::p=>(p.all fun s=>decide (0<Qak t.2 s.2))&&Qzm p
theorem Q4i:∀ {p:List Tm},Qzm p=true->Qbc p
 | [],_=>trivial
 |t::p,h=>by simp only[Qzm,Bool.and_eq_true,List.all_eq_true,decide_eq_true_eq]at h;exact⟨h.1,Q4i h.2⟩
def Q6v(p:List Tm):Bool:=(p.all fun t=>decide (t.1≠0)&&decide (t.2.getLast? ≠some 0))&&Qzm p
theorem Qkn{p:List Tm}(h:Q6v p=true):Nrm p:=by simp only[Q6v,Bool.and_eq_true,List.all_eq_true,decide_eq_true_eq]at h;exact⟨fun t ht=>(h.1 t ht).2,fun t ht=>(h.1 t ht).1,Q4i h.2⟩
end Go.FW
