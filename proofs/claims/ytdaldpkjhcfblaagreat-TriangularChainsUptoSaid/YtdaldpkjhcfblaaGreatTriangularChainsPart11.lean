/- Part 11 of the proof of TriangularChains: W8, U5, FwUG. Own lemmas; no conditions. -/
import Derived.Test.YtdaldpkjhcfblaaGreatTriangularChainsPart10
set_option maxHeartbeats 1000000
set_option linter.unusedSimpArgs false
set_option linter.unusedVariables false
set_option linter.unnecessarySimpa false
set_option maxRecDepth 100000
namespace Go.Proofs.YtdaldpkjhcfblaaGreat
open Go Go.FW
theorem Qsr(a b:List Int):Qfw 0 a b=Qaf a b:=by unfold Qfw;rw[if_neg (by simp)]
end Go.Proofs.YtdaldpkjhcfblaaGreat
namespace Go.FW
open Go
def pbB(K E:Nat)(p:List Tm):Bool:=p.all fun t=>decide (rs t.1+1<=K)&&(decide (t.2.length<=64)&&((t.2.all fun x=>decide (0<=x)&&decide (x<=E))&&decide (t.2.getLast? ≠some 0)))
theorem Qba{K E:Nat}{p:List Tm}(h:pbB K E p=true):PB K E p:=fun t ht=>by have:=List.all_eq_true.1 h t ht;simp only[Bool.and_eq_true,decide_eq_true_eq,List.all_eq_true]at this;obtain⟨h1,h2,h3,h4⟩:=this;exact⟨h1,⟨h2,fun x hx=>(h3 x hx).1,fun x hx=>(h3 x hx).2⟩,h4⟩
def Qwr:List Tm->Bool
 | []=>true
 |t::p=>(p.all fun s=>decide (0<Qaf t.2 s.2))&&Qwr p
theorem Q1i:∀ {p:List Tm},Qwr p=true->Qa9 p
 | [],_=>trivial
 |t::p,h=>by simp only[Qwr,Bool.and_eq_true,List.all_eq_true,decide_eq_true_eq]at h;exact⟨h.1,Q1i h.2⟩
def Q32(p:List Tm):Bool:=(p.all fun t=>decide (t.1≠0)&&decide (t.2.getLast? ≠some 0))&&Qwr p
theorem Qje{p:List Tm}(h:Q32 p=true):Nrm p:=by simp only[Q32,Bool.and_eq_true,List.all_eq_true,decide_eq_true_eq]at h;exact⟨fun t ht=>(h.1 t ht).2,fun t ht=>(h.1 t ht).1,Q1i h.2⟩
end Go.FW
