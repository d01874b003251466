/- Part 10 of the proof of CertcheckPowers: G10, G11, FwUG. Own lemmas; no conditions. -/
import Derived.Test.YtdacdnoebgcjhaaGreatCertcheckPowersPart9
set_option linter.unusedSimpArgs false
set_option linter.unnecessarySimpa false
set_option linter.unusedVariables false
namespace Go.Proofs.YtdacdnoebgcjhaaGreat
open Go Go.FW
set_option linter.unusedSimpArgs false
set_option linter.unusedVariables false
set_option maxRecDepth 100000
end Go.Proofs.YtdacdnoebgcjhaaGreat
namespace Go.Proofs.YtdacdnoebgcjhaaGreat
open Go Go.FW
set_option linter.unusedSimpArgs false
set_option linter.unusedVariables false
set_option maxRecDepth 100000
end Go.Proofs.YtdacdnoebgcjhaaGreat
namespace Go.FW
open Go
def pbB(K E:Nat)(p:List Tm):Bool:=p.all fun t=>decide (rs t.1+1<=K)&&(decide (t.2.length<=64)&&((t.2.all fun x=>decide (0<=x)&&decide (x<=E))&&decide (t.2.getLast? ≠some 0)))
theorem Qaik{K E:Nat}{p:List Tm}(h:pbB K E p=true):PB K E p:=fun t ht=>by
 have:=List.all_eq_true.1 h t ht
 simp only[Bool.and_eq_true,decide_eq_true_eq,List.all_eq_true]at this
 obtain⟨h1,h2,h3,h4⟩:=this
 exact⟨h1,⟨h2,fun x hx=>(h3 x hx).1,fun x hx=>(h3 x hx).2⟩,h4⟩
def Qux:List Tm->Bool
 | []=>true
 |t::p=>(p.all fun s=>decide (0<Qah t.2 s.2))&&Qux p
theorem Qzy:∀ {p:List Tm},Qux p=true->Qb1 p
 | [],_=>trivial
 |t::p,h=>by
  simp only[Qux,Bool.and_eq_true,List.all_eq_true,decide_eq_true_eq]at h
  exact⟨h.1,Qzy h.2⟩
def Q84(p:List Tm):Bool:=(p.all fun t=>decide (t.1≠0)&&decide (t.2.getLast? ≠some 0))&&Qux p
theorem Qag3{p:List Tm}(h:Q84 p=true):Nrm p:=by
 simp only[Q84,Bool.and_eq_true,List.all_eq_true,decide_eq_true_eq]at h
 exact⟨fun t ht=>(h.1 t ht).2,fun t ht=>(h.1 t ht).1,Qzy h.2⟩
end Go.FW
