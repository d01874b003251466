/- Part 17 of the proof of CertcheckChecks: G10, G11, FwUG. Own lemmas; no conditions. -/
import Derived.Test.YtccppnepkfbpkaaGreatCertcheckChecksPart16
set_option maxHeartbeats 1000000
set_option linter.unusedSimpArgs false
set_option linter.unusedVariables false
set_option linter.unnecessarySimpa false
set_option maxRecDepth 100000
namespace Go.Proofs.YtccppnepkfbpkaaGreat
open Go Go.FW
end Go.Proofs.YtccppnepkfbpkaaGreat
namespace Go.FW
open Go
def TG(K E:Nat)(p:List Tm):Bool:=p.all fun t=>decide (rs t.1+1<=K)&&(decide (t.2.length<=64)&&((t.2.all fun x=>decide (0<=x)&&decide (x<=E))&&decide (t.2.getLast? ≠some 0)))
theorem ai2{K E:Nat}{p:List Tm}(h:TG K E p=true):PB K E p:=fun t ht=>by have:=Kap.1 h t ht;simp only[Kav,decide_eq_true_eq,Kap]at this;obtain⟨h1,h2,h3,h4⟩:=this;exact⟨h1,⟨h2,fun x hx=>(h3 x hx).1,fun x hx=>(h3 x hx).2⟩,h4⟩
def B2:List Tm->Bool
 | []=>true
 |t::p=>(p.all fun s=>decide (0<aX t.2 s.2))&&B2 p
theorem Mv:∀ {p:List Tm},B2 p=true->iH p
 | [],_=>trivial
 |t::p,h=>by simp only[B2,Kav,Kap,decide_eq_true_eq]at h;exact⟨h.1,Mv h.2⟩
def Km(p:List Tm):Bool:=(p.all fun t=>decide (t.1≠0)&&decide (t.2.getLast? ≠some 0))&&B2 p
theorem aiB{p:List Tm}(h:Km p=true):bf p:=by simp only[Km,Kav,Kap,decide_eq_true_eq]at h;exact⟨fun t ht=>(h.1 t ht).2,fun t ht=>(h.1 t ht).1,Mv h.2⟩
end Go.FW
