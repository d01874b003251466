/- Part 18 of the proof of CertcheckNames: W9, FwWJ. Own lemmas; no conditions. -/
import Derived.Test.YtccppnepkfbpkaaGreatCertcheckNamesPart17
set_option maxHeartbeats 1000000
set_option linter.unusedSimpArgs false
set_option linter.unusedVariables false
set_option linter.unnecessarySimpa false
set_option maxRecDepth 100000
namespace Go.Proofs.YtccppnepkfbpkaaGreat
open Go Go.FW
end Go.Proofs.YtccppnepkfbpkaaGreat
namespace Go.FW
open Go
theorem ajT:Ey [Q3 0] [1] 1 [cM 1] [aV (Q3 0) (Q3 1)] (Q3 1)=0:=by decide+kernel
def Uc(p:List Tm):Bool:=TU 3 4 p&&(KC p&&((p.all fun t=>decide (t.2.length<=4))&&decide (p.length<=6)))
theorem At{p:List Tm}(h:Uc p=true):ib p:=by simp only[Uc,Kav,decide_eq_true_eq,Kaq]at h;exact⟨ai4 h.2.1,ajS h.1,fun t ht=>h.2.2.1 t ht,h.2.2.2⟩
end Go.FW
