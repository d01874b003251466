/- Part 18 of the proof of CertcheckChecks: W9, FwWJ. Own lemmas; no conditions. -/
import Derived.Test.YtccppnepkfbpkaaGreatCertcheckChecksPart17
set_option maxHeartbeats 1000000
set_option linter.unusedSimpArgs false
set_option linter.unusedVariables false
set_option linter.unnecessarySimpa false
set_option maxRecDepth 100000
namespace Go.Proofs.YtccppnepkfbpkaaGreat
open Go Go.FW
end Go.Proofs.YtccppnepkfbpkaaGreat
namespace Go.FW
open Go
theorem ajt:oS [Qx 0] [1] 1 [cD 1] [Q8 (Qx 0) (Qx 1)] (Qx 1)=0:=by decide+kernel
def TN(p:List Tm):Bool:=TG 3 4 p&&(Km p&&((p.all fun t=>decide (t.2.length<=4))&&decide (p.length<=6)))
theorem Aa{p:List Tm}(h:TN p=true):fZ p:=by simp only[TN,Kav,decide_eq_true_eq,Kap]at h;exact⟨aiB h.2.1,ai2 h.1,fun t ht=>h.2.2.1 t ht,h.2.2.2⟩
end Go.FW
