/- Part 8 of the proof of CertcheckFactors: G6, G7, G8, FwVB, FwVD, FwWH. Own lemmas; no conditions. -/
import Derived.Test.YtdacdnoebgcjhaaGreatCertcheckFactorsPart7
set_option linter.unusedSimpArgs false
set_option linter.unnecessarySimpa false
set_option linter.unusedVariables false
namespace Go.Proofs.YtdacdnoebgcjhaaGreat
open Go Go.FW
set_option linter.unusedSimpArgs false
set_option linter.unusedVariables false
set_option maxRecDepth 100000
end Go.Proofs.YtdacdnoebgcjhaaGreat
namespace Go.Proofs.YtdacdnoebgcjhaaGreat
open Go Go.FW
set_option linter.unusedSimpArgs false
set_option linter.unusedVariables false
set_option maxRecDepth 100000
end Go.Proofs.YtdacdnoebgcjhaaGreat
namespace Go.Proofs.YtdacdnoebgcjhaaGreat
open Go Go.FW
set_option linter.unusedSimpArgs false
set_option linter.unusedVariables false
set_option maxRecDepth 100000
end Go.Proofs.YtdacdnoebgcjhaaGreat
namespace Go.FW
open Go
end Go.FW
namespace Go.FW
open Go
theorem Qahf{a b:Rat}(h:b≠0):rs (a/b)<=rs a+rs b:=by
 rw[Rat.div_def]
 have:=Qie a b⁻¹
 have:=Qag5 b h
 omega
end Go.FW
namespace Go.FW
open Go
set_option maxRecDepth 100000
def Qs5(s c:Rat):Nat->Rat
 |0=>s
 |n+1=>Qs5 s c n/c
theorem Qac0{s c:Rat}(hs:s≠0)(hc:c≠0):∀n,Qs5 s c n≠0
 |0=>hs
 |n+1=>by
  have:=Qac0 hs hc n
  show Qs5 s c n/c≠0
  grind
theorem Qz3{s c:Rat}(hc:c≠0){b:Nat}(hb:rs c<=b):∀n,rs (Qs5 s c n)<=rs s+n*b
 |0=>by show rs s<=_;omega
 |n+1=>by
  have h1:=Qz3 hc hb (s:=s) n
  have h2:=Qahf (a:=Qs5 s c n) hc
  show rs (Qs5 s c n/c)<=_
  rw[Nat.succ_mul];omega
end Go.FW
