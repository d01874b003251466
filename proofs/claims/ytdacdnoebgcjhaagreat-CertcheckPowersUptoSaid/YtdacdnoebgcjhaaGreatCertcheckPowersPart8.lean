/- Part 8 of the proof of CertcheckPowers: G6, G7, G8, FwVB, FwVD, FwWH. Own lemmas; no conditions. -/
import Derived.Test.YtdacdnoebgcjhaaGreatCertcheckPowersPart7
set_option linter.unusedSimpArgs false
set_option linter.unnecessarySimpa false
set_option linter.unusedVariables false
namespace Go.Proofs.YtdacdnoebgcjhaaGreat
open Go Go.FW
set_option linter.unusedSimpArgs false
set_option linter.unusedVariables false
set_option maxRecDepth 100000
end Go.Proofs.YtdacdnoebgcjhaaGreat
namespace Go.Proofs.YtdacdnoebgcjhaaGreat
open Go Go.FW
set_option linter.unusedSimpArgs false
set_option linter.unusedVariables false
set_option maxRecDepth 100000
end Go.Proofs.YtdacdnoebgcjhaaGreat
namespace Go.Proofs.YtdacdnoebgcjhaaGreat
open Go Go.FW
set_option linter.unusedSimpArgs false
set_option linter.unusedVariables false
set_option maxRecDepth 100000
end Go.Proofs.YtdacdnoebgcjhaaGreat
namespace Go.FW
open Go
end Go.FW
namespace Go.FW
open Go
theorem Qag2{a b:Rat}(h:b≠0):rs (a/b)<=rs a+rs b:=by
 rw[Rat.div_def]
 have:=Qjo a b⁻¹
 have:=Qags b h
 omega
end Go.FW
namespace Go.FW
open Go
set_option maxRecDepth 100000
def Qs1(s c:Rat):Nat->Rat
 |0=>s
 |n+1=>Qs1 s c n/c
theorem Qacr{s c:Rat}(hs:s≠0)(hc:c≠0):∀n,Qs1 s c n≠0
 |0=>hs
 |n+1=>by
  have:=Qacr hs hc n
  show Qs1 s c n/c≠0
  grind
theorem Qzx{s c:Rat}(hc:c≠0){b:Nat}(hb:rs c<=b):∀n,rs (Qs1 s c n)<=rs s+n*b
 |0=>by show rs s<=_;omega
 |n+1=>by
  have h1:=Qzx hc hb (s:=s) n
  have h2:=Qag2 (a:=Qs1 s c n) hc
  show rs (Qs1 s c n/c)<=_
  rw[Nat.succ_mul];omega
end Go.FW
