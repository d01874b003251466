/-
  No cell of these rows narrows 'for every input' (looked for: loops, veiled, ifaces, maps, wideKeys, modest, calm, conditions, laid).
  DERIVED. THE GIVEN ROWS OF THIS SEAT. 2 by the template 'for every input the law returns true; each argument reads behind the call as it read before'; 0 by the template 'total and deterministic' (their statements: YtdacdnoebgcjhaaGreatTotals.lean).
  GIVEN WITH THE SEED: the statements are not yours to turn. If you find one false, say at which input.
  Laid BY PROGRAM, IN A SANDBOX (cutbox-rows.mjs): the forced cells as the released guide's own fill.sh prints them over the translation d7673c5ab0067948… (all of the seat's roots in one cut). By AI agents, Wed Nov 11 2026. No macro, syntax, notation, axiom, sorry.
-/
import Derived.Test.YtdacdnoebgcjhaaGreatChecked
import GoSem.Claim
import GoSem.ClaimJoined
import GoSem.ClaimMapViews
import Derived.JoinedTies
import Derived.KernelRfl
namespace Go.Proofs.YtdacdnoebgcjhaaGreat
/- THE CELL 'sum', in the pinned program and in every row, IS THE sha256 OF THE DUMP (.gsa) THAT YtdacdnoebgcjhaaGreatProg.lean LOADS. Nothing in Lean hashes anything: it is a label: what it is worth is what the hold of that sum in a sandbox is worth. -/
noncomputable def Tryz.pinned : Pinned := { name := "ytdacdnoebgcjhaagreat", sum := "d7673c5ab00679485d8fbc74a03a5e107a27afaf1134092089e9e69e4e54af46", checked := Tryz.checked }
namespace Rows
def none {H : Type} : Left H := { results := [], args := [] }

/-- 'geoproverlaw31.CertcheckFactors': WHATEVER THE INPUT: true; the input reads as it did. -/
def certcheckFactorsSpec : ChangeSpec := { name := "certcheckFactors", fn := fun _ => fun
  | [d1, d2] => { results := [.lit (.bool true)], args := [d1, d2] }
  | _ => none }
def certcheckFactorsRow : OpenClaim := { program := "ytdacdnoebgcjhaagreat", sum := "d7673c5ab00679485d8fbc74a03a5e107a27afaf1134092089e9e69e4e54af46", func := "geoprover/geoproverlaw31.CertcheckFactors", spec := "certcheckFactors", unfollowed := true, recurses := true, apart := false }
def CertcheckFactorsSaid : Prop := certcheckFactorsRow.holds Tryz.pinned (OpenSpec.ofChange certcheckFactorsSpec)

/-- ITS FALSE NEIGHBOUR: 'it returns false'. Refute it at one input. -/
def certcheckFactorsWrong : ChangeSpec := { name := "certcheckFactors", fn := fun _ => fun
  | [d1, d2] => { results := [.lit (.bool false)], args := [d1, d2] }
  | _ => none }
def CertcheckFactorsWrongFalsely : Prop := certcheckFactorsRow.holds Tryz.pinned (OpenSpec.ofChange certcheckFactorsWrong)

/-- 'geoproverlaw31.CertcheckPowers': WHATEVER THE INPUT: true; the input reads as it did. -/
def certcheckPowersSpec : ChangeSpec := { name := "certcheckPowers", fn := fun _ => fun
  | [d1, d2, d3] => { results := [.lit (.bool true)], args := [d1, d2, d3] }
  | _ => none }
def certcheckPowersRow : OpenClaim := { program := "ytdacdnoebgcjhaagreat", sum := "d7673c5ab00679485d8fbc74a03a5e107a27afaf1134092089e9e69e4e54af46", func := "geoprover/geoproverlaw31.CertcheckPowers", spec := "certcheckPowers", unfollowed := true, recurses := true, apart := false }
def CertcheckPowersSaid : Prop := certcheckPowersRow.holds Tryz.pinned (OpenSpec.ofChange certcheckPowersSpec)

/-- ITS FALSE NEIGHBOUR: 'it returns false'. Refute it at one input. -/
def certcheckPowersWrong : ChangeSpec := { name := "certcheckPowers", fn := fun _ => fun
  | [d1, d2, d3] => { results := [.lit (.bool false)], args := [d1, d2, d3] }
  | _ => none }
def CertcheckPowersWrongFalsely : Prop := certcheckPowersRow.holds Tryz.pinned (OpenSpec.ofChange certcheckPowersWrong)

/- THE SECOND FORM. 'bulk': how many values and letters a reading holds, each counted each time it is reached (what is shared counts as often as it is met; a slice's spare places count too). A statement '..UptoSaid' is the law's where the arguments, and the package variables that the reading takes, are together of bulk at most 1048576: NARROWER than '..Said'. Prove '..Said' where nothing that the law and all that it calls make is longer than what came in: it says more and counts as full. Else prove '..UptoSaid'. A law counts once. -/
mutual
def uptoBulk {H : Type} : DataW H → Nat
  | .lit (.string bytes) => bytes.length + 1
  | .lit _ => 1
  | .nil => 1
  | .ptr d => uptoBulk d + 1
  | .slice elems spare => uptoBulkAll elems + uptoBulkAll spare + 1
  | .agg parts => uptoBulkAll parts + 1
  | .iface _ d => uptoBulk d + 1
  | .map entries => uptoBulkEntries entries + 1
  | .held _ => 1
def uptoBulkAll {H : Type} : List (DataW H) → Nat
  | [] => 0
  | d :: r => uptoBulk d + uptoBulkAll r
def uptoBulkEntries {H : Type} : List (Lit × DataW H) → Nat
  | [] => 0
  | x :: r => uptoBulkEntry x + uptoBulkEntries r
def uptoBulkEntry {H : Type} : Lit × DataW H → Nat
  | (.string bytes, d) => bytes.length + uptoBulk d + 1
  | (_, d) => uptoBulk d + 1
 end
def uptoSmall : (H : Type) → List (DataW H) → Bool := fun _ ds => decide (uptoBulkAll ds ≤ 1048576)
def OpenSpec.upto (s : _root_.Go.ChangeSpec) : _root_.Go.OpenSpec := { _root_.Go.OpenSpec.ofChange s with cond := some uptoSmall }

/-- 'geoproverlaw31.CertcheckFactors', WHERE WHAT IT READS IS OF BULK AT MOST 1048576: true; the input reads as it did. -/
def certcheckFactorsUptoRow : OpenClaim := { program := "ytdacdnoebgcjhaagreat", sum := "d7673c5ab00679485d8fbc74a03a5e107a27afaf1134092089e9e69e4e54af46", func := "geoprover/geoproverlaw31.CertcheckFactors", spec := "certcheckFactors", unfollowed := true, recurses := true, apart := false, narrowed := true }
def CertcheckFactorsUptoSaid : Prop := certcheckFactorsUptoRow.holds Tryz.pinned (OpenSpec.upto certcheckFactorsSpec)

/-- 'geoproverlaw31.CertcheckPowers', WHERE WHAT IT READS IS OF BULK AT MOST 1048576: true; the input reads as it did. -/
def certcheckPowersUptoRow : OpenClaim := { program := "ytdacdnoebgcjhaagreat", sum := "d7673c5ab00679485d8fbc74a03a5e107a27afaf1134092089e9e69e4e54af46", func := "geoprover/geoproverlaw31.CertcheckPowers", spec := "certcheckPowers", unfollowed := true, recurses := true, apart := false, narrowed := true }
def CertcheckPowersUptoSaid : Prop := certcheckPowersUptoRow.holds Tryz.pinned (OpenSpec.upto certcheckPowersSpec)

end Rows
end Go.Proofs.YtdacdnoebgcjhaaGreat
