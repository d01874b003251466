/-
  No cell of these rows narrows 'for every input' (looked for: loops, veiled, ifaces, maps, wideKeys, modest, calm, conditions, laid).
  DERIVED. THE GIVEN ROWS OF THIS SEAT. 3 by the template 'for every input the law returns true; each argument reads behind the call as it read before'; 0 by the template 'total and deterministic' (their statements: YtonjiljafkiikaaGreatTotals.lean).
  GIVEN WITH THE SEED: the statements are not yours to turn. If you find one false, say at which input.
  Laid BY PROGRAM, IN A SANDBOX (cutbox-rows.mjs): the forced cells as the released guide's own fill.sh prints them over the translation 2769d402293ab9c7… (all of the seat's roots in one cut). By AI agents, Wed Nov 11 2026. No macro, syntax, notation, axiom, sorry.
-/
import Derived.Test.YtonjiljafkiikaaGreatChecked
import GoSem.Claim
import GoSem.ClaimJoined
import GoSem.ClaimMapViews
import Derived.JoinedTies
import Derived.KernelRfl
namespace Go.Proofs.YtonjiljafkiikaaGreat
/- THE CELL 'sum', in the pinned program and in every row, IS THE sha256 OF THE DUMP (.gsa) THAT YtonjiljafkiikaaGreatProg.lean LOADS. Nothing in Lean hashes anything: it is a label: what it is worth is what the hold of that sum in a sandbox is worth. -/
noncomputable def Tryz.pinned : Pinned := { name := "ytonjiljafkiikaagreat", sum := "2769d402293ab9c7c4391e0007ce10b9baaee5022dcd3224f1f9785a3aaf46bf", checked := Tryz.checked }
namespace Rows
def none {H : Type} : Left H := { results := [], args := [] }

/-- 'geoproverlaw24.GoalsPolynomials': WHATEVER THE INPUT: true; the input reads as it did. -/
def goalsPolynomialsSpec : ChangeSpec := { name := "goalsPolynomials", fn := fun _ => fun
  | [d1, d2] => { results := [.lit (.bool true)], args := [d1, d2] }
  | _ => none }
def goalsPolynomialsRow : OpenClaim := { program := "ytonjiljafkiikaagreat", sum := "2769d402293ab9c7c4391e0007ce10b9baaee5022dcd3224f1f9785a3aaf46bf", func := "geoprover/geoproverlaw24.GoalsPolynomials", spec := "goalsPolynomials", unfollowed := true, recurses := true, apart := false }
def GoalsPolynomialsSaid : Prop := goalsPolynomialsRow.holds Tryz.pinned (OpenSpec.ofChange goalsPolynomialsSpec)

/-- ITS FALSE NEIGHBOUR: 'it returns false'. Refute it at one input. -/
def goalsPolynomialsWrong : ChangeSpec := { name := "goalsPolynomials", fn := fun _ => fun
  | [d1, d2] => { results := [.lit (.bool false)], args := [d1, d2] }
  | _ => none }
def GoalsPolynomialsWrongFalsely : Prop := goalsPolynomialsRow.holds Tryz.pinned (OpenSpec.ofChange goalsPolynomialsWrong)

/-- 'geoproverlaw24.GoalsMean': WHATEVER THE INPUT: true; the input reads as it did. -/
def goalsMeanSpec : ChangeSpec := { name := "goalsMean", fn := fun _ => fun
  | [d1, d2, d3] => { results := [.lit (.bool true)], args := [d1, d2, d3] }
  | _ => none }
def goalsMeanRow : OpenClaim := { program := "ytonjiljafkiikaagreat", sum := "2769d402293ab9c7c4391e0007ce10b9baaee5022dcd3224f1f9785a3aaf46bf", func := "geoprover/geoproverlaw24.GoalsMean", spec := "goalsMean", unfollowed := true, recurses := true, apart := false }
def GoalsMeanSaid : Prop := goalsMeanRow.holds Tryz.pinned (OpenSpec.ofChange goalsMeanSpec)

/-- ITS FALSE NEIGHBOUR: 'it returns false'. Refute it at one input. -/
def goalsMeanWrong : ChangeSpec := { name := "goalsMean", fn := fun _ => fun
  | [d1, d2, d3] => { results := [.lit (.bool false)], args := [d1, d2, d3] }
  | _ => none }
def GoalsMeanWrongFalsely : Prop := goalsMeanRow.holds Tryz.pinned (OpenSpec.ofChange goalsMeanWrong)

/-- 'geoproverlaw24.GoalsTrivial': WHATEVER THE INPUT: true; the input reads as it did. -/
def goalsTrivialSpec : ChangeSpec := { name := "goalsTrivial", fn := fun _ => fun
  | [d1, d2, d3] => { results := [.lit (.bool true)], args := [d1, d2, d3] }
  | _ => none }
def goalsTrivialRow : OpenClaim := { program := "ytonjiljafkiikaagreat", sum := "2769d402293ab9c7c4391e0007ce10b9baaee5022dcd3224f1f9785a3aaf46bf", func := "geoprover/geoproverlaw24.GoalsTrivial", spec := "goalsTrivial", unfollowed := true, recurses := true, apart := false }
def GoalsTrivialSaid : Prop := goalsTrivialRow.holds Tryz.pinned (OpenSpec.ofChange goalsTrivialSpec)

/-- ITS FALSE NEIGHBOUR: 'it returns false'. Refute it at one input. -/
def goalsTrivialWrong : ChangeSpec := { name := "goalsTrivial", fn := fun _ => fun
  | [d1, d2, d3] => { results := [.lit (.bool false)], args := [d1, d2, d3] }
  | _ => none }
def GoalsTrivialWrongFalsely : Prop := goalsTrivialRow.holds Tryz.pinned (OpenSpec.ofChange goalsTrivialWrong)

/- THE SECOND FORM. 'bulk': how many values and letters a reading holds, each counted each time it is reached (what is shared counts as often as it is met; a slice's spare places count too). A statement '..UptoSaid' is the law's where the arguments, and the package variables that the reading takes, are together of bulk at most 1048576: NARROWER than '..Said'. Prove '..Said' where nothing that the law and all that it calls make is longer than what came in: it says more and counts as full. Else prove '..UptoSaid'. A law counts once. -/
mutual
def uptoBulk {H : Type} : DataW H → Nat
  | .lit (.string bytes) => bytes.length + 1
  | .lit _ => 1
  | .nil => 1
  | .ptr d => uptoBulk d + 1
  | .slice elems spare => uptoBulkAll elems + uptoBulkAll spare + 1
  | .agg parts => uptoBulkAll parts + 1
  | .iface _ d => uptoBulk d + 1
  | .map entries => uptoBulkEntries entries + 1
  | .held _ => 1
def uptoBulkAll {H : Type} : List (DataW H) → Nat
  | [] => 0
  | d :: r => uptoBulk d + uptoBulkAll r
def uptoBulkEntries {H : Type} : List (Lit × DataW H) → Nat
  | [] => 0
  | x :: r => uptoBulkEntry x + uptoBulkEntries r
def uptoBulkEntry {H : Type} : Lit × DataW H → Nat
  | (.string bytes, d) => bytes.length + uptoBulk d + 1
  | (_, d) => uptoBulk d + 1
 end
def uptoSmall : (H : Type) → List (DataW H) → Bool := fun _ ds => decide (uptoBulkAll ds ≤ 1048576)
def OpenSpec.upto (s : _root_.Go.ChangeSpec) : _root_.Go.OpenSpec := { _root_.Go.OpenSpec.ofChange s with cond := some uptoSmall }

/-- 'geoproverlaw24.GoalsPolynomials', WHERE WHAT IT READS IS OF BULK AT MOST 1048576: true; the input reads as it did. -/
def goalsPolynomialsUptoRow : OpenClaim := { program := "ytonjiljafkiikaagreat", sum := "2769d402293ab9c7c4391e0007ce10b9baaee5022dcd3224f1f9785a3aaf46bf", func := "geoprover/geoproverlaw24.GoalsPolynomials", spec := "goalsPolynomials", unfollowed := true, recurses := true, apart := false, narrowed := true }
def GoalsPolynomialsUptoSaid : Prop := goalsPolynomialsUptoRow.holds Tryz.pinned (OpenSpec.upto goalsPolynomialsSpec)

/-- 'geoproverlaw24.GoalsMean', WHERE WHAT IT READS IS OF BULK AT MOST 1048576: true; the input reads as it did. -/
def goalsMeanUptoRow : OpenClaim := { program := "ytonjiljafkiikaagreat", sum := "2769d402293ab9c7c4391e0007ce10b9baaee5022dcd3224f1f9785a3aaf46bf", func := "geoprover/geoproverlaw24.GoalsMean", spec := "goalsMean", unfollowed := true, recurses := true, apart := false, narrowed := true }
def GoalsMeanUptoSaid : Prop := goalsMeanUptoRow.holds Tryz.pinned (OpenSpec.upto goalsMeanSpec)

/-- 'geoproverlaw24.GoalsTrivial', WHERE WHAT IT READS IS OF BULK AT MOST 1048576: true; the input reads as it did. -/
def goalsTrivialUptoRow : OpenClaim := { program := "ytonjiljafkiikaagreat", sum := "2769d402293ab9c7c4391e0007ce10b9baaee5022dcd3224f1f9785a3aaf46bf", func := "geoprover/geoproverlaw24.GoalsTrivial", spec := "goalsTrivial", unfollowed := true, recurses := true, apart := false, narrowed := true }
def GoalsTrivialUptoSaid : Prop := goalsTrivialUptoRow.holds Tryz.pinned (OpenSpec.upto goalsTrivialSpec)

end Rows
end Go.Proofs.YtonjiljafkiikaaGreat
