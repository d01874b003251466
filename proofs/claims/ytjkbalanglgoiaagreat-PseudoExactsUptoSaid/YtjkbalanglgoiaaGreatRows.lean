/-
  No cell of these rows narrows 'for every input' (looked for: loops, veiled, ifaces, maps, wideKeys, modest, calm, conditions, laid).
  DERIVED. THE GIVEN ROWS OF THIS SEAT. 6 by the template 'for every input the law returns true; each argument reads behind the call as it read before'; 0 by the template 'total and deterministic' (their statements: YtjkbalanglgoiaaGreatTotals.lean).
  GIVEN WITH THE SEED: the statements are not yours to turn. If you find one false, say at which input.
  Laid BY PROGRAM, IN A SANDBOX (cutbox-rows.mjs): the forced cells as the released guide's own fill.sh prints them over the translation e90e8c912ac28118… (all of the seat's roots in one cut). By AI agents, Wed Nov 11 2026. No macro, syntax, notation, axiom, sorry.
-/
import Derived.Test.YtjkbalanglgoiaaGreatChecked
import GoSem.Claim
import GoSem.ClaimJoined
import GoSem.ClaimMapViews
import Derived.JoinedTies
import Derived.KernelRfl
namespace Go.Proofs.YtjkbalanglgoiaaGreat
/- THE CELL 'sum', in the pinned program and in every row, IS THE sha256 OF THE DUMP (.gsa) THAT YtjkbalanglgoiaaGreatProg.lean LOADS. Nothing in Lean hashes anything: it is a label: what it is worth is what the hold of that sum in a sandbox is worth. -/
noncomputable def Tryz.pinned : Pinned := { name := "ytjkbalanglgoiaagreat", sum := "e90e8c912ac28118ecd3d48dd9d863953afb188903f450a70663424b9a5ec5ed", checked := Tryz.checked }
namespace Rows
def none {H : Type} : Left H := { results := [], args := [] }

/-- 'geoproverlaw08.PseudoExacts': WHATEVER THE INPUT: true; the input reads as it did. -/
def pseudoExactsSpec : ChangeSpec := { name := "pseudoExacts", fn := fun _ => fun
  | [d1, d2] => { results := [.lit (.bool true)], args := [d1, d2] }
  | _ => none }
def pseudoExactsRow : OpenClaim := { program := "ytjkbalanglgoiaagreat", sum := "e90e8c912ac28118ecd3d48dd9d863953afb188903f450a70663424b9a5ec5ed", func := "geoprover/geoproverlaw08.PseudoExacts", spec := "pseudoExacts", unfollowed := true, recurses := true, apart := false }
def PseudoExactsSaid : Prop := pseudoExactsRow.holds Tryz.pinned (OpenSpec.ofChange pseudoExactsSpec)

/-- ITS FALSE NEIGHBOUR: 'it returns false'. Refute it at one input. -/
def pseudoExactsWrong : ChangeSpec := { name := "pseudoExacts", fn := fun _ => fun
  | [d1, d2] => { results := [.lit (.bool false)], args := [d1, d2] }
  | _ => none }
def PseudoExactsWrongFalsely : Prop := pseudoExactsRow.holds Tryz.pinned (OpenSpec.ofChange pseudoExactsWrong)

/-- 'geoproverlaw08.PseudoJoins': WHATEVER THE INPUT: true; the input reads as it did. -/
def pseudoJoinsSpec : ChangeSpec := { name := "pseudoJoins", fn := fun _ => fun
  | [d1, d2] => { results := [.lit (.bool true)], args := [d1, d2] }
  | _ => none }
def pseudoJoinsRow : OpenClaim := { program := "ytjkbalanglgoiaagreat", sum := "e90e8c912ac28118ecd3d48dd9d863953afb188903f450a70663424b9a5ec5ed", func := "geoprover/geoproverlaw08.PseudoJoins", spec := "pseudoJoins", unfollowed := true, recurses := true, apart := false }
def PseudoJoinsSaid : Prop := pseudoJoinsRow.holds Tryz.pinned (OpenSpec.ofChange pseudoJoinsSpec)

/-- ITS FALSE NEIGHBOUR: 'it returns false'. Refute it at one input. -/
def pseudoJoinsWrong : ChangeSpec := { name := "pseudoJoins", fn := fun _ => fun
  | [d1, d2] => { results := [.lit (.bool false)], args := [d1, d2] }
  | _ => none }
def PseudoJoinsWrongFalsely : Prop := pseudoJoinsRow.holds Tryz.pinned (OpenSpec.ofChange pseudoJoinsWrong)

/-- 'geoproverlaw08.PseudoParts': WHATEVER THE INPUT: true; the input reads as it did. -/
def pseudoPartsSpec : ChangeSpec := { name := "pseudoParts", fn := fun _ => fun
  | [d1, d2] => { results := [.lit (.bool true)], args := [d1, d2] }
  | _ => none }
def pseudoPartsRow : OpenClaim := { program := "ytjkbalanglgoiaagreat", sum := "e90e8c912ac28118ecd3d48dd9d863953afb188903f450a70663424b9a5ec5ed", func := "geoprover/geoproverlaw08.PseudoParts", spec := "pseudoParts", unfollowed := true, recurses := true, apart := false }
def PseudoPartsSaid : Prop := pseudoPartsRow.holds Tryz.pinned (OpenSpec.ofChange pseudoPartsSpec)

/-- ITS FALSE NEIGHBOUR: 'it returns false'. Refute it at one input. -/
def pseudoPartsWrong : ChangeSpec := { name := "pseudoParts", fn := fun _ => fun
  | [d1, d2] => { results := [.lit (.bool false)], args := [d1, d2] }
  | _ => none }
def PseudoPartsWrongFalsely : Prop := pseudoPartsRow.holds Tryz.pinned (OpenSpec.ofChange pseudoPartsWrong)

/-- 'geoproverlaw08.PseudoDivides': WHATEVER THE INPUT: true; the input reads as it did. -/
def pseudoDividesSpec : ChangeSpec := { name := "pseudoDivides", fn := fun _ => fun
  | [d1, d2, d3] => { results := [.lit (.bool true)], args := [d1, d2, d3] }
  | _ => none }
def pseudoDividesRow : OpenClaim := { program := "ytjkbalanglgoiaagreat", sum := "e90e8c912ac28118ecd3d48dd9d863953afb188903f450a70663424b9a5ec5ed", func := "geoprover/geoproverlaw08.PseudoDivides", spec := "pseudoDivides", unfollowed := true, recurses := true, apart := false }
def PseudoDividesSaid : Prop := pseudoDividesRow.holds Tryz.pinned (OpenSpec.ofChange pseudoDividesSpec)

/-- ITS FALSE NEIGHBOUR: 'it returns false'. Refute it at one input. -/
def pseudoDividesWrong : ChangeSpec := { name := "pseudoDivides", fn := fun _ => fun
  | [d1, d2, d3] => { results := [.lit (.bool false)], args := [d1, d2, d3] }
  | _ => none }
def PseudoDividesWrongFalsely : Prop := pseudoDividesRow.holds Tryz.pinned (OpenSpec.ofChange pseudoDividesWrong)

/-- 'geoproverlaw08.PseudoBack': WHATEVER THE INPUT: true; the input reads as it did. -/
def pseudoBackSpec : ChangeSpec := { name := "pseudoBack", fn := fun _ => fun
  | [d1, d2, d3] => { results := [.lit (.bool true)], args := [d1, d2, d3] }
  | _ => none }
def pseudoBackRow : OpenClaim := { program := "ytjkbalanglgoiaagreat", sum := "e90e8c912ac28118ecd3d48dd9d863953afb188903f450a70663424b9a5ec5ed", func := "geoprover/geoproverlaw08.PseudoBack", spec := "pseudoBack", unfollowed := true, recurses := true, apart := false }
def PseudoBackSaid : Prop := pseudoBackRow.holds Tryz.pinned (OpenSpec.ofChange pseudoBackSpec)

/-- ITS FALSE NEIGHBOUR: 'it returns false'. Refute it at one input. -/
def pseudoBackWrong : ChangeSpec := { name := "pseudoBack", fn := fun _ => fun
  | [d1, d2, d3] => { results := [.lit (.bool false)], args := [d1, d2, d3] }
  | _ => none }
def PseudoBackWrongFalsely : Prop := pseudoBackRow.holds Tryz.pinned (OpenSpec.ofChange pseudoBackWrong)

/-- 'geoproverlaw08.PseudoEquation': WHATEVER THE INPUT: true; the input reads as it did. -/
def pseudoEquationSpec : ChangeSpec := { name := "pseudoEquation", fn := fun _ => fun
  | [d1, d2, d3] => { results := [.lit (.bool true)], args := [d1, d2, d3] }
  | _ => none }
def pseudoEquationRow : OpenClaim := { program := "ytjkbalanglgoiaagreat", sum := "e90e8c912ac28118ecd3d48dd9d863953afb188903f450a70663424b9a5ec5ed", func := "geoprover/geoproverlaw08.PseudoEquation", spec := "pseudoEquation", unfollowed := true, recurses := true, apart := false }
def PseudoEquationSaid : Prop := pseudoEquationRow.holds Tryz.pinned (OpenSpec.ofChange pseudoEquationSpec)

/-- ITS FALSE NEIGHBOUR: 'it returns false'. Refute it at one input. -/
def pseudoEquationWrong : ChangeSpec := { name := "pseudoEquation", fn := fun _ => fun
  | [d1, d2, d3] => { results := [.lit (.bool false)], args := [d1, d2, d3] }
  | _ => none }
def PseudoEquationWrongFalsely : Prop := pseudoEquationRow.holds Tryz.pinned (OpenSpec.ofChange pseudoEquationWrong)

/- THE SECOND FORM. 'bulk': how many values and letters a reading holds, each counted each time it is reached (what is shared counts as often as it is met; a slice's spare places count too). A statement '..UptoSaid' is the law's where the arguments, and the package variables that the reading takes, are together of bulk at most 1048576: NARROWER than '..Said'. Prove '..Said' where nothing that the law and all that it calls make is longer than what came in: it says more and counts as full. Else prove '..UptoSaid'. A law counts once. -/
mutual
def uptoBulk {H : Type} : DataW H → Nat
  | .lit (.string bytes) => bytes.length + 1
  | .lit _ => 1
  | .nil => 1
  | .ptr d => uptoBulk d + 1
  | .slice elems spare => uptoBulkAll elems + uptoBulkAll spare + 1
  | .agg parts => uptoBulkAll parts + 1
  | .iface _ d => uptoBulk d + 1
  | .map entries => uptoBulkEntries entries + 1
  | .held _ => 1
def uptoBulkAll {H : Type} : List (DataW H) → Nat
  | [] => 0
  | d :: r => uptoBulk d + uptoBulkAll r
def uptoBulkEntries {H : Type} : List (Lit × DataW H) → Nat
  | [] => 0
  | x :: r => uptoBulkEntry x + uptoBulkEntries r
def uptoBulkEntry {H : Type} : Lit × DataW H → Nat
  | (.string bytes, d) => bytes.length + uptoBulk d + 1
  | (_, d) => uptoBulk d + 1
 end
def uptoSmall : (H : Type) → List (DataW H) → Bool := fun _ ds => decide (uptoBulkAll ds ≤ 1048576)
def OpenSpec.upto (s : _root_.Go.ChangeSpec) : _root_.Go.OpenSpec := { _root_.Go.OpenSpec.ofChange s with cond := some uptoSmall }

/-- 'geoproverlaw08.PseudoExacts', WHERE WHAT IT READS IS OF BULK AT MOST 1048576: true; the input reads as it did. -/
def pseudoExactsUptoRow : OpenClaim := { program := "ytjkbalanglgoiaagreat", sum := "e90e8c912ac28118ecd3d48dd9d863953afb188903f450a70663424b9a5ec5ed", func := "geoprover/geoproverlaw08.PseudoExacts", spec := "pseudoExacts", unfollowed := true, recurses := true, apart := false, narrowed := true }
def PseudoExactsUptoSaid : Prop := pseudoExactsUptoRow.holds Tryz.pinned (OpenSpec.upto pseudoExactsSpec)

/-- 'geoproverlaw08.PseudoJoins', WHERE WHAT IT READS IS OF BULK AT MOST 1048576: true; the input reads as it did. -/
def pseudoJoinsUptoRow : OpenClaim := { program := "ytjkbalanglgoiaagreat", sum := "e90e8c912ac28118ecd3d48dd9d863953afb188903f450a70663424b9a5ec5ed", func := "geoprover/geoproverlaw08.PseudoJoins", spec := "pseudoJoins", unfollowed := true, recurses := true, apart := false, narrowed := true }
def PseudoJoinsUptoSaid : Prop := pseudoJoinsUptoRow.holds Tryz.pinned (OpenSpec.upto pseudoJoinsSpec)

/-- 'geoproverlaw08.PseudoParts', WHERE WHAT IT READS IS OF BULK AT MOST 1048576: true; the input reads as it did. -/
def pseudoPartsUptoRow : OpenClaim := { program := "ytjkbalanglgoiaagreat", sum := "e90e8c912ac28118ecd3d48dd9d863953afb188903f450a70663424b9a5ec5ed", func := "geoprover/geoproverlaw08.PseudoParts", spec := "pseudoParts", unfollowed := true, recurses := true, apart := false, narrowed := true }
def PseudoPartsUptoSaid : Prop := pseudoPartsUptoRow.holds Tryz.pinned (OpenSpec.upto pseudoPartsSpec)

/-- 'geoproverlaw08.PseudoDivides', WHERE WHAT IT READS IS OF BULK AT MOST 1048576: true; the input reads as it did. -/
def pseudoDividesUptoRow : OpenClaim := { program := "ytjkbalanglgoiaagreat", sum := "e90e8c912ac28118ecd3d48dd9d863953afb188903f450a70663424b9a5ec5ed", func := "geoprover/geoproverlaw08.PseudoDivides", spec := "pseudoDivides", unfollowed := true, recurses := true, apart := false, narrowed := true }
def PseudoDividesUptoSaid : Prop := pseudoDividesUptoRow.holds Tryz.pinned (OpenSpec.upto pseudoDividesSpec)

/-- 'geoproverlaw08.PseudoBack', WHERE WHAT IT READS IS OF BULK AT MOST 1048576: true; the input reads as it did. -/
def pseudoBackUptoRow : OpenClaim := { program := "ytjkbalanglgoiaagreat", sum := "e90e8c912ac28118ecd3d48dd9d863953afb188903f450a70663424b9a5ec5ed", func := "geoprover/geoproverlaw08.PseudoBack", spec := "pseudoBack", unfollowed := true, recurses := true, apart := false, narrowed := true }
def PseudoBackUptoSaid : Prop := pseudoBackUptoRow.holds Tryz.pinned (OpenSpec.upto pseudoBackSpec)

/-- 'geoproverlaw08.PseudoEquation', WHERE WHAT IT READS IS OF BULK AT MOST 1048576: true; the input reads as it did. -/
def pseudoEquationUptoRow : OpenClaim := { program := "ytjkbalanglgoiaagreat", sum := "e90e8c912ac28118ecd3d48dd9d863953afb188903f450a70663424b9a5ec5ed", func := "geoprover/geoproverlaw08.PseudoEquation", spec := "pseudoEquation", unfollowed := true, recurses := true, apart := false, narrowed := true }
def PseudoEquationUptoSaid : Prop := pseudoEquationUptoRow.holds Tryz.pinned (OpenSpec.upto pseudoEquationSpec)

end Rows
end Go.Proofs.YtjkbalanglgoiaaGreat
