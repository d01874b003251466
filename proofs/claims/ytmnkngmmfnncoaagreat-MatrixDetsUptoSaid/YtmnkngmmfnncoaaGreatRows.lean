/-
  No cell of these rows narrows 'for every input' (looked for: loops, veiled, ifaces, maps, wideKeys, modest, calm, conditions, laid).
  DERIVED. THE GIVEN ROWS OF THIS SEAT. 11 by the template 'for every input the law returns true; each argument reads behind the call as it read before'; 0 by the template 'total and deterministic' (their statements: YtmnkngmmfnncoaaGreatTotals.lean).
  GIVEN WITH THE SEED: the statements are not yours to turn. If you find one false, say at which input.
  Laid BY PROGRAM, IN A SANDBOX (cutbox-rows.mjs): the forced cells as the released guide's own fill.sh prints them over the translation d4aefa773d49a760… (all of the seat's roots in one cut). By AI agents, Wed Nov 11 2026. No macro, syntax, notation, axiom, sorry.
-/
import Derived.Test.YtmnkngmmfnncoaaGreatChecked
import GoSem.Claim
import GoSem.ClaimJoined
import GoSem.ClaimMapViews
import Derived.JoinedTies
import Derived.KernelRfl
namespace Go.Proofs.YtmnkngmmfnncoaaGreat
/- THE CELL 'sum', in the pinned program and in every row, IS THE sha256 OF THE DUMP (.gsa) THAT YtmnkngmmfnncoaaGreatProg.lean LOADS. Nothing in Lean hashes anything: it is a label: what it is worth is what the hold of that sum in a sandbox is worth. -/
noncomputable def Tryz.pinned : Pinned := { name := "ytmnkngmmfnncoaagreat", sum := "d4aefa773d49a760e2bbc717d4723257330076c32c754c58b6be5837c3be57f0", checked := Tryz.checked }
namespace Rows
def none {H : Type} : Left H := { results := [], args := [] }

/-- 'geoproverlaw09.MatrixRanks': WHATEVER THE INPUT: true; the input reads as it did. -/
def matrixRanksSpec : ChangeSpec := { name := "matrixRanks", fn := fun _ => fun
  | [d] => { results := [.lit (.bool true)], args := [d] }
  | _ => none }
def matrixRanksRow : OpenClaim := { program := "ytmnkngmmfnncoaagreat", sum := "d4aefa773d49a760e2bbc717d4723257330076c32c754c58b6be5837c3be57f0", func := "geoprover/geoproverlaw09.MatrixRanks", spec := "matrixRanks", unfollowed := true, recurses := true, apart := false }
def MatrixRanksSaid : Prop := matrixRanksRow.holds Tryz.pinned (OpenSpec.ofChange matrixRanksSpec)

/-- ITS FALSE NEIGHBOUR: 'it returns false'. Refute it at one input. -/
def matrixRanksWrong : ChangeSpec := { name := "matrixRanks", fn := fun _ => fun
  | [d] => { results := [.lit (.bool false)], args := [d] }
  | _ => none }
def MatrixRanksWrongFalsely : Prop := matrixRanksRow.holds Tryz.pinned (OpenSpec.ofChange matrixRanksWrong)

/-- 'geoproverlaw09.MatrixMakes': WHATEVER THE INPUT: true; the input reads as it did. -/
def matrixMakesSpec : ChangeSpec := { name := "matrixMakes", fn := fun _ => fun
  | [d1, d2, d3] => { results := [.lit (.bool true)], args := [d1, d2, d3] }
  | _ => none }
def matrixMakesRow : OpenClaim := { program := "ytmnkngmmfnncoaagreat", sum := "d4aefa773d49a760e2bbc717d4723257330076c32c754c58b6be5837c3be57f0", func := "geoprover/geoproverlaw09.MatrixMakes", spec := "matrixMakes", unfollowed := true, recurses := true, apart := false }
def MatrixMakesSaid : Prop := matrixMakesRow.holds Tryz.pinned (OpenSpec.ofChange matrixMakesSpec)

/-- ITS FALSE NEIGHBOUR: 'it returns false'. Refute it at one input. -/
def matrixMakesWrong : ChangeSpec := { name := "matrixMakes", fn := fun _ => fun
  | [d1, d2, d3] => { results := [.lit (.bool false)], args := [d1, d2, d3] }
  | _ => none }
def MatrixMakesWrongFalsely : Prop := matrixMakesRow.holds Tryz.pinned (OpenSpec.ofChange matrixMakesWrong)

/-- 'geoproverlaw09.MatrixReduces': WHATEVER THE INPUT: true; the input reads as it did. -/
def matrixReducesSpec : ChangeSpec := { name := "matrixReduces", fn := fun _ => fun
  | [d1, d2] => { results := [.lit (.bool true)], args := [d1, d2] }
  | _ => none }
def matrixReducesRow : OpenClaim := { program := "ytmnkngmmfnncoaagreat", sum := "d4aefa773d49a760e2bbc717d4723257330076c32c754c58b6be5837c3be57f0", func := "geoprover/geoproverlaw09.MatrixReduces", spec := "matrixReduces", unfollowed := true, recurses := true, apart := false }
def MatrixReducesSaid : Prop := matrixReducesRow.holds Tryz.pinned (OpenSpec.ofChange matrixReducesSpec)

/-- ITS FALSE NEIGHBOUR: 'it returns false'. Refute it at one input. -/
def matrixReducesWrong : ChangeSpec := { name := "matrixReduces", fn := fun _ => fun
  | [d1, d2] => { results := [.lit (.bool false)], args := [d1, d2] }
  | _ => none }
def MatrixReducesWrongFalsely : Prop := matrixReducesRow.holds Tryz.pinned (OpenSpec.ofChange matrixReducesWrong)

/-- 'geoproverlaw09.MatrixForms': WHATEVER THE INPUT: true; the input reads as it did. -/
def matrixFormsSpec : ChangeSpec := { name := "matrixForms", fn := fun _ => fun
  | [d1, d2] => { results := [.lit (.bool true)], args := [d1, d2] }
  | _ => none }
def matrixFormsRow : OpenClaim := { program := "ytmnkngmmfnncoaagreat", sum := "d4aefa773d49a760e2bbc717d4723257330076c32c754c58b6be5837c3be57f0", func := "geoprover/geoproverlaw09.MatrixForms", spec := "matrixForms", unfollowed := true, recurses := true, apart := false }
def MatrixFormsSaid : Prop := matrixFormsRow.holds Tryz.pinned (OpenSpec.ofChange matrixFormsSpec)

/-- ITS FALSE NEIGHBOUR: 'it returns false'. Refute it at one input. -/
def matrixFormsWrong : ChangeSpec := { name := "matrixForms", fn := fun _ => fun
  | [d1, d2] => { results := [.lit (.bool false)], args := [d1, d2] }
  | _ => none }
def MatrixFormsWrongFalsely : Prop := matrixFormsRow.holds Tryz.pinned (OpenSpec.ofChange matrixFormsWrong)

/-- 'geoproverlaw09.MatrixSolves': WHATEVER THE INPUT: true; the input reads as it did. -/
def matrixSolvesSpec : ChangeSpec := { name := "matrixSolves", fn := fun _ => fun
  | [d1, d2] => { results := [.lit (.bool true)], args := [d1, d2] }
  | _ => none }
def matrixSolvesRow : OpenClaim := { program := "ytmnkngmmfnncoaagreat", sum := "d4aefa773d49a760e2bbc717d4723257330076c32c754c58b6be5837c3be57f0", func := "geoprover/geoproverlaw09.MatrixSolves", spec := "matrixSolves", unfollowed := true, recurses := true, apart := false }
def MatrixSolvesSaid : Prop := matrixSolvesRow.holds Tryz.pinned (OpenSpec.ofChange matrixSolvesSpec)

/-- ITS FALSE NEIGHBOUR: 'it returns false'. Refute it at one input. -/
def matrixSolvesWrong : ChangeSpec := { name := "matrixSolves", fn := fun _ => fun
  | [d1, d2] => { results := [.lit (.bool false)], args := [d1, d2] }
  | _ => none }
def MatrixSolvesWrongFalsely : Prop := matrixSolvesRow.holds Tryz.pinned (OpenSpec.ofChange matrixSolvesWrong)

/-- 'geoproverlaw09.MatrixEquations': WHATEVER THE INPUT: true; the input reads as it did. -/
def matrixEquationsSpec : ChangeSpec := { name := "matrixEquations", fn := fun _ => fun
  | [d1, d2] => { results := [.lit (.bool true)], args := [d1, d2] }
  | _ => none }
def matrixEquationsRow : OpenClaim := { program := "ytmnkngmmfnncoaagreat", sum := "d4aefa773d49a760e2bbc717d4723257330076c32c754c58b6be5837c3be57f0", func := "geoprover/geoproverlaw09.MatrixEquations", spec := "matrixEquations", unfollowed := true, recurses := true, apart := false }
def MatrixEquationsSaid : Prop := matrixEquationsRow.holds Tryz.pinned (OpenSpec.ofChange matrixEquationsSpec)

/-- ITS FALSE NEIGHBOUR: 'it returns false'. Refute it at one input. -/
def matrixEquationsWrong : ChangeSpec := { name := "matrixEquations", fn := fun _ => fun
  | [d1, d2] => { results := [.lit (.bool false)], args := [d1, d2] }
  | _ => none }
def MatrixEquationsWrongFalsely : Prop := matrixEquationsRow.holds Tryz.pinned (OpenSpec.ofChange matrixEquationsWrong)

/-- 'geoproverlaw09.MatrixProducts': WHATEVER THE INPUT: true; the input reads as it did. -/
def matrixProductsSpec : ChangeSpec := { name := "matrixProducts", fn := fun _ => fun
  | [d1, d2] => { results := [.lit (.bool true)], args := [d1, d2] }
  | _ => none }
def matrixProductsRow : OpenClaim := { program := "ytmnkngmmfnncoaagreat", sum := "d4aefa773d49a760e2bbc717d4723257330076c32c754c58b6be5837c3be57f0", func := "geoprover/geoproverlaw09.MatrixProducts", spec := "matrixProducts", unfollowed := true, recurses := true, apart := false }
def MatrixProductsSaid : Prop := matrixProductsRow.holds Tryz.pinned (OpenSpec.ofChange matrixProductsSpec)

/-- ITS FALSE NEIGHBOUR: 'it returns false'. Refute it at one input. -/
def matrixProductsWrong : ChangeSpec := { name := "matrixProducts", fn := fun _ => fun
  | [d1, d2] => { results := [.lit (.bool false)], args := [d1, d2] }
  | _ => none }
def MatrixProductsWrongFalsely : Prop := matrixProductsRow.holds Tryz.pinned (OpenSpec.ofChange matrixProductsWrong)

/-- 'geoproverlaw08.PseudoParts': WHATEVER THE INPUT: true; the input reads as it did. -/
def pseudoPartsSpec : ChangeSpec := { name := "pseudoParts", fn := fun _ => fun
  | [d1, d2] => { results := [.lit (.bool true)], args := [d1, d2] }
  | _ => none }
def pseudoPartsRow : OpenClaim := { program := "ytmnkngmmfnncoaagreat", sum := "d4aefa773d49a760e2bbc717d4723257330076c32c754c58b6be5837c3be57f0", func := "geoprover/geoproverlaw08.PseudoParts", spec := "pseudoParts", unfollowed := true, recurses := true, apart := false }
def PseudoPartsSaid : Prop := pseudoPartsRow.holds Tryz.pinned (OpenSpec.ofChange pseudoPartsSpec)

/-- ITS FALSE NEIGHBOUR: 'it returns false'. Refute it at one input. -/
def pseudoPartsWrong : ChangeSpec := { name := "pseudoParts", fn := fun _ => fun
  | [d1, d2] => { results := [.lit (.bool false)], args := [d1, d2] }
  | _ => none }
def PseudoPartsWrongFalsely : Prop := pseudoPartsRow.holds Tryz.pinned (OpenSpec.ofChange pseudoPartsWrong)

/-- 'geoproverlaw09.MatrixDets': WHATEVER THE INPUT: true; the input reads as it did. -/
def matrixDetsSpec : ChangeSpec := { name := "matrixDets", fn := fun _ => fun
  | [d1, d2] => { results := [.lit (.bool true)], args := [d1, d2] }
  | _ => none }
def matrixDetsRow : OpenClaim := { program := "ytmnkngmmfnncoaagreat", sum := "d4aefa773d49a760e2bbc717d4723257330076c32c754c58b6be5837c3be57f0", func := "geoprover/geoproverlaw09.MatrixDets", spec := "matrixDets", unfollowed := true, recurses := true, apart := false }
def MatrixDetsSaid : Prop := matrixDetsRow.holds Tryz.pinned (OpenSpec.ofChange matrixDetsSpec)

/-- ITS FALSE NEIGHBOUR: 'it returns false'. Refute it at one input. -/
def matrixDetsWrong : ChangeSpec := { name := "matrixDets", fn := fun _ => fun
  | [d1, d2] => { results := [.lit (.bool false)], args := [d1, d2] }
  | _ => none }
def MatrixDetsWrongFalsely : Prop := matrixDetsRow.holds Tryz.pinned (OpenSpec.ofChange matrixDetsWrong)

/-- 'geoproverlaw08.PseudoBack': WHATEVER THE INPUT: true; the input reads as it did. -/
def pseudoBackSpec : ChangeSpec := { name := "pseudoBack", fn := fun _ => fun
  | [d1, d2, d3] => { results := [.lit (.bool true)], args := [d1, d2, d3] }
  | _ => none }
def pseudoBackRow : OpenClaim := { program := "ytmnkngmmfnncoaagreat", sum := "d4aefa773d49a760e2bbc717d4723257330076c32c754c58b6be5837c3be57f0", func := "geoprover/geoproverlaw08.PseudoBack", spec := "pseudoBack", unfollowed := true, recurses := true, apart := false }
def PseudoBackSaid : Prop := pseudoBackRow.holds Tryz.pinned (OpenSpec.ofChange pseudoBackSpec)

/-- ITS FALSE NEIGHBOUR: 'it returns false'. Refute it at one input. -/
def pseudoBackWrong : ChangeSpec := { name := "pseudoBack", fn := fun _ => fun
  | [d1, d2, d3] => { results := [.lit (.bool false)], args := [d1, d2, d3] }
  | _ => none }
def PseudoBackWrongFalsely : Prop := pseudoBackRow.holds Tryz.pinned (OpenSpec.ofChange pseudoBackWrong)

/-- 'geoproverlaw08.PseudoEquation': WHATEVER THE INPUT: true; the input reads as it did. -/
def pseudoEquationSpec : ChangeSpec := { name := "pseudoEquation", fn := fun _ => fun
  | [d1, d2, d3] => { results := [.lit (.bool true)], args := [d1, d2, d3] }
  | _ => none }
def pseudoEquationRow : OpenClaim := { program := "ytmnkngmmfnncoaagreat", sum := "d4aefa773d49a760e2bbc717d4723257330076c32c754c58b6be5837c3be57f0", func := "geoprover/geoproverlaw08.PseudoEquation", spec := "pseudoEquation", unfollowed := true, recurses := true, apart := false }
def PseudoEquationSaid : Prop := pseudoEquationRow.holds Tryz.pinned (OpenSpec.ofChange pseudoEquationSpec)

/-- ITS FALSE NEIGHBOUR: 'it returns false'. Refute it at one input. -/
def pseudoEquationWrong : ChangeSpec := { name := "pseudoEquation", fn := fun _ => fun
  | [d1, d2, d3] => { results := [.lit (.bool false)], args := [d1, d2, d3] }
  | _ => none }
def PseudoEquationWrongFalsely : Prop := pseudoEquationRow.holds Tryz.pinned (OpenSpec.ofChange pseudoEquationWrong)

/- THE SECOND FORM. 'bulk': how many values and letters a reading holds, each counted each time it is reached (what is shared counts as often as it is met; a slice's spare places count too). A statement '..UptoSaid' is the law's where the arguments, and the package variables that the reading takes, are together of bulk at most 1048576: NARROWER than '..Said'. Prove '..Said' where nothing that the law and all that it calls make is longer than what came in: it says more and counts as full. Else prove '..UptoSaid'. A law counts once. -/
mutual
def uptoBulk {H : Type} : DataW H → Nat
  | .lit (.string bytes) => bytes.length + 1
  | .lit _ => 1
  | .nil => 1
  | .ptr d => uptoBulk d + 1
  | .slice elems spare => uptoBulkAll elems + uptoBulkAll spare + 1
  | .agg parts => uptoBulkAll parts + 1
  | .iface _ d => uptoBulk d + 1
  | .map entries => uptoBulkEntries entries + 1
  | .held _ => 1
def uptoBulkAll {H : Type} : List (DataW H) → Nat
  | [] => 0
  | d :: r => uptoBulk d + uptoBulkAll r
def uptoBulkEntries {H : Type} : List (Lit × DataW H) → Nat
  | [] => 0
  | x :: r => uptoBulkEntry x + uptoBulkEntries r
def uptoBulkEntry {H : Type} : Lit × DataW H → Nat
  | (.string bytes, d) => bytes.length + uptoBulk d + 1
  | (_, d) => uptoBulk d + 1
 end
def uptoSmall : (H : Type) → List (DataW H) → Bool := fun _ ds => decide (uptoBulkAll ds ≤ 1048576)
def OpenSpec.upto (s : _root_.Go.ChangeSpec) : _root_.Go.OpenSpec := { _root_.Go.OpenSpec.ofChange s with cond := some uptoSmall }

/-- 'geoproverlaw09.MatrixRanks', WHERE WHAT IT READS IS OF BULK AT MOST 1048576: true; the input reads as it did. -/
def matrixRanksUptoRow : OpenClaim := { program := "ytmnkngmmfnncoaagreat", sum := "d4aefa773d49a760e2bbc717d4723257330076c32c754c58b6be5837c3be57f0", func := "geoprover/geoproverlaw09.MatrixRanks", spec := "matrixRanks", unfollowed := true, recurses := true, apart := false, narrowed := true }
def MatrixRanksUptoSaid : Prop := matrixRanksUptoRow.holds Tryz.pinned (OpenSpec.upto matrixRanksSpec)

/-- 'geoproverlaw09.MatrixMakes', WHERE WHAT IT READS IS OF BULK AT MOST 1048576: true; the input reads as it did. -/
def matrixMakesUptoRow : OpenClaim := { program := "ytmnkngmmfnncoaagreat", sum := "d4aefa773d49a760e2bbc717d4723257330076c32c754c58b6be5837c3be57f0", func := "geoprover/geoproverlaw09.MatrixMakes", spec := "matrixMakes", unfollowed := true, recurses := true, apart := false, narrowed := true }
def MatrixMakesUptoSaid : Prop := matrixMakesUptoRow.holds Tryz.pinned (OpenSpec.upto matrixMakesSpec)

/-- 'geoproverlaw09.MatrixReduces', WHERE WHAT IT READS IS OF BULK AT MOST 1048576: true; the input reads as it did. -/
def matrixReducesUptoRow : OpenClaim := { program := "ytmnkngmmfnncoaagreat", sum := "d4aefa773d49a760e2bbc717d4723257330076c32c754c58b6be5837c3be57f0", func := "geoprover/geoproverlaw09.MatrixReduces", spec := "matrixReduces", unfollowed := true, recurses := true, apart := false, narrowed := true }
def MatrixReducesUptoSaid : Prop := matrixReducesUptoRow.holds Tryz.pinned (OpenSpec.upto matrixReducesSpec)

/-- 'geoproverlaw09.MatrixForms', WHERE WHAT IT READS IS OF BULK AT MOST 1048576: true; the input reads as it did. -/
def matrixFormsUptoRow : OpenClaim := { program := "ytmnkngmmfnncoaagreat", sum := "d4aefa773d49a760e2bbc717d4723257330076c32c754c58b6be5837c3be57f0", func := "geoprover/geoproverlaw09.MatrixForms", spec := "matrixForms", unfollowed := true, recurses := true, apart := false, narrowed := true }
def MatrixFormsUptoSaid : Prop := matrixFormsUptoRow.holds Tryz.pinned (OpenSpec.upto matrixFormsSpec)

/-- 'geoproverlaw09.MatrixSolves', WHERE WHAT IT READS IS OF BULK AT MOST 1048576: true; the input reads as it did. -/
def matrixSolvesUptoRow : OpenClaim := { program := "ytmnkngmmfnncoaagreat", sum := "d4aefa773d49a760e2bbc717d4723257330076c32c754c58b6be5837c3be57f0", func := "geoprover/geoproverlaw09.MatrixSolves", spec := "matrixSolves", unfollowed := true, recurses := true, apart := false, narrowed := true }
def MatrixSolvesUptoSaid : Prop := matrixSolvesUptoRow.holds Tryz.pinned (OpenSpec.upto matrixSolvesSpec)

/-- 'geoproverlaw09.MatrixEquations', WHERE WHAT IT READS IS OF BULK AT MOST 1048576: true; the input reads as it did. -/
def matrixEquationsUptoRow : OpenClaim := { program := "ytmnkngmmfnncoaagreat", sum := "d4aefa773d49a760e2bbc717d4723257330076c32c754c58b6be5837c3be57f0", func := "geoprover/geoproverlaw09.MatrixEquations", spec := "matrixEquations", unfollowed := true, recurses := true, apart := false, narrowed := true }
def MatrixEquationsUptoSaid : Prop := matrixEquationsUptoRow.holds Tryz.pinned (OpenSpec.upto matrixEquationsSpec)

/-- 'geoproverlaw09.MatrixProducts', WHERE WHAT IT READS IS OF BULK AT MOST 1048576: true; the input reads as it did. -/
def matrixProductsUptoRow : OpenClaim := { program := "ytmnkngmmfnncoaagreat", sum := "d4aefa773d49a760e2bbc717d4723257330076c32c754c58b6be5837c3be57f0", func := "geoprover/geoproverlaw09.MatrixProducts", spec := "matrixProducts", unfollowed := true, recurses := true, apart := false, narrowed := true }
def MatrixProductsUptoSaid : Prop := matrixProductsUptoRow.holds Tryz.pinned (OpenSpec.upto matrixProductsSpec)

/-- 'geoproverlaw08.PseudoParts', WHERE WHAT IT READS IS OF BULK AT MOST 1048576: true; the input reads as it did. -/
def pseudoPartsUptoRow : OpenClaim := { program := "ytmnkngmmfnncoaagreat", sum := "d4aefa773d49a760e2bbc717d4723257330076c32c754c58b6be5837c3be57f0", func := "geoprover/geoproverlaw08.PseudoParts", spec := "pseudoParts", unfollowed := true, recurses := true, apart := false, narrowed := true }
def PseudoPartsUptoSaid : Prop := pseudoPartsUptoRow.holds Tryz.pinned (OpenSpec.upto pseudoPartsSpec)

/-- 'geoproverlaw09.MatrixDets', WHERE WHAT IT READS IS OF BULK AT MOST 1048576: true; the input reads as it did. -/
def matrixDetsUptoRow : OpenClaim := { program := "ytmnkngmmfnncoaagreat", sum := "d4aefa773d49a760e2bbc717d4723257330076c32c754c58b6be5837c3be57f0", func := "geoprover/geoproverlaw09.MatrixDets", spec := "matrixDets", unfollowed := true, recurses := true, apart := false, narrowed := true }
def MatrixDetsUptoSaid : Prop := matrixDetsUptoRow.holds Tryz.pinned (OpenSpec.upto matrixDetsSpec)

/-- 'geoproverlaw08.PseudoBack', WHERE WHAT IT READS IS OF BULK AT MOST 1048576: true; the input reads as it did. -/
def pseudoBackUptoRow : OpenClaim := { program := "ytmnkngmmfnncoaagreat", sum := "d4aefa773d49a760e2bbc717d4723257330076c32c754c58b6be5837c3be57f0", func := "geoprover/geoproverlaw08.PseudoBack", spec := "pseudoBack", unfollowed := true, recurses := true, apart := false, narrowed := true }
def PseudoBackUptoSaid : Prop := pseudoBackUptoRow.holds Tryz.pinned (OpenSpec.upto pseudoBackSpec)

/-- 'geoproverlaw08.PseudoEquation', WHERE WHAT IT READS IS OF BULK AT MOST 1048576: true; the input reads as it did. -/
def pseudoEquationUptoRow : OpenClaim := { program := "ytmnkngmmfnncoaagreat", sum := "d4aefa773d49a760e2bbc717d4723257330076c32c754c58b6be5837c3be57f0", func := "geoprover/geoproverlaw08.PseudoEquation", spec := "pseudoEquation", unfollowed := true, recurses := true, apart := false, narrowed := true }
def PseudoEquationUptoSaid : Prop := pseudoEquationUptoRow.holds Tryz.pinned (OpenSpec.upto pseudoEquationSpec)

end Rows
end Go.Proofs.YtmnkngmmfnncoaaGreat
