/-
  No cell of these rows narrows 'for every input' (looked for: loops, veiled, ifaces, maps, wideKeys, modest, calm, conditions, laid).
  DERIVED. THE GIVEN ROWS OF THIS SEAT. 7 by the template 'for every input the law returns true; each argument reads behind the call as it read before'; 0 by the template 'total and deterministic' (their statements: YtkoclfmjlolkhaaGreatTotals.lean).
  GIVEN WITH THE SEED: the statements are not yours to turn. If you find one false, say at which input.
  Laid BY PROGRAM, IN A SANDBOX (cutbox-rows.mjs): the forced cells as the released guide's own fill.sh prints them over the translation fdd5836fe4fa4363… (all of the seat's roots in one cut). By AI agents, Wed Nov 11 2026. No macro, syntax, notation, axiom, sorry.
-/
import Derived.Test.YtkoclfmjlolkhaaGreatChecked
import GoSem.Claim
import GoSem.ClaimJoined
import GoSem.ClaimMapViews
import Derived.JoinedTies
import Derived.KernelRfl
namespace Go.Proofs.YtkoclfmjlolkhaaGreat
/- THE CELL 'sum', in the pinned program and in every row, IS THE sha256 OF THE DUMP (.gsa) THAT YtkoclfmjlolkhaaGreatProg.lean LOADS. Nothing in Lean hashes anything: it is a label: what it is worth is what the hold of that sum in a sandbox is worth. -/
noncomputable def Tryz.pinned : Pinned := { name := "ytkoclfmjlolkhaagreat", sum := "fdd5836fe4fa4363e907e3cc490d22c7e4ecf524ec2e35b7d0649cdfb0186cd0", checked := Tryz.checked }
namespace Rows
def none {H : Type} : Left H := { results := [], args := [] }

/-- 'geoproverlaw09.MatrixSolves': WHATEVER THE INPUT: true; the input reads as it did. -/
def matrixSolvesSpec : ChangeSpec := { name := "matrixSolves", fn := fun _ => fun
  | [d1, d2] => { results := [.lit (.bool true)], args := [d1, d2] }
  | _ => none }
def matrixSolvesRow : OpenClaim := { program := "ytkoclfmjlolkhaagreat", sum := "fdd5836fe4fa4363e907e3cc490d22c7e4ecf524ec2e35b7d0649cdfb0186cd0", func := "geoprover/geoproverlaw09.MatrixSolves", spec := "matrixSolves", unfollowed := true, recurses := true, apart := false }
def MatrixSolvesSaid : Prop := matrixSolvesRow.holds Tryz.pinned (OpenSpec.ofChange matrixSolvesSpec)

/-- ITS FALSE NEIGHBOUR: 'it returns false'. Refute it at one input. -/
def matrixSolvesWrong : ChangeSpec := { name := "matrixSolves", fn := fun _ => fun
  | [d1, d2] => { results := [.lit (.bool false)], args := [d1, d2] }
  | _ => none }
def MatrixSolvesWrongFalsely : Prop := matrixSolvesRow.holds Tryz.pinned (OpenSpec.ofChange matrixSolvesWrong)

/-- 'geoproverlaw47.SquaresQuadratics': WHATEVER THE INPUT: true; the input reads as it did. -/
def squaresQuadraticsSpec : ChangeSpec := { name := "squaresQuadratics", fn := fun _ => fun
  | [d] => { results := [.lit (.bool true)], args := [d] }
  | _ => none }
def squaresQuadraticsRow : OpenClaim := { program := "ytkoclfmjlolkhaagreat", sum := "fdd5836fe4fa4363e907e3cc490d22c7e4ecf524ec2e35b7d0649cdfb0186cd0", func := "geoprover/geoproverlaw47.SquaresQuadratics", spec := "squaresQuadratics", unfollowed := true, recurses := true, apart := false }
def SquaresQuadraticsSaid : Prop := squaresQuadraticsRow.holds Tryz.pinned (OpenSpec.ofChange squaresQuadraticsSpec)

/-- ITS FALSE NEIGHBOUR: 'it returns false'. Refute it at one input. -/
def squaresQuadraticsWrong : ChangeSpec := { name := "squaresQuadratics", fn := fun _ => fun
  | [d] => { results := [.lit (.bool false)], args := [d] }
  | _ => none }
def SquaresQuadraticsWrongFalsely : Prop := squaresQuadraticsRow.holds Tryz.pinned (OpenSpec.ofChange squaresQuadraticsWrong)

/-- 'geoproverlaw47.SquaresForms': WHATEVER THE INPUT: true; the input reads as it did. -/
def squaresFormsSpec : ChangeSpec := { name := "squaresForms", fn := fun _ => fun
  | [d1, d2] => { results := [.lit (.bool true)], args := [d1, d2] }
  | _ => none }
def squaresFormsRow : OpenClaim := { program := "ytkoclfmjlolkhaagreat", sum := "fdd5836fe4fa4363e907e3cc490d22c7e4ecf524ec2e35b7d0649cdfb0186cd0", func := "geoprover/geoproverlaw47.SquaresForms", spec := "squaresForms", unfollowed := true, recurses := true, apart := false }
def SquaresFormsSaid : Prop := squaresFormsRow.holds Tryz.pinned (OpenSpec.ofChange squaresFormsSpec)

/-- ITS FALSE NEIGHBOUR: 'it returns false'. Refute it at one input. -/
def squaresFormsWrong : ChangeSpec := { name := "squaresForms", fn := fun _ => fun
  | [d1, d2] => { results := [.lit (.bool false)], args := [d1, d2] }
  | _ => none }
def SquaresFormsWrongFalsely : Prop := squaresFormsRow.holds Tryz.pinned (OpenSpec.ofChange squaresFormsWrong)

/-- 'geoproverlaw47.SquaresGrams': WHATEVER THE INPUT: true; the input reads as it did. -/
def squaresGramsSpec : ChangeSpec := { name := "squaresGrams", fn := fun _ => fun
  | [d1, d2, d3] => { results := [.lit (.bool true)], args := [d1, d2, d3] }
  | _ => none }
def squaresGramsRow : OpenClaim := { program := "ytkoclfmjlolkhaagreat", sum := "fdd5836fe4fa4363e907e3cc490d22c7e4ecf524ec2e35b7d0649cdfb0186cd0", func := "geoprover/geoproverlaw47.SquaresGrams", spec := "squaresGrams", unfollowed := true, recurses := true, apart := false }
def SquaresGramsSaid : Prop := squaresGramsRow.holds Tryz.pinned (OpenSpec.ofChange squaresGramsSpec)

/-- ITS FALSE NEIGHBOUR: 'it returns false'. Refute it at one input. -/
def squaresGramsWrong : ChangeSpec := { name := "squaresGrams", fn := fun _ => fun
  | [d1, d2, d3] => { results := [.lit (.bool false)], args := [d1, d2, d3] }
  | _ => none }
def SquaresGramsWrongFalsely : Prop := squaresGramsRow.holds Tryz.pinned (OpenSpec.ofChange squaresGramsWrong)

/-- 'geoproverlaw47.SquaresPositive': WHATEVER THE INPUT: true; the input reads as it did. -/
def squaresPositiveSpec : ChangeSpec := { name := "squaresPositive", fn := fun _ => fun
  | [d1, d2] => { results := [.lit (.bool true)], args := [d1, d2] }
  | _ => none }
def squaresPositiveRow : OpenClaim := { program := "ytkoclfmjlolkhaagreat", sum := "fdd5836fe4fa4363e907e3cc490d22c7e4ecf524ec2e35b7d0649cdfb0186cd0", func := "geoprover/geoproverlaw47.SquaresPositive", spec := "squaresPositive", unfollowed := true, recurses := true, apart := false }
def SquaresPositiveSaid : Prop := squaresPositiveRow.holds Tryz.pinned (OpenSpec.ofChange squaresPositiveSpec)

/-- ITS FALSE NEIGHBOUR: 'it returns false'. Refute it at one input. -/
def squaresPositiveWrong : ChangeSpec := { name := "squaresPositive", fn := fun _ => fun
  | [d1, d2] => { results := [.lit (.bool false)], args := [d1, d2] }
  | _ => none }
def SquaresPositiveWrongFalsely : Prop := squaresPositiveRow.holds Tryz.pinned (OpenSpec.ofChange squaresPositiveWrong)

/-- 'geoproverlaw47.SquaresSums': WHATEVER THE INPUT: true; the input reads as it did. -/
def squaresSumsSpec : ChangeSpec := { name := "squaresSums", fn := fun _ => fun
  | [d1, d2] => { results := [.lit (.bool true)], args := [d1, d2] }
  | _ => none }
def squaresSumsRow : OpenClaim := { program := "ytkoclfmjlolkhaagreat", sum := "fdd5836fe4fa4363e907e3cc490d22c7e4ecf524ec2e35b7d0649cdfb0186cd0", func := "geoprover/geoproverlaw47.SquaresSums", spec := "squaresSums", unfollowed := true, recurses := true, apart := false }
def SquaresSumsSaid : Prop := squaresSumsRow.holds Tryz.pinned (OpenSpec.ofChange squaresSumsSpec)

/-- ITS FALSE NEIGHBOUR: 'it returns false'. Refute it at one input. -/
def squaresSumsWrong : ChangeSpec := { name := "squaresSums", fn := fun _ => fun
  | [d1, d2] => { results := [.lit (.bool false)], args := [d1, d2] }
  | _ => none }
def SquaresSumsWrongFalsely : Prop := squaresSumsRow.holds Tryz.pinned (OpenSpec.ofChange squaresSumsWrong)

/-- 'geoproverlaw47.SquaresProofs': WHATEVER THE INPUT: true; the input reads as it did. -/
def squaresProofsSpec : ChangeSpec := { name := "squaresProofs", fn := fun _ => fun
  | [d1, d2] => { results := [.lit (.bool true)], args := [d1, d2] }
  | _ => none }
def squaresProofsRow : OpenClaim := { program := "ytkoclfmjlolkhaagreat", sum := "fdd5836fe4fa4363e907e3cc490d22c7e4ecf524ec2e35b7d0649cdfb0186cd0", func := "geoprover/geoproverlaw47.SquaresProofs", spec := "squaresProofs", unfollowed := true, recurses := true, apart := false }
def SquaresProofsSaid : Prop := squaresProofsRow.holds Tryz.pinned (OpenSpec.ofChange squaresProofsSpec)

/-- ITS FALSE NEIGHBOUR: 'it returns false'. Refute it at one input. -/
def squaresProofsWrong : ChangeSpec := { name := "squaresProofs", fn := fun _ => fun
  | [d1, d2] => { results := [.lit (.bool false)], args := [d1, d2] }
  | _ => none }
def SquaresProofsWrongFalsely : Prop := squaresProofsRow.holds Tryz.pinned (OpenSpec.ofChange squaresProofsWrong)

/- THE SECOND FORM. 'bulk': how many values and letters a reading holds, each counted each time it is reached (what is shared counts as often as it is met; a slice's spare places count too). A statement '..UptoSaid' is the law's where the arguments, and the package variables that the reading takes, are together of bulk at most 1048576: NARROWER than '..Said'. Prove '..Said' where nothing that the law and all that it calls make is longer than what came in: it says more and counts as full. Else prove '..UptoSaid'. A law counts once. -/
mutual
def uptoBulk {H : Type} : DataW H → Nat
  | .lit (.string bytes) => bytes.length + 1
  | .lit _ => 1
  | .nil => 1
  | .ptr d => uptoBulk d + 1
  | .slice elems spare => uptoBulkAll elems + uptoBulkAll spare + 1
  | .agg parts => uptoBulkAll parts + 1
  | .iface _ d => uptoBulk d + 1
  | .map entries => uptoBulkEntries entries + 1
  | .held _ => 1
def uptoBulkAll {H : Type} : List (DataW H) → Nat
  | [] => 0
  | d :: r => uptoBulk d + uptoBulkAll r
def uptoBulkEntries {H : Type} : List (Lit × DataW H) → Nat
  | [] => 0
  | x :: r => uptoBulkEntry x + uptoBulkEntries r
def uptoBulkEntry {H : Type} : Lit × DataW H → Nat
  | (.string bytes, d) => bytes.length + uptoBulk d + 1
  | (_, d) => uptoBulk d + 1
 end
def uptoSmall : (H : Type) → List (DataW H) → Bool := fun _ ds => decide (uptoBulkAll ds ≤ 1048576)
def OpenSpec.upto (s : _root_.Go.ChangeSpec) : _root_.Go.OpenSpec := { _root_.Go.OpenSpec.ofChange s with cond := some uptoSmall }

/-- 'geoproverlaw09.MatrixSolves', WHERE WHAT IT READS IS OF BULK AT MOST 1048576: true; the input reads as it did. -/
def matrixSolvesUptoRow : OpenClaim := { program := "ytkoclfmjlolkhaagreat", sum := "fdd5836fe4fa4363e907e3cc490d22c7e4ecf524ec2e35b7d0649cdfb0186cd0", func := "geoprover/geoproverlaw09.MatrixSolves", spec := "matrixSolves", unfollowed := true, recurses := true, apart := false, narrowed := true }
def MatrixSolvesUptoSaid : Prop := matrixSolvesUptoRow.holds Tryz.pinned (OpenSpec.upto matrixSolvesSpec)

/-- 'geoproverlaw47.SquaresQuadratics', WHERE WHAT IT READS IS OF BULK AT MOST 1048576: true; the input reads as it did. -/
def squaresQuadraticsUptoRow : OpenClaim := { program := "ytkoclfmjlolkhaagreat", sum := "fdd5836fe4fa4363e907e3cc490d22c7e4ecf524ec2e35b7d0649cdfb0186cd0", func := "geoprover/geoproverlaw47.SquaresQuadratics", spec := "squaresQuadratics", unfollowed := true, recurses := true, apart := false, narrowed := true }
def SquaresQuadraticsUptoSaid : Prop := squaresQuadraticsUptoRow.holds Tryz.pinned (OpenSpec.upto squaresQuadraticsSpec)

/-- 'geoproverlaw47.SquaresForms', WHERE WHAT IT READS IS OF BULK AT MOST 1048576: true; the input reads as it did. -/
def squaresFormsUptoRow : OpenClaim := { program := "ytkoclfmjlolkhaagreat", sum := "fdd5836fe4fa4363e907e3cc490d22c7e4ecf524ec2e35b7d0649cdfb0186cd0", func := "geoprover/geoproverlaw47.SquaresForms", spec := "squaresForms", unfollowed := true, recurses := true, apart := false, narrowed := true }
def SquaresFormsUptoSaid : Prop := squaresFormsUptoRow.holds Tryz.pinned (OpenSpec.upto squaresFormsSpec)

/-- 'geoproverlaw47.SquaresGrams', WHERE WHAT IT READS IS OF BULK AT MOST 1048576: true; the input reads as it did. -/
def squaresGramsUptoRow : OpenClaim := { program := "ytkoclfmjlolkhaagreat", sum := "fdd5836fe4fa4363e907e3cc490d22c7e4ecf524ec2e35b7d0649cdfb0186cd0", func := "geoprover/geoproverlaw47.SquaresGrams", spec := "squaresGrams", unfollowed := true, recurses := true, apart := false, narrowed := true }
def SquaresGramsUptoSaid : Prop := squaresGramsUptoRow.holds Tryz.pinned (OpenSpec.upto squaresGramsSpec)

/-- 'geoproverlaw47.SquaresPositive', WHERE WHAT IT READS IS OF BULK AT MOST 1048576: true; the input reads as it did. -/
def squaresPositiveUptoRow : OpenClaim := { program := "ytkoclfmjlolkhaagreat", sum := "fdd5836fe4fa4363e907e3cc490d22c7e4ecf524ec2e35b7d0649cdfb0186cd0", func := "geoprover/geoproverlaw47.SquaresPositive", spec := "squaresPositive", unfollowed := true, recurses := true, apart := false, narrowed := true }
def SquaresPositiveUptoSaid : Prop := squaresPositiveUptoRow.holds Tryz.pinned (OpenSpec.upto squaresPositiveSpec)

/-- 'geoproverlaw47.SquaresSums', WHERE WHAT IT READS IS OF BULK AT MOST 1048576: true; the input reads as it did. -/
def squaresSumsUptoRow : OpenClaim := { program := "ytkoclfmjlolkhaagreat", sum := "fdd5836fe4fa4363e907e3cc490d22c7e4ecf524ec2e35b7d0649cdfb0186cd0", func := "geoprover/geoproverlaw47.SquaresSums", spec := "squaresSums", unfollowed := true, recurses := true, apart := false, narrowed := true }
def SquaresSumsUptoSaid : Prop := squaresSumsUptoRow.holds Tryz.pinned (OpenSpec.upto squaresSumsSpec)

/-- 'geoproverlaw47.SquaresProofs', WHERE WHAT IT READS IS OF BULK AT MOST 1048576: true; the input reads as it did. -/
def squaresProofsUptoRow : OpenClaim := { program := "ytkoclfmjlolkhaagreat", sum := "fdd5836fe4fa4363e907e3cc490d22c7e4ecf524ec2e35b7d0649cdfb0186cd0", func := "geoprover/geoproverlaw47.SquaresProofs", spec := "squaresProofs", unfollowed := true, recurses := true, apart := false, narrowed := true }
def SquaresProofsUptoSaid : Prop := squaresProofsUptoRow.holds Tryz.pinned (OpenSpec.upto squaresProofsSpec)

end Rows
end Go.Proofs.YtkoclfmjlolkhaaGreat
