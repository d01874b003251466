/-
  No cell of these rows narrows 'for every input' (looked for: loops, veiled, ifaces, maps, wideKeys, modest, calm, conditions, laid).
  DERIVED. THE GIVEN ROWS OF THIS SEAT. 3 by the template 'for every input the law returns true; each argument reads behind the call as it read before'; 0 by the template 'total and deterministic' (their statements: YtdjoomkeehihmaaGreatTotals.lean).
  GIVEN WITH THE SEED: the statements are not yours to turn. If you find one false, say at which input.
  Laid BY PROGRAM, IN A SANDBOX (cutbox-rows.mjs): the forced cells as the released guide's own fill.sh prints them over the translation 4a4d92f2c21e2def… (all of the seat's roots in one cut). By AI agents, Wed Nov 11 2026. No macro, syntax, notation, axiom, sorry.
-/
import Derived.Test.YtdjoomkeehihmaaGreatChecked
import GoSem.Claim
import GoSem.ClaimJoined
import GoSem.ClaimMapViews
import Derived.JoinedTies
import Derived.KernelRfl
namespace Go.Proofs.YtdjoomkeehihmaaGreat
/- THE CELL 'sum', in the pinned program and in every row, IS THE sha256 OF THE DUMP (.gsa) THAT YtdjoomkeehihmaaGreatProg.lean LOADS. Nothing in Lean hashes anything: it is a label: what it is worth is what the hold of that sum in a sandbox is worth. -/
noncomputable def Tryz.pinned : Pinned := { name := "ytdjoomkeehihmaagreat", sum := "4a4d92f2c21e2def67b8bf882589d0dda5a5e210a924f57177991e74dfd6f41a", checked := Tryz.checked }
namespace Rows
def none {H : Type} : Left H := { results := [], args := [] }

/-- 'geoproverlaw11.TriangularMakes': WHATEVER THE INPUT: true; the input reads as it did. -/
def triangularMakesSpec : ChangeSpec := { name := "triangularMakes", fn := fun _ => fun
  | [d] => { results := [.lit (.bool true)], args := [d] }
  | _ => none }
def triangularMakesRow : OpenClaim := { program := "ytdjoomkeehihmaagreat", sum := "4a4d92f2c21e2def67b8bf882589d0dda5a5e210a924f57177991e74dfd6f41a", func := "geoprover/geoproverlaw11.TriangularMakes", spec := "triangularMakes", unfollowed := true, recurses := true, apart := false }
def TriangularMakesSaid : Prop := triangularMakesRow.holds Tryz.pinned (OpenSpec.ofChange triangularMakesSpec)

/-- ITS FALSE NEIGHBOUR: 'it returns false'. Refute it at one input. -/
def triangularMakesWrong : ChangeSpec := { name := "triangularMakes", fn := fun _ => fun
  | [d] => { results := [.lit (.bool false)], args := [d] }
  | _ => none }
def TriangularMakesWrongFalsely : Prop := triangularMakesRow.holds Tryz.pinned (OpenSpec.ofChange triangularMakesWrong)

/-- 'geoproverlaw11.TriangularElements': WHATEVER THE INPUT: true; the input reads as it did. -/
def triangularElementsSpec : ChangeSpec := { name := "triangularElements", fn := fun _ => fun
  | [d] => { results := [.lit (.bool true)], args := [d] }
  | _ => none }
def triangularElementsRow : OpenClaim := { program := "ytdjoomkeehihmaagreat", sum := "4a4d92f2c21e2def67b8bf882589d0dda5a5e210a924f57177991e74dfd6f41a", func := "geoprover/geoproverlaw11.TriangularElements", spec := "triangularElements", unfollowed := true, recurses := true, apart := false }
def TriangularElementsSaid : Prop := triangularElementsRow.holds Tryz.pinned (OpenSpec.ofChange triangularElementsSpec)

/-- ITS FALSE NEIGHBOUR: 'it returns false'. Refute it at one input. -/
def triangularElementsWrong : ChangeSpec := { name := "triangularElements", fn := fun _ => fun
  | [d] => { results := [.lit (.bool false)], args := [d] }
  | _ => none }
def TriangularElementsWrongFalsely : Prop := triangularElementsRow.holds Tryz.pinned (OpenSpec.ofChange triangularElementsWrong)

/-- 'geoproverlaw11.TriangularZeros': WHATEVER THE INPUT: true; the input reads as it did. -/
def triangularZerosSpec : ChangeSpec := { name := "triangularZeros", fn := fun _ => fun
  | [d1, d2] => { results := [.lit (.bool true)], args := [d1, d2] }
  | _ => none }
def triangularZerosRow : OpenClaim := { program := "ytdjoomkeehihmaagreat", sum := "4a4d92f2c21e2def67b8bf882589d0dda5a5e210a924f57177991e74dfd6f41a", func := "geoprover/geoproverlaw11.TriangularZeros", spec := "triangularZeros", unfollowed := true, recurses := true, apart := false }
def TriangularZerosSaid : Prop := triangularZerosRow.holds Tryz.pinned (OpenSpec.ofChange triangularZerosSpec)

/-- ITS FALSE NEIGHBOUR: 'it returns false'. Refute it at one input. -/
def triangularZerosWrong : ChangeSpec := { name := "triangularZeros", fn := fun _ => fun
  | [d1, d2] => { results := [.lit (.bool false)], args := [d1, d2] }
  | _ => none }
def TriangularZerosWrongFalsely : Prop := triangularZerosRow.holds Tryz.pinned (OpenSpec.ofChange triangularZerosWrong)

/- THE SECOND FORM. 'bulk': how many values and letters a reading holds, each counted each time it is reached (what is shared counts as often as it is met; a slice's spare places count too). A statement '..UptoSaid' is the law's where the arguments, and the package variables that the reading takes, are together of bulk at most 1048576: NARROWER than '..Said'. Prove '..Said' where nothing that the law and all that it calls make is longer than what came in: it says more and counts as full. Else prove '..UptoSaid'. A law counts once. -/
mutual
def uptoBulk {H : Type} : DataW H → Nat
  | .lit (.string bytes) => bytes.length + 1
  | .lit _ => 1
  | .nil => 1
  | .ptr d => uptoBulk d + 1
  | .slice elems spare => uptoBulkAll elems + uptoBulkAll spare + 1
  | .agg parts => uptoBulkAll parts + 1
  | .iface _ d => uptoBulk d + 1
  | .map entries => uptoBulkEntries entries + 1
  | .held _ => 1
def uptoBulkAll {H : Type} : List (DataW H) → Nat
  | [] => 0
  | d :: r => uptoBulk d + uptoBulkAll r
def uptoBulkEntries {H : Type} : List (Lit × DataW H) → Nat
  | [] => 0
  | x :: r => uptoBulkEntry x + uptoBulkEntries r
def uptoBulkEntry {H : Type} : Lit × DataW H → Nat
  | (.string bytes, d) => bytes.length + uptoBulk d + 1
  | (_, d) => uptoBulk d + 1
 end
def uptoSmall : (H : Type) → List (DataW H) → Bool := fun _ ds => decide (uptoBulkAll ds ≤ 1048576)
def OpenSpec.upto (s : _root_.Go.ChangeSpec) : _root_.Go.OpenSpec := { _root_.Go.OpenSpec.ofChange s with cond := some uptoSmall }

/-- 'geoproverlaw11.TriangularMakes', WHERE WHAT IT READS IS OF BULK AT MOST 1048576: true; the input reads as it did. -/
def triangularMakesUptoRow : OpenClaim := { program := "ytdjoomkeehihmaagreat", sum := "4a4d92f2c21e2def67b8bf882589d0dda5a5e210a924f57177991e74dfd6f41a", func := "geoprover/geoproverlaw11.TriangularMakes", spec := "triangularMakes", unfollowed := true, recurses := true, apart := false, narrowed := true }
def TriangularMakesUptoSaid : Prop := triangularMakesUptoRow.holds Tryz.pinned (OpenSpec.upto triangularMakesSpec)

/-- 'geoproverlaw11.TriangularElements', WHERE WHAT IT READS IS OF BULK AT MOST 1048576: true; the input reads as it did. -/
def triangularElementsUptoRow : OpenClaim := { program := "ytdjoomkeehihmaagreat", sum := "4a4d92f2c21e2def67b8bf882589d0dda5a5e210a924f57177991e74dfd6f41a", func := "geoprover/geoproverlaw11.TriangularElements", spec := "triangularElements", unfollowed := true, recurses := true, apart := false, narrowed := true }
def TriangularElementsUptoSaid : Prop := triangularElementsUptoRow.holds Tryz.pinned (OpenSpec.upto triangularElementsSpec)

/-- 'geoproverlaw11.TriangularZeros', WHERE WHAT IT READS IS OF BULK AT MOST 1048576: true; the input reads as it did. -/
def triangularZerosUptoRow : OpenClaim := { program := "ytdjoomkeehihmaagreat", sum := "4a4d92f2c21e2def67b8bf882589d0dda5a5e210a924f57177991e74dfd6f41a", func := "geoprover/geoproverlaw11.TriangularZeros", spec := "triangularZeros", unfollowed := true, recurses := true, apart := false, narrowed := true }
def TriangularZerosUptoSaid : Prop := triangularZerosUptoRow.holds Tryz.pinned (OpenSpec.upto triangularZerosSpec)

end Rows
end Go.Proofs.YtdjoomkeehihmaaGreat
