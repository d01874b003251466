/-
  No cell of these rows narrows 'for every input' (looked for: loops, veiled, ifaces, maps, wideKeys, modest, calm, conditions, laid).
  DERIVED. THE GIVEN ROWS OF THIS SEAT. 3 by the template 'for every input the law returns true; each argument reads behind the call as it read before'; 0 by the template 'total and deterministic' (their statements: YtdaldpkjhcfblaaGreatTotals.lean).
  GIVEN WITH THE SEED: the statements are not yours to turn. If you find one false, say at which input.
  Laid BY PROGRAM, IN A SANDBOX (cutbox-rows.mjs): the forced cells as the released guide's own fill.sh prints them over the translation f26cdaa33e884d3b… (all of the seat's roots in one cut). By AI agents, Wed Nov 11 2026. No macro, syntax, notation, axiom, sorry.
-/
import Derived.Test.YtdaldpkjhcfblaaGreatChecked
import GoSem.Claim
import GoSem.ClaimJoined
import GoSem.ClaimMapViews
import Derived.JoinedTies
import Derived.KernelRfl
namespace Go.Proofs.YtdaldpkjhcfblaaGreat
/- THE CELL 'sum', in the pinned program and in every row, IS THE sha256 OF THE DUMP (.gsa) THAT YtdaldpkjhcfblaaGreatProg.lean LOADS. Nothing in Lean hashes anything: it is a label: what it is worth is what the hold of that sum in a sandbox is worth. -/
noncomputable def Tryz.pinned : Pinned := { name := "ytdaldpkjhcfblaagreat", sum := "f26cdaa33e884d3bdb5ac3d3b15a8052fedc90f7bfaacc6f81bd6cbdc4f96ef9", checked := Tryz.checked }
namespace Rows
def none {H : Type} : Left H := { results := [], args := [] }

/-- 'geoproverlaw11.TriangularReduces': WHATEVER THE INPUT: true; the input reads as it did. -/
def triangularReducesSpec : ChangeSpec := { name := "triangularReduces", fn := fun _ => fun
  | [d1, d2] => { results := [.lit (.bool true)], args := [d1, d2] }
  | _ => none }
def triangularReducesRow : OpenClaim := { program := "ytdaldpkjhcfblaagreat", sum := "f26cdaa33e884d3bdb5ac3d3b15a8052fedc90f7bfaacc6f81bd6cbdc4f96ef9", func := "geoprover/geoproverlaw11.TriangularReduces", spec := "triangularReduces", unfollowed := true, recurses := true, apart := false }
def TriangularReducesSaid : Prop := triangularReducesRow.holds Tryz.pinned (OpenSpec.ofChange triangularReducesSpec)

/-- ITS FALSE NEIGHBOUR: 'it returns false'. Refute it at one input. -/
def triangularReducesWrong : ChangeSpec := { name := "triangularReduces", fn := fun _ => fun
  | [d1, d2] => { results := [.lit (.bool false)], args := [d1, d2] }
  | _ => none }
def TriangularReducesWrongFalsely : Prop := triangularReducesRow.holds Tryz.pinned (OpenSpec.ofChange triangularReducesWrong)

/-- 'geoproverlaw11.TriangularEquation': WHATEVER THE INPUT: true; the input reads as it did. -/
def triangularEquationSpec : ChangeSpec := { name := "triangularEquation", fn := fun _ => fun
  | [d1, d2] => { results := [.lit (.bool true)], args := [d1, d2] }
  | _ => none }
def triangularEquationRow : OpenClaim := { program := "ytdaldpkjhcfblaagreat", sum := "f26cdaa33e884d3bdb5ac3d3b15a8052fedc90f7bfaacc6f81bd6cbdc4f96ef9", func := "geoprover/geoproverlaw11.TriangularEquation", spec := "triangularEquation", unfollowed := true, recurses := true, apart := false }
def TriangularEquationSaid : Prop := triangularEquationRow.holds Tryz.pinned (OpenSpec.ofChange triangularEquationSpec)

/-- ITS FALSE NEIGHBOUR: 'it returns false'. Refute it at one input. -/
def triangularEquationWrong : ChangeSpec := { name := "triangularEquation", fn := fun _ => fun
  | [d1, d2] => { results := [.lit (.bool false)], args := [d1, d2] }
  | _ => none }
def TriangularEquationWrongFalsely : Prop := triangularEquationRow.holds Tryz.pinned (OpenSpec.ofChange triangularEquationWrong)

/-- 'geoproverlaw11.TriangularChains': WHATEVER THE INPUT: true; the input reads as it did. -/
def triangularChainsSpec : ChangeSpec := { name := "triangularChains", fn := fun _ => fun
  | [d] => { results := [.lit (.bool true)], args := [d] }
  | _ => none }
def triangularChainsRow : OpenClaim := { program := "ytdaldpkjhcfblaagreat", sum := "f26cdaa33e884d3bdb5ac3d3b15a8052fedc90f7bfaacc6f81bd6cbdc4f96ef9", func := "geoprover/geoproverlaw11.TriangularChains", spec := "triangularChains", unfollowed := true, recurses := true, apart := false }
def TriangularChainsSaid : Prop := triangularChainsRow.holds Tryz.pinned (OpenSpec.ofChange triangularChainsSpec)

/-- ITS FALSE NEIGHBOUR: 'it returns false'. Refute it at one input. -/
def triangularChainsWrong : ChangeSpec := { name := "triangularChains", fn := fun _ => fun
  | [d] => { results := [.lit (.bool false)], args := [d] }
  | _ => none }
def TriangularChainsWrongFalsely : Prop := triangularChainsRow.holds Tryz.pinned (OpenSpec.ofChange triangularChainsWrong)

/- THE SECOND FORM. 'bulk': how many values and letters a reading holds, each counted each time it is reached (what is shared counts as often as it is met; a slice's spare places count too). A statement '..UptoSaid' is the law's where the arguments, and the package variables that the reading takes, are together of bulk at most 1048576: NARROWER than '..Said'. Prove '..Said' where nothing that the law and all that it calls make is longer than what came in: it says more and counts as full. Else prove '..UptoSaid'. A law counts once. -/
mutual
def uptoBulk {H : Type} : DataW H → Nat
  | .lit (.string bytes) => bytes.length + 1
  | .lit _ => 1
  | .nil => 1
  | .ptr d => uptoBulk d + 1
  | .slice elems spare => uptoBulkAll elems + uptoBulkAll spare + 1
  | .agg parts => uptoBulkAll parts + 1
  | .iface _ d => uptoBulk d + 1
  | .map entries => uptoBulkEntries entries + 1
  | .held _ => 1
def uptoBulkAll {H : Type} : List (DataW H) → Nat
  | [] => 0
  | d :: r => uptoBulk d + uptoBulkAll r
def uptoBulkEntries {H : Type} : List (Lit × DataW H) → Nat
  | [] => 0
  | x :: r => uptoBulkEntry x + uptoBulkEntries r
def uptoBulkEntry {H : Type} : Lit × DataW H → Nat
  | (.string bytes, d) => bytes.length + uptoBulk d + 1
  | (_, d) => uptoBulk d + 1
 end
def uptoSmall : (H : Type) → List (DataW H) → Bool := fun _ ds => decide (uptoBulkAll ds ≤ 1048576)
def OpenSpec.upto (s : _root_.Go.ChangeSpec) : _root_.Go.OpenSpec := { _root_.Go.OpenSpec.ofChange s with cond := some uptoSmall }

/-- 'geoproverlaw11.TriangularReduces', WHERE WHAT IT READS IS OF BULK AT MOST 1048576: true; the input reads as it did. -/
def triangularReducesUptoRow : OpenClaim := { program := "ytdaldpkjhcfblaagreat", sum := "f26cdaa33e884d3bdb5ac3d3b15a8052fedc90f7bfaacc6f81bd6cbdc4f96ef9", func := "geoprover/geoproverlaw11.TriangularReduces", spec := "triangularReduces", unfollowed := true, recurses := true, apart := false, narrowed := true }
def TriangularReducesUptoSaid : Prop := triangularReducesUptoRow.holds Tryz.pinned (OpenSpec.upto triangularReducesSpec)

/-- 'geoproverlaw11.TriangularEquation', WHERE WHAT IT READS IS OF BULK AT MOST 1048576: true; the input reads as it did. -/
def triangularEquationUptoRow : OpenClaim := { program := "ytdaldpkjhcfblaagreat", sum := "f26cdaa33e884d3bdb5ac3d3b15a8052fedc90f7bfaacc6f81bd6cbdc4f96ef9", func := "geoprover/geoproverlaw11.TriangularEquation", spec := "triangularEquation", unfollowed := true, recurses := true, apart := false, narrowed := true }
def TriangularEquationUptoSaid : Prop := triangularEquationUptoRow.holds Tryz.pinned (OpenSpec.upto triangularEquationSpec)

/-- 'geoproverlaw11.TriangularChains', WHERE WHAT IT READS IS OF BULK AT MOST 1048576: true; the input reads as it did. -/
def triangularChainsUptoRow : OpenClaim := { program := "ytdaldpkjhcfblaagreat", sum := "f26cdaa33e884d3bdb5ac3d3b15a8052fedc90f7bfaacc6f81bd6cbdc4f96ef9", func := "geoprover/geoproverlaw11.TriangularChains", spec := "triangularChains", unfollowed := true, recurses := true, apart := false, narrowed := true }
def TriangularChainsUptoSaid : Prop := triangularChainsUptoRow.holds Tryz.pinned (OpenSpec.upto triangularChainsSpec)

end Rows
end Go.Proofs.YtdaldpkjhcfblaaGreat
