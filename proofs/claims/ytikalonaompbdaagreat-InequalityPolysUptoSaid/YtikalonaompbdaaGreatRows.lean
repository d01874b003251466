/-
  No cell of these rows narrows 'for every input' (looked for: loops, veiled, ifaces, maps, wideKeys, modest, calm, conditions, laid).
  DERIVED. THE GIVEN ROWS OF THIS SEAT. 5 by the template 'for every input the law returns true; each argument reads behind the call as it read before'; 0 by the template 'total and deterministic' (their statements: YtikalonaompbdaaGreatTotals.lean).
  GIVEN WITH THE SEED: the statements are not yours to turn. If you find one false, say at which input.
  Laid BY PROGRAM, IN A SANDBOX (cutbox-rows.mjs): the forced cells as the released guide's own fill.sh prints them over the translation 184267d55d620204… (all of the seat's roots in one cut). By AI agents, Wed Nov 11 2026. No macro, syntax, notation, axiom, sorry.
-/
import Derived.Test.YtikalonaompbdaaGreatChecked
import GoSem.Claim
import GoSem.ClaimJoined
import GoSem.ClaimMapViews
import Derived.JoinedTies
import Derived.KernelRfl
namespace Go.Proofs.YtikalonaompbdaaGreat
/- THE CELL 'sum', in the pinned program and in every row, IS THE sha256 OF THE DUMP (.gsa) THAT YtikalonaompbdaaGreatProg.lean LOADS. Nothing in Lean hashes anything: it is a label: what it is worth is what the hold of that sum in a sandbox is worth. -/
noncomputable def Tryz.pinned : Pinned := { name := "ytikalonaompbdaagreat", sum := "184267d55d6202042f49697b4b5ba2f32f12d7b9658a0d4a3158a7b8c4e32edc", checked := Tryz.checked }
namespace Rows
def none {H : Type} : Left H := { results := [], args := [] }

/-- 'geoproverlaw48.InequalityPolys': WHATEVER THE INPUT: true; the input reads as it did. -/
def inequalityPolysSpec : ChangeSpec := { name := "inequalityPolys", fn := fun _ => fun
  | [d1, d2] => { results := [.lit (.bool true)], args := [d1, d2] }
  | _ => none }
def inequalityPolysRow : OpenClaim := { program := "ytikalonaompbdaagreat", sum := "184267d55d6202042f49697b4b5ba2f32f12d7b9658a0d4a3158a7b8c4e32edc", func := "geoprover/geoproverlaw48.InequalityPolys", spec := "inequalityPolys", unfollowed := true, recurses := true, apart := false }
def InequalityPolysSaid : Prop := inequalityPolysRow.holds Tryz.pinned (OpenSpec.ofChange inequalityPolysSpec)

/-- ITS FALSE NEIGHBOUR: 'it returns false'. Refute it at one input. -/
def inequalityPolysWrong : ChangeSpec := { name := "inequalityPolys", fn := fun _ => fun
  | [d1, d2] => { results := [.lit (.bool false)], args := [d1, d2] }
  | _ => none }
def InequalityPolysWrongFalsely : Prop := inequalityPolysRow.holds Tryz.pinned (OpenSpec.ofChange inequalityPolysWrong)

/-- 'geoproverlaw48.InequalityDecides': WHATEVER THE INPUT: true; the input reads as it did. -/
def inequalityDecidesSpec : ChangeSpec := { name := "inequalityDecides", fn := fun _ => fun
  | [d1, d2] => { results := [.lit (.bool true)], args := [d1, d2] }
  | _ => none }
def inequalityDecidesRow : OpenClaim := { program := "ytikalonaompbdaagreat", sum := "184267d55d6202042f49697b4b5ba2f32f12d7b9658a0d4a3158a7b8c4e32edc", func := "geoprover/geoproverlaw48.InequalityDecides", spec := "inequalityDecides", unfollowed := true, recurses := true, apart := false }
def InequalityDecidesSaid : Prop := inequalityDecidesRow.holds Tryz.pinned (OpenSpec.ofChange inequalityDecidesSpec)

/-- ITS FALSE NEIGHBOUR: 'it returns false'. Refute it at one input. -/
def inequalityDecidesWrong : ChangeSpec := { name := "inequalityDecides", fn := fun _ => fun
  | [d1, d2] => { results := [.lit (.bool false)], args := [d1, d2] }
  | _ => none }
def InequalityDecidesWrongFalsely : Prop := inequalityDecidesRow.holds Tryz.pinned (OpenSpec.ofChange inequalityDecidesWrong)

/-- 'geoproverlaw48.InequalityChecks': WHATEVER THE INPUT: true; the input reads as it did. -/
def inequalityChecksSpec : ChangeSpec := { name := "inequalityChecks", fn := fun _ => fun
  | [d1, d2, d3] => { results := [.lit (.bool true)], args := [d1, d2, d3] }
  | _ => none }
def inequalityChecksRow : OpenClaim := { program := "ytikalonaompbdaagreat", sum := "184267d55d6202042f49697b4b5ba2f32f12d7b9658a0d4a3158a7b8c4e32edc", func := "geoprover/geoproverlaw48.InequalityChecks", spec := "inequalityChecks", unfollowed := true, recurses := true, apart := false }
def InequalityChecksSaid : Prop := inequalityChecksRow.holds Tryz.pinned (OpenSpec.ofChange inequalityChecksSpec)

/-- ITS FALSE NEIGHBOUR: 'it returns false'. Refute it at one input. -/
def inequalityChecksWrong : ChangeSpec := { name := "inequalityChecks", fn := fun _ => fun
  | [d1, d2, d3] => { results := [.lit (.bool false)], args := [d1, d2, d3] }
  | _ => none }
def InequalityChecksWrongFalsely : Prop := inequalityChecksRow.holds Tryz.pinned (OpenSpec.ofChange inequalityChecksWrong)

/-- 'geoproverlaw48.InequalityHolds': WHATEVER THE INPUT: true; the input reads as it did. -/
def inequalityHoldsSpec : ChangeSpec := { name := "inequalityHolds", fn := fun _ => fun
  | [d1, d2, d3] => { results := [.lit (.bool true)], args := [d1, d2, d3] }
  | _ => none }
def inequalityHoldsRow : OpenClaim := { program := "ytikalonaompbdaagreat", sum := "184267d55d6202042f49697b4b5ba2f32f12d7b9658a0d4a3158a7b8c4e32edc", func := "geoprover/geoproverlaw48.InequalityHolds", spec := "inequalityHolds", unfollowed := true, recurses := true, apart := false }
def InequalityHoldsSaid : Prop := inequalityHoldsRow.holds Tryz.pinned (OpenSpec.ofChange inequalityHoldsSpec)

/-- ITS FALSE NEIGHBOUR: 'it returns false'. Refute it at one input. -/
def inequalityHoldsWrong : ChangeSpec := { name := "inequalityHolds", fn := fun _ => fun
  | [d1, d2, d3] => { results := [.lit (.bool false)], args := [d1, d2, d3] }
  | _ => none }
def InequalityHoldsWrongFalsely : Prop := inequalityHoldsRow.holds Tryz.pinned (OpenSpec.ofChange inequalityHoldsWrong)

/-- 'geoproverlaw48.InequalityOpposite': WHATEVER THE INPUT: true; the input reads as it did. -/
def inequalityOppositeSpec : ChangeSpec := { name := "inequalityOpposite", fn := fun _ => fun
  | [d1, d2] => { results := [.lit (.bool true)], args := [d1, d2] }
  | _ => none }
def inequalityOppositeRow : OpenClaim := { program := "ytikalonaompbdaagreat", sum := "184267d55d6202042f49697b4b5ba2f32f12d7b9658a0d4a3158a7b8c4e32edc", func := "geoprover/geoproverlaw48.InequalityOpposite", spec := "inequalityOpposite", unfollowed := true, recurses := true, apart := false }
def InequalityOppositeSaid : Prop := inequalityOppositeRow.holds Tryz.pinned (OpenSpec.ofChange inequalityOppositeSpec)

/-- ITS FALSE NEIGHBOUR: 'it returns false'. Refute it at one input. -/
def inequalityOppositeWrong : ChangeSpec := { name := "inequalityOpposite", fn := fun _ => fun
  | [d1, d2] => { results := [.lit (.bool false)], args := [d1, d2] }
  | _ => none }
def InequalityOppositeWrongFalsely : Prop := inequalityOppositeRow.holds Tryz.pinned (OpenSpec.ofChange inequalityOppositeWrong)

/- THE SECOND FORM. 'bulk': how many values and letters a reading holds, each counted each time it is reached (what is shared counts as often as it is met; a slice's spare places count too). A statement '..UptoSaid' is the law's where the arguments, and the package variables that the reading takes, are together of bulk at most 1048576: NARROWER than '..Said'. Prove '..Said' where nothing that the law and all that it calls make is longer than what came in: it says more and counts as full. Else prove '..UptoSaid'. A law counts once. -/
mutual
def uptoBulk {H : Type} : DataW H → Nat
  | .lit (.string bytes) => bytes.length + 1
  | .lit _ => 1
  | .nil => 1
  | .ptr d => uptoBulk d + 1
  | .slice elems spare => uptoBulkAll elems + uptoBulkAll spare + 1
  | .agg parts => uptoBulkAll parts + 1
  | .iface _ d => uptoBulk d + 1
  | .map entries => uptoBulkEntries entries + 1
  | .held _ => 1
def uptoBulkAll {H : Type} : List (DataW H) → Nat
  | [] => 0
  | d :: r => uptoBulk d + uptoBulkAll r
def uptoBulkEntries {H : Type} : List (Lit × DataW H) → Nat
  | [] => 0
  | x :: r => uptoBulkEntry x + uptoBulkEntries r
def uptoBulkEntry {H : Type} : Lit × DataW H → Nat
  | (.string bytes, d) => bytes.length + uptoBulk d + 1
  | (_, d) => uptoBulk d + 1
 end
def uptoSmall : (H : Type) → List (DataW H) → Bool := fun _ ds => decide (uptoBulkAll ds ≤ 1048576)
def OpenSpec.upto (s : _root_.Go.ChangeSpec) : _root_.Go.OpenSpec := { _root_.Go.OpenSpec.ofChange s with cond := some uptoSmall }

/-- 'geoproverlaw48.InequalityPolys', WHERE WHAT IT READS IS OF BULK AT MOST 1048576: true; the input reads as it did. -/
def inequalityPolysUptoRow : OpenClaim := { program := "ytikalonaompbdaagreat", sum := "184267d55d6202042f49697b4b5ba2f32f12d7b9658a0d4a3158a7b8c4e32edc", func := "geoprover/geoproverlaw48.InequalityPolys", spec := "inequalityPolys", unfollowed := true, recurses := true, apart := false, narrowed := true }
def InequalityPolysUptoSaid : Prop := inequalityPolysUptoRow.holds Tryz.pinned (OpenSpec.upto inequalityPolysSpec)

/-- 'geoproverlaw48.InequalityDecides', WHERE WHAT IT READS IS OF BULK AT MOST 1048576: true; the input reads as it did. -/
def inequalityDecidesUptoRow : OpenClaim := { program := "ytikalonaompbdaagreat", sum := "184267d55d6202042f49697b4b5ba2f32f12d7b9658a0d4a3158a7b8c4e32edc", func := "geoprover/geoproverlaw48.InequalityDecides", spec := "inequalityDecides", unfollowed := true, recurses := true, apart := false, narrowed := true }
def InequalityDecidesUptoSaid : Prop := inequalityDecidesUptoRow.holds Tryz.pinned (OpenSpec.upto inequalityDecidesSpec)

/-- 'geoproverlaw48.InequalityChecks', WHERE WHAT IT READS IS OF BULK AT MOST 1048576: true; the input reads as it did. -/
def inequalityChecksUptoRow : OpenClaim := { program := "ytikalonaompbdaagreat", sum := "184267d55d6202042f49697b4b5ba2f32f12d7b9658a0d4a3158a7b8c4e32edc", func := "geoprover/geoproverlaw48.InequalityChecks", spec := "inequalityChecks", unfollowed := true, recurses := true, apart := false, narrowed := true }
def InequalityChecksUptoSaid : Prop := inequalityChecksUptoRow.holds Tryz.pinned (OpenSpec.upto inequalityChecksSpec)

/-- 'geoproverlaw48.InequalityHolds', WHERE WHAT IT READS IS OF BULK AT MOST 1048576: true; the input reads as it did. -/
def inequalityHoldsUptoRow : OpenClaim := { program := "ytikalonaompbdaagreat", sum := "184267d55d6202042f49697b4b5ba2f32f12d7b9658a0d4a3158a7b8c4e32edc", func := "geoprover/geoproverlaw48.InequalityHolds", spec := "inequalityHolds", unfollowed := true, recurses := true, apart := false, narrowed := true }
def InequalityHoldsUptoSaid : Prop := inequalityHoldsUptoRow.holds Tryz.pinned (OpenSpec.upto inequalityHoldsSpec)

/-- 'geoproverlaw48.InequalityOpposite', WHERE WHAT IT READS IS OF BULK AT MOST 1048576: true; the input reads as it did. -/
def inequalityOppositeUptoRow : OpenClaim := { program := "ytikalonaompbdaagreat", sum := "184267d55d6202042f49697b4b5ba2f32f12d7b9658a0d4a3158a7b8c4e32edc", func := "geoprover/geoproverlaw48.InequalityOpposite", spec := "inequalityOpposite", unfollowed := true, recurses := true, apart := false, narrowed := true }
def InequalityOppositeUptoSaid : Prop := inequalityOppositeUptoRow.holds Tryz.pinned (OpenSpec.upto inequalityOppositeSpec)

end Rows
end Go.Proofs.YtikalonaompbdaaGreat
