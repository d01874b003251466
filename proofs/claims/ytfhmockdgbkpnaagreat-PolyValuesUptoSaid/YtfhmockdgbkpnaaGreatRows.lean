/-
  No cell of these rows narrows 'for every input' (looked for: loops, veiled, ifaces, maps, wideKeys, modest, calm, conditions, laid).
  DERIVED. THE GIVEN ROWS OF THIS SEAT. 8 by the template 'for every input the law returns true; each argument reads behind the call as it read before'; 0 by the template 'total and deterministic' (their statements: YtfhmockdgbkpnaaGreatTotals.lean).
  GIVEN WITH THE SEED: the statements are not yours to turn. If you find one false, say at which input.
  Laid BY PROGRAM, IN A SANDBOX (cutbox-rows.mjs): the forced cells as the released guide's own fill.sh prints them over the translation 62e36aaf5eab6956… (all of the seat's roots in one cut). By AI agents, Wed Nov 11 2026. No macro, syntax, notation, axiom, sorry.
-/
import Derived.Test.YtfhmockdgbkpnaaGreatChecked
import GoSem.Claim
import GoSem.ClaimJoined
import GoSem.ClaimMapViews
import Derived.JoinedTies
import Derived.KernelRfl
namespace Go.Proofs.YtfhmockdgbkpnaaGreat
/- THE CELL 'sum', in the pinned program and in every row, IS THE sha256 OF THE DUMP (.gsa) THAT YtfhmockdgbkpnaaGreatProg.lean LOADS. Nothing in Lean hashes anything: it is a label: what it is worth is what the hold of that sum in a sandbox is worth. -/
noncomputable def Tryz.pinned : Pinned := { name := "ytfhmockdgbkpnaagreat", sum := "62e36aaf5eab6956d0a3b66b05959a25fd12cf593367cdaf87e6aaa12d304578", checked := Tryz.checked }
namespace Rows
def none {H : Type} : Left H := { results := [], args := [] }

/-- 'geoproverlaw06.PolyPowers': WHATEVER THE INPUT: true; the input reads as it did. -/
def polyPowersSpec : ChangeSpec := { name := "polyPowers", fn := fun _ => fun
  | [d1, d2] => { results := [.lit (.bool true)], args := [d1, d2] }
  | _ => none }
def polyPowersRow : OpenClaim := { program := "ytfhmockdgbkpnaagreat", sum := "62e36aaf5eab6956d0a3b66b05959a25fd12cf593367cdaf87e6aaa12d304578", func := "geoprover/geoproverlaw06.PolyPowers", spec := "polyPowers", unfollowed := true, recurses := true, apart := false }
def PolyPowersSaid : Prop := polyPowersRow.holds Tryz.pinned (OpenSpec.ofChange polyPowersSpec)

/-- ITS FALSE NEIGHBOUR: 'it returns false'. Refute it at one input. -/
def polyPowersWrong : ChangeSpec := { name := "polyPowers", fn := fun _ => fun
  | [d1, d2] => { results := [.lit (.bool false)], args := [d1, d2] }
  | _ => none }
def PolyPowersWrongFalsely : Prop := polyPowersRow.holds Tryz.pinned (OpenSpec.ofChange polyPowersWrong)

/-- 'geoproverlaw06.PolyEvals': WHATEVER THE INPUT: true; the input reads as it did. -/
def polyEvalsSpec : ChangeSpec := { name := "polyEvals", fn := fun _ => fun
  | [d1, d2] => { results := [.lit (.bool true)], args := [d1, d2] }
  | _ => none }
def polyEvalsRow : OpenClaim := { program := "ytfhmockdgbkpnaagreat", sum := "62e36aaf5eab6956d0a3b66b05959a25fd12cf593367cdaf87e6aaa12d304578", func := "geoprover/geoproverlaw06.PolyEvals", spec := "polyEvals", unfollowed := true, recurses := true, apart := false }
def PolyEvalsSaid : Prop := polyEvalsRow.holds Tryz.pinned (OpenSpec.ofChange polyEvalsSpec)

/-- ITS FALSE NEIGHBOUR: 'it returns false'. Refute it at one input. -/
def polyEvalsWrong : ChangeSpec := { name := "polyEvals", fn := fun _ => fun
  | [d1, d2] => { results := [.lit (.bool false)], args := [d1, d2] }
  | _ => none }
def PolyEvalsWrongFalsely : Prop := polyEvalsRow.holds Tryz.pinned (OpenSpec.ofChange polyEvalsWrong)

/-- 'geoproverlaw06.PolyParts': WHATEVER THE INPUT: true; the input reads as it did. -/
def polyPartsSpec : ChangeSpec := { name := "polyParts", fn := fun _ => fun
  | [d1, d2] => { results := [.lit (.bool true)], args := [d1, d2] }
  | _ => none }
def polyPartsRow : OpenClaim := { program := "ytfhmockdgbkpnaagreat", sum := "62e36aaf5eab6956d0a3b66b05959a25fd12cf593367cdaf87e6aaa12d304578", func := "geoprover/geoproverlaw06.PolyParts", spec := "polyParts", unfollowed := true, recurses := true, apart := false }
def PolyPartsSaid : Prop := polyPartsRow.holds Tryz.pinned (OpenSpec.ofChange polyPartsSpec)

/-- ITS FALSE NEIGHBOUR: 'it returns false'. Refute it at one input. -/
def polyPartsWrong : ChangeSpec := { name := "polyParts", fn := fun _ => fun
  | [d1, d2] => { results := [.lit (.bool false)], args := [d1, d2] }
  | _ => none }
def PolyPartsWrongFalsely : Prop := polyPartsRow.holds Tryz.pinned (OpenSpec.ofChange polyPartsWrong)

/-- 'geoproverlaw06.PolyAdds': WHATEVER THE INPUT: true; the input reads as it did. -/
def polyAddsSpec : ChangeSpec := { name := "polyAdds", fn := fun _ => fun
  | [d1, d2, d3] => { results := [.lit (.bool true)], args := [d1, d2, d3] }
  | _ => none }
def polyAddsRow : OpenClaim := { program := "ytfhmockdgbkpnaagreat", sum := "62e36aaf5eab6956d0a3b66b05959a25fd12cf593367cdaf87e6aaa12d304578", func := "geoprover/geoproverlaw06.PolyAdds", spec := "polyAdds", unfollowed := true, recurses := true, apart := false }
def PolyAddsSaid : Prop := polyAddsRow.holds Tryz.pinned (OpenSpec.ofChange polyAddsSpec)

/-- ITS FALSE NEIGHBOUR: 'it returns false'. Refute it at one input. -/
def polyAddsWrong : ChangeSpec := { name := "polyAdds", fn := fun _ => fun
  | [d1, d2, d3] => { results := [.lit (.bool false)], args := [d1, d2, d3] }
  | _ => none }
def PolyAddsWrongFalsely : Prop := polyAddsRow.holds Tryz.pinned (OpenSpec.ofChange polyAddsWrong)

/-- 'geoproverlaw06.PolyForms': WHATEVER THE INPUT: true; the input reads as it did. -/
def polyFormsSpec : ChangeSpec := { name := "polyForms", fn := fun _ => fun
  | [d] => { results := [.lit (.bool true)], args := [d] }
  | _ => none }
def polyFormsRow : OpenClaim := { program := "ytfhmockdgbkpnaagreat", sum := "62e36aaf5eab6956d0a3b66b05959a25fd12cf593367cdaf87e6aaa12d304578", func := "geoprover/geoproverlaw06.PolyForms", spec := "polyForms", unfollowed := true, recurses := true, apart := false }
def PolyFormsSaid : Prop := polyFormsRow.holds Tryz.pinned (OpenSpec.ofChange polyFormsSpec)

/-- ITS FALSE NEIGHBOUR: 'it returns false'. Refute it at one input. -/
def polyFormsWrong : ChangeSpec := { name := "polyForms", fn := fun _ => fun
  | [d] => { results := [.lit (.bool false)], args := [d] }
  | _ => none }
def PolyFormsWrongFalsely : Prop := polyFormsRow.holds Tryz.pinned (OpenSpec.ofChange polyFormsWrong)

/-- 'geoproverlaw06.PolyRing': WHATEVER THE INPUT: true; the input reads as it did. -/
def polyRingSpec : ChangeSpec := { name := "polyRing", fn := fun _ => fun
  | [d1, d2, d3] => { results := [.lit (.bool true)], args := [d1, d2, d3] }
  | _ => none }
def polyRingRow : OpenClaim := { program := "ytfhmockdgbkpnaagreat", sum := "62e36aaf5eab6956d0a3b66b05959a25fd12cf593367cdaf87e6aaa12d304578", func := "geoprover/geoproverlaw06.PolyRing", spec := "polyRing", unfollowed := true, recurses := true, apart := false }
def PolyRingSaid : Prop := polyRingRow.holds Tryz.pinned (OpenSpec.ofChange polyRingSpec)

/-- ITS FALSE NEIGHBOUR: 'it returns false'. Refute it at one input. -/
def polyRingWrong : ChangeSpec := { name := "polyRing", fn := fun _ => fun
  | [d1, d2, d3] => { results := [.lit (.bool false)], args := [d1, d2, d3] }
  | _ => none }
def PolyRingWrongFalsely : Prop := polyRingRow.holds Tryz.pinned (OpenSpec.ofChange polyRingWrong)

/-- 'geoproverlaw06.PolySubsts': WHATEVER THE INPUT: true; the input reads as it did. -/
def polySubstsSpec : ChangeSpec := { name := "polySubsts", fn := fun _ => fun
  | [d1, d2, d3] => { results := [.lit (.bool true)], args := [d1, d2, d3] }
  | _ => none }
def polySubstsRow : OpenClaim := { program := "ytfhmockdgbkpnaagreat", sum := "62e36aaf5eab6956d0a3b66b05959a25fd12cf593367cdaf87e6aaa12d304578", func := "geoprover/geoproverlaw06.PolySubsts", spec := "polySubsts", unfollowed := true, recurses := true, apart := false }
def PolySubstsSaid : Prop := polySubstsRow.holds Tryz.pinned (OpenSpec.ofChange polySubstsSpec)

/-- ITS FALSE NEIGHBOUR: 'it returns false'. Refute it at one input. -/
def polySubstsWrong : ChangeSpec := { name := "polySubsts", fn := fun _ => fun
  | [d1, d2, d3] => { results := [.lit (.bool false)], args := [d1, d2, d3] }
  | _ => none }
def PolySubstsWrongFalsely : Prop := polySubstsRow.holds Tryz.pinned (OpenSpec.ofChange polySubstsWrong)

/-- 'geoproverlaw06.PolyValues': WHATEVER THE INPUT: true; the input reads as it did. -/
def polyValuesSpec : ChangeSpec := { name := "polyValues", fn := fun _ => fun
  | [d1, d2, d3] => { results := [.lit (.bool true)], args := [d1, d2, d3] }
  | _ => none }
def polyValuesRow : OpenClaim := { program := "ytfhmockdgbkpnaagreat", sum := "62e36aaf5eab6956d0a3b66b05959a25fd12cf593367cdaf87e6aaa12d304578", func := "geoprover/geoproverlaw06.PolyValues", spec := "polyValues", unfollowed := true, recurses := true, apart := false }
def PolyValuesSaid : Prop := polyValuesRow.holds Tryz.pinned (OpenSpec.ofChange polyValuesSpec)

/-- ITS FALSE NEIGHBOUR: 'it returns false'. Refute it at one input. -/
def polyValuesWrong : ChangeSpec := { name := "polyValues", fn := fun _ => fun
  | [d1, d2, d3] => { results := [.lit (.bool false)], args := [d1, d2, d3] }
  | _ => none }
def PolyValuesWrongFalsely : Prop := polyValuesRow.holds Tryz.pinned (OpenSpec.ofChange polyValuesWrong)

/- THE SECOND FORM. 'bulk': how many values and letters a reading holds, each counted each time it is reached (what is shared counts as often as it is met; a slice's spare places count too). A statement '..UptoSaid' is the law's where the arguments, and the package variables that the reading takes, are together of bulk at most 1048576: NARROWER than '..Said'. Prove '..Said' where nothing that the law and all that it calls make is longer than what came in: it says more and counts as full. Else prove '..UptoSaid'. A law counts once. -/
mutual
def uptoBulk {H : Type} : DataW H → Nat
  | .lit (.string bytes) => bytes.length + 1
  | .lit _ => 1
  | .nil => 1
  | .ptr d => uptoBulk d + 1
  | .slice elems spare => uptoBulkAll elems + uptoBulkAll spare + 1
  | .agg parts => uptoBulkAll parts + 1
  | .iface _ d => uptoBulk d + 1
  | .map entries => uptoBulkEntries entries + 1
  | .held _ => 1
def uptoBulkAll {H : Type} : List (DataW H) → Nat
  | [] => 0
  | d :: r => uptoBulk d + uptoBulkAll r
def uptoBulkEntries {H : Type} : List (Lit × DataW H) → Nat
  | [] => 0
  | x :: r => uptoBulkEntry x + uptoBulkEntries r
def uptoBulkEntry {H : Type} : Lit × DataW H → Nat
  | (.string bytes, d) => bytes.length + uptoBulk d + 1
  | (_, d) => uptoBulk d + 1
 end
def uptoSmall : (H : Type) → List (DataW H) → Bool := fun _ ds => decide (uptoBulkAll ds ≤ 1048576)
def OpenSpec.upto (s : _root_.Go.ChangeSpec) : _root_.Go.OpenSpec := { _root_.Go.OpenSpec.ofChange s with cond := some uptoSmall }

/-- 'geoproverlaw06.PolyPowers', WHERE WHAT IT READS IS OF BULK AT MOST 1048576: true; the input reads as it did. -/
def polyPowersUptoRow : OpenClaim := { program := "ytfhmockdgbkpnaagreat", sum := "62e36aaf5eab6956d0a3b66b05959a25fd12cf593367cdaf87e6aaa12d304578", func := "geoprover/geoproverlaw06.PolyPowers", spec := "polyPowers", unfollowed := true, recurses := true, apart := false, narrowed := true }
def PolyPowersUptoSaid : Prop := polyPowersUptoRow.holds Tryz.pinned (OpenSpec.upto polyPowersSpec)

/-- 'geoproverlaw06.PolyEvals', WHERE WHAT IT READS IS OF BULK AT MOST 1048576: true; the input reads as it did. -/
def polyEvalsUptoRow : OpenClaim := { program := "ytfhmockdgbkpnaagreat", sum := "62e36aaf5eab6956d0a3b66b05959a25fd12cf593367cdaf87e6aaa12d304578", func := "geoprover/geoproverlaw06.PolyEvals", spec := "polyEvals", unfollowed := true, recurses := true, apart := false, narrowed := true }
def PolyEvalsUptoSaid : Prop := polyEvalsUptoRow.holds Tryz.pinned (OpenSpec.upto polyEvalsSpec)

/-- 'geoproverlaw06.PolyParts', WHERE WHAT IT READS IS OF BULK AT MOST 1048576: true; the input reads as it did. -/
def polyPartsUptoRow : OpenClaim := { program := "ytfhmockdgbkpnaagreat", sum := "62e36aaf5eab6956d0a3b66b05959a25fd12cf593367cdaf87e6aaa12d304578", func := "geoprover/geoproverlaw06.PolyParts", spec := "polyParts", unfollowed := true, recurses := true, apart := false, narrowed := true }
def PolyPartsUptoSaid : Prop := polyPartsUptoRow.holds Tryz.pinned (OpenSpec.upto polyPartsSpec)

/-- 'geoproverlaw06.PolyAdds', WHERE WHAT IT READS IS OF BULK AT MOST 1048576: true; the input reads as it did. -/
def polyAddsUptoRow : OpenClaim := { program := "ytfhmockdgbkpnaagreat", sum := "62e36aaf5eab6956d0a3b66b05959a25fd12cf593367cdaf87e6aaa12d304578", func := "geoprover/geoproverlaw06.PolyAdds", spec := "polyAdds", unfollowed := true, recurses := true, apart := false, narrowed := true }
def PolyAddsUptoSaid : Prop := polyAddsUptoRow.holds Tryz.pinned (OpenSpec.upto polyAddsSpec)

/-- 'geoproverlaw06.PolyForms', WHERE WHAT IT READS IS OF BULK AT MOST 1048576: true; the input reads as it did. -/
def polyFormsUptoRow : OpenClaim := { program := "ytfhmockdgbkpnaagreat", sum := "62e36aaf5eab6956d0a3b66b05959a25fd12cf593367cdaf87e6aaa12d304578", func := "geoprover/geoproverlaw06.PolyForms", spec := "polyForms", unfollowed := true, recurses := true, apart := false, narrowed := true }
def PolyFormsUptoSaid : Prop := polyFormsUptoRow.holds Tryz.pinned (OpenSpec.upto polyFormsSpec)

/-- 'geoproverlaw06.PolyRing', WHERE WHAT IT READS IS OF BULK AT MOST 1048576: true; the input reads as it did. -/
def polyRingUptoRow : OpenClaim := { program := "ytfhmockdgbkpnaagreat", sum := "62e36aaf5eab6956d0a3b66b05959a25fd12cf593367cdaf87e6aaa12d304578", func := "geoprover/geoproverlaw06.PolyRing", spec := "polyRing", unfollowed := true, recurses := true, apart := false, narrowed := true }
def PolyRingUptoSaid : Prop := polyRingUptoRow.holds Tryz.pinned (OpenSpec.upto polyRingSpec)

/-- 'geoproverlaw06.PolySubsts', WHERE WHAT IT READS IS OF BULK AT MOST 1048576: true; the input reads as it did. -/
def polySubstsUptoRow : OpenClaim := { program := "ytfhmockdgbkpnaagreat", sum := "62e36aaf5eab6956d0a3b66b05959a25fd12cf593367cdaf87e6aaa12d304578", func := "geoprover/geoproverlaw06.PolySubsts", spec := "polySubsts", unfollowed := true, recurses := true, apart := false, narrowed := true }
def PolySubstsUptoSaid : Prop := polySubstsUptoRow.holds Tryz.pinned (OpenSpec.upto polySubstsSpec)

/-- 'geoproverlaw06.PolyValues', WHERE WHAT IT READS IS OF BULK AT MOST 1048576: true; the input reads as it did. -/
def polyValuesUptoRow : OpenClaim := { program := "ytfhmockdgbkpnaagreat", sum := "62e36aaf5eab6956d0a3b66b05959a25fd12cf593367cdaf87e6aaa12d304578", func := "geoprover/geoproverlaw06.PolyValues", spec := "polyValues", unfollowed := true, recurses := true, apart := false, narrowed := true }
def PolyValuesUptoSaid : Prop := polyValuesUptoRow.holds Tryz.pinned (OpenSpec.upto polyValuesSpec)

end Rows
end Go.Proofs.YtfhmockdgbkpnaaGreat
