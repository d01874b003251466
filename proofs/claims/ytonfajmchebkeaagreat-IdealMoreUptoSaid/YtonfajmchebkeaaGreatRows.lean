/-
  No cell of these rows narrows 'for every input' (looked for: loops, veiled, ifaces, maps, wideKeys, modest, calm, conditions, laid).
  DERIVED. THE GIVEN ROWS OF THIS SEAT. 10 by the template 'for every input the law returns true; each argument reads behind the call as it read before'; 0 by the template 'total and deterministic' (their statements: YtonfajmchebkeaaGreatTotals.lean).
  GIVEN WITH THE SEED: the statements are not yours to turn. If you find one false, say at which input.
  Laid BY PROGRAM, IN A SANDBOX (cutbox-rows.mjs): the forced cells as the released guide's own fill.sh prints them over the translation 6b6983dc7b1c25b9… (all of the seat's roots in one cut). By AI agents, Wed Nov 11 2026. No macro, syntax, notation, axiom, sorry.
-/
import Derived.Test.YtonfajmchebkeaaGreatChecked
import GoSem.Claim
import GoSem.ClaimJoined
import GoSem.ClaimMapViews
import Derived.JoinedTies
import Derived.KernelRfl
namespace Go.Proofs.YtonfajmchebkeaaGreat
/- THE CELL 'sum', in the pinned program and in every row, IS THE sha256 OF THE DUMP (.gsa) THAT YtonfajmchebkeaaGreatProg.lean LOADS. Nothing in Lean hashes anything: it is a label: what it is worth is what the hold of that sum in a sandbox is worth. -/
noncomputable def Tryz.pinned : Pinned := { name := "ytonfajmchebkeaagreat", sum := "6b6983dc7b1c25b99526d78aeb603638acca31a74142e39228440f6cb98db10b", checked := Tryz.checked }
namespace Rows
def none {H : Type} : Left H := { results := [], args := [] }

/-- 'geoproverlaw24.GoalsPolynomials': WHATEVER THE INPUT: true; the input reads as it did. -/
def goalsPolynomialsSpec : ChangeSpec := { name := "goalsPolynomials", fn := fun _ => fun
  | [d1, d2] => { results := [.lit (.bool true)], args := [d1, d2] }
  | _ => none }
def goalsPolynomialsRow : OpenClaim := { program := "ytonfajmchebkeaagreat", sum := "6b6983dc7b1c25b99526d78aeb603638acca31a74142e39228440f6cb98db10b", func := "geoprover/geoproverlaw24.GoalsPolynomials", spec := "goalsPolynomials", unfollowed := true, recurses := true, apart := false }
def GoalsPolynomialsSaid : Prop := goalsPolynomialsRow.holds Tryz.pinned (OpenSpec.ofChange goalsPolynomialsSpec)

/-- ITS FALSE NEIGHBOUR: 'it returns false'. Refute it at one input. -/
def goalsPolynomialsWrong : ChangeSpec := { name := "goalsPolynomials", fn := fun _ => fun
  | [d1, d2] => { results := [.lit (.bool false)], args := [d1, d2] }
  | _ => none }
def GoalsPolynomialsWrongFalsely : Prop := goalsPolynomialsRow.holds Tryz.pinned (OpenSpec.ofChange goalsPolynomialsWrong)

/-- 'geoproverlaw24.GoalsMean': WHATEVER THE INPUT: true; the input reads as it did. -/
def goalsMeanSpec : ChangeSpec := { name := "goalsMean", fn := fun _ => fun
  | [d1, d2, d3] => { results := [.lit (.bool true)], args := [d1, d2, d3] }
  | _ => none }
def goalsMeanRow : OpenClaim := { program := "ytonfajmchebkeaagreat", sum := "6b6983dc7b1c25b99526d78aeb603638acca31a74142e39228440f6cb98db10b", func := "geoprover/geoproverlaw24.GoalsMean", spec := "goalsMean", unfollowed := true, recurses := true, apart := false }
def GoalsMeanSaid : Prop := goalsMeanRow.holds Tryz.pinned (OpenSpec.ofChange goalsMeanSpec)

/-- ITS FALSE NEIGHBOUR: 'it returns false'. Refute it at one input. -/
def goalsMeanWrong : ChangeSpec := { name := "goalsMean", fn := fun _ => fun
  | [d1, d2, d3] => { results := [.lit (.bool false)], args := [d1, d2, d3] }
  | _ => none }
def GoalsMeanWrongFalsely : Prop := goalsMeanRow.holds Tryz.pinned (OpenSpec.ofChange goalsMeanWrong)

/-- 'geoproverlaw24.GoalsTrivial': WHATEVER THE INPUT: true; the input reads as it did. -/
def goalsTrivialSpec : ChangeSpec := { name := "goalsTrivial", fn := fun _ => fun
  | [d1, d2, d3] => { results := [.lit (.bool true)], args := [d1, d2, d3] }
  | _ => none }
def goalsTrivialRow : OpenClaim := { program := "ytonfajmchebkeaagreat", sum := "6b6983dc7b1c25b99526d78aeb603638acca31a74142e39228440f6cb98db10b", func := "geoprover/geoproverlaw24.GoalsTrivial", spec := "goalsTrivial", unfollowed := true, recurses := true, apart := false }
def GoalsTrivialSaid : Prop := goalsTrivialRow.holds Tryz.pinned (OpenSpec.ofChange goalsTrivialSpec)

/-- ITS FALSE NEIGHBOUR: 'it returns false'. Refute it at one input. -/
def goalsTrivialWrong : ChangeSpec := { name := "goalsTrivial", fn := fun _ => fun
  | [d1, d2, d3] => { results := [.lit (.bool false)], args := [d1, d2, d3] }
  | _ => none }
def GoalsTrivialWrongFalsely : Prop := goalsTrivialRow.holds Tryz.pinned (OpenSpec.ofChange goalsTrivialWrong)

/-- 'geoproverlaw10.IdealMultiplies': WHATEVER THE INPUT: true; the input reads as it did. -/
def idealMultipliesSpec : ChangeSpec := { name := "idealMultiplies", fn := fun _ => fun
  | [d1, d2] => { results := [.lit (.bool true)], args := [d1, d2] }
  | _ => none }
def idealMultipliesRow : OpenClaim := { program := "ytonfajmchebkeaagreat", sum := "6b6983dc7b1c25b99526d78aeb603638acca31a74142e39228440f6cb98db10b", func := "geoprover/geoproverlaw10.IdealMultiplies", spec := "idealMultiplies", unfollowed := true, recurses := true, apart := false }
def IdealMultipliesSaid : Prop := idealMultipliesRow.holds Tryz.pinned (OpenSpec.ofChange idealMultipliesSpec)

/-- ITS FALSE NEIGHBOUR: 'it returns false'. Refute it at one input. -/
def idealMultipliesWrong : ChangeSpec := { name := "idealMultiplies", fn := fun _ => fun
  | [d1, d2] => { results := [.lit (.bool false)], args := [d1, d2] }
  | _ => none }
def IdealMultipliesWrongFalsely : Prop := idealMultipliesRow.holds Tryz.pinned (OpenSpec.ofChange idealMultipliesWrong)

/-- 'geoproverlaw10.IdealChecks': WHATEVER THE INPUT: true; the input reads as it did. -/
def idealChecksSpec : ChangeSpec := { name := "idealChecks", fn := fun _ => fun
  | [d1, d2, d3] => { results := [.lit (.bool true)], args := [d1, d2, d3] }
  | _ => none }
def idealChecksRow : OpenClaim := { program := "ytonfajmchebkeaagreat", sum := "6b6983dc7b1c25b99526d78aeb603638acca31a74142e39228440f6cb98db10b", func := "geoprover/geoproverlaw10.IdealChecks", spec := "idealChecks", unfollowed := true, recurses := true, apart := false }
def IdealChecksSaid : Prop := idealChecksRow.holds Tryz.pinned (OpenSpec.ofChange idealChecksSpec)

/-- ITS FALSE NEIGHBOUR: 'it returns false'. Refute it at one input. -/
def idealChecksWrong : ChangeSpec := { name := "idealChecks", fn := fun _ => fun
  | [d1, d2, d3] => { results := [.lit (.bool false)], args := [d1, d2, d3] }
  | _ => none }
def IdealChecksWrongFalsely : Prop := idealChecksRow.holds Tryz.pinned (OpenSpec.ofChange idealChecksWrong)

/-- 'geoproverlaw10.IdealSound': WHATEVER THE INPUT: true; the input reads as it did. -/
def idealSoundSpec : ChangeSpec := { name := "idealSound", fn := fun _ => fun
  | [d1, d2, d3] => { results := [.lit (.bool true)], args := [d1, d2, d3] }
  | _ => none }
def idealSoundRow : OpenClaim := { program := "ytonfajmchebkeaagreat", sum := "6b6983dc7b1c25b99526d78aeb603638acca31a74142e39228440f6cb98db10b", func := "geoprover/geoproverlaw10.IdealSound", spec := "idealSound", unfollowed := true, recurses := true, apart := false }
def IdealSoundSaid : Prop := idealSoundRow.holds Tryz.pinned (OpenSpec.ofChange idealSoundSpec)

/-- ITS FALSE NEIGHBOUR: 'it returns false'. Refute it at one input. -/
def idealSoundWrong : ChangeSpec := { name := "idealSound", fn := fun _ => fun
  | [d1, d2, d3] => { results := [.lit (.bool false)], args := [d1, d2, d3] }
  | _ => none }
def IdealSoundWrongFalsely : Prop := idealSoundRow.holds Tryz.pinned (OpenSpec.ofChange idealSoundWrong)

/-- 'geoproverlaw10.IdealMore': WHATEVER THE INPUT: true; the input reads as it did. -/
def idealMoreSpec : ChangeSpec := { name := "idealMore", fn := fun _ => fun
  | [d1, d2, d3, d4] => { results := [.lit (.bool true)], args := [d1, d2, d3, d4] }
  | _ => none }
def idealMoreRow : OpenClaim := { program := "ytonfajmchebkeaagreat", sum := "6b6983dc7b1c25b99526d78aeb603638acca31a74142e39228440f6cb98db10b", func := "geoprover/geoproverlaw10.IdealMore", spec := "idealMore", unfollowed := true, recurses := true, apart := false }
def IdealMoreSaid : Prop := idealMoreRow.holds Tryz.pinned (OpenSpec.ofChange idealMoreSpec)

/-- ITS FALSE NEIGHBOUR: 'it returns false'. Refute it at one input. -/
def idealMoreWrong : ChangeSpec := { name := "idealMore", fn := fun _ => fun
  | [d1, d2, d3, d4] => { results := [.lit (.bool false)], args := [d1, d2, d3, d4] }
  | _ => none }
def IdealMoreWrongFalsely : Prop := idealMoreRow.holds Tryz.pinned (OpenSpec.ofChange idealMoreWrong)

/-- 'geoproverlaw10.IdealCombines': WHATEVER THE INPUT: true; the input reads as it did. -/
def idealCombinesSpec : ChangeSpec := { name := "idealCombines", fn := fun _ => fun
  | [d1, d2, d3] => { results := [.lit (.bool true)], args := [d1, d2, d3] }
  | _ => none }
def idealCombinesRow : OpenClaim := { program := "ytonfajmchebkeaagreat", sum := "6b6983dc7b1c25b99526d78aeb603638acca31a74142e39228440f6cb98db10b", func := "geoprover/geoproverlaw10.IdealCombines", spec := "idealCombines", unfollowed := true, recurses := true, apart := false }
def IdealCombinesSaid : Prop := idealCombinesRow.holds Tryz.pinned (OpenSpec.ofChange idealCombinesSpec)

/-- ITS FALSE NEIGHBOUR: 'it returns false'. Refute it at one input. -/
def idealCombinesWrong : ChangeSpec := { name := "idealCombines", fn := fun _ => fun
  | [d1, d2, d3] => { results := [.lit (.bool false)], args := [d1, d2, d3] }
  | _ => none }
def IdealCombinesWrongFalsely : Prop := idealCombinesRow.holds Tryz.pinned (OpenSpec.ofChange idealCombinesWrong)

/-- 'geoproverlaw10.IdealCancels': WHATEVER THE INPUT: true; the input reads as it did. -/
def idealCancelsSpec : ChangeSpec := { name := "idealCancels", fn := fun _ => fun
  | [d1, d2] => { results := [.lit (.bool true)], args := [d1, d2] }
  | _ => none }
def idealCancelsRow : OpenClaim := { program := "ytonfajmchebkeaagreat", sum := "6b6983dc7b1c25b99526d78aeb603638acca31a74142e39228440f6cb98db10b", func := "geoprover/geoproverlaw10.IdealCancels", spec := "idealCancels", unfollowed := true, recurses := true, apart := false }
def IdealCancelsSaid : Prop := idealCancelsRow.holds Tryz.pinned (OpenSpec.ofChange idealCancelsSpec)

/-- ITS FALSE NEIGHBOUR: 'it returns false'. Refute it at one input. -/
def idealCancelsWrong : ChangeSpec := { name := "idealCancels", fn := fun _ => fun
  | [d1, d2] => { results := [.lit (.bool false)], args := [d1, d2] }
  | _ => none }
def IdealCancelsWrongFalsely : Prop := idealCancelsRow.holds Tryz.pinned (OpenSpec.ofChange idealCancelsWrong)

/-- 'geoproverlaw10.IdealMinimal': WHATEVER THE INPUT: true; the input reads as it did. -/
def idealMinimalSpec : ChangeSpec := { name := "idealMinimal", fn := fun _ => fun
  | [d1, d2] => { results := [.lit (.bool true)], args := [d1, d2] }
  | _ => none }
def idealMinimalRow : OpenClaim := { program := "ytonfajmchebkeaagreat", sum := "6b6983dc7b1c25b99526d78aeb603638acca31a74142e39228440f6cb98db10b", func := "geoprover/geoproverlaw10.IdealMinimal", spec := "idealMinimal", unfollowed := true, recurses := true, apart := false }
def IdealMinimalSaid : Prop := idealMinimalRow.holds Tryz.pinned (OpenSpec.ofChange idealMinimalSpec)

/-- ITS FALSE NEIGHBOUR: 'it returns false'. Refute it at one input. -/
def idealMinimalWrong : ChangeSpec := { name := "idealMinimal", fn := fun _ => fun
  | [d1, d2] => { results := [.lit (.bool false)], args := [d1, d2] }
  | _ => none }
def IdealMinimalWrongFalsely : Prop := idealMinimalRow.holds Tryz.pinned (OpenSpec.ofChange idealMinimalWrong)

/- THE SECOND FORM. 'bulk': how many values and letters a reading holds, each counted each time it is reached (what is shared counts as often as it is met; a slice's spare places count too). A statement '..UptoSaid' is the law's where the arguments, and the package variables that the reading takes, are together of bulk at most 1048576: NARROWER than '..Said'. Prove '..Said' where nothing that the law and all that it calls make is longer than what came in: it says more and counts as full. Else prove '..UptoSaid'. A law counts once. -/
mutual
def uptoBulk {H : Type} : DataW H → Nat
  | .lit (.string bytes) => bytes.length + 1
  | .lit _ => 1
  | .nil => 1
  | .ptr d => uptoBulk d + 1
  | .slice elems spare => uptoBulkAll elems + uptoBulkAll spare + 1
  | .agg parts => uptoBulkAll parts + 1
  | .iface _ d => uptoBulk d + 1
  | .map entries => uptoBulkEntries entries + 1
  | .held _ => 1
def uptoBulkAll {H : Type} : List (DataW H) → Nat
  | [] => 0
  | d :: r => uptoBulk d + uptoBulkAll r
def uptoBulkEntries {H : Type} : List (Lit × DataW H) → Nat
  | [] => 0
  | x :: r => uptoBulkEntry x + uptoBulkEntries r
def uptoBulkEntry {H : Type} : Lit × DataW H → Nat
  | (.string bytes, d) => bytes.length + uptoBulk d + 1
  | (_, d) => uptoBulk d + 1
 end
def uptoSmall : (H : Type) → List (DataW H) → Bool := fun _ ds => decide (uptoBulkAll ds ≤ 1048576)
def OpenSpec.upto (s : _root_.Go.ChangeSpec) : _root_.Go.OpenSpec := { _root_.Go.OpenSpec.ofChange s with cond := some uptoSmall }

/-- 'geoproverlaw24.GoalsPolynomials', WHERE WHAT IT READS IS OF BULK AT MOST 1048576: true; the input reads as it did. -/
def goalsPolynomialsUptoRow : OpenClaim := { program := "ytonfajmchebkeaagreat", sum := "6b6983dc7b1c25b99526d78aeb603638acca31a74142e39228440f6cb98db10b", func := "geoprover/geoproverlaw24.GoalsPolynomials", spec := "goalsPolynomials", unfollowed := true, recurses := true, apart := false, narrowed := true }
def GoalsPolynomialsUptoSaid : Prop := goalsPolynomialsUptoRow.holds Tryz.pinned (OpenSpec.upto goalsPolynomialsSpec)

/-- 'geoproverlaw24.GoalsMean', WHERE WHAT IT READS IS OF BULK AT MOST 1048576: true; the input reads as it did. -/
def goalsMeanUptoRow : OpenClaim := { program := "ytonfajmchebkeaagreat", sum := "6b6983dc7b1c25b99526d78aeb603638acca31a74142e39228440f6cb98db10b", func := "geoprover/geoproverlaw24.GoalsMean", spec := "goalsMean", unfollowed := true, recurses := true, apart := false, narrowed := true }
def GoalsMeanUptoSaid : Prop := goalsMeanUptoRow.holds Tryz.pinned (OpenSpec.upto goalsMeanSpec)

/-- 'geoproverlaw24.GoalsTrivial', WHERE WHAT IT READS IS OF BULK AT MOST 1048576: true; the input reads as it did. -/
def goalsTrivialUptoRow : OpenClaim := { program := "ytonfajmchebkeaagreat", sum := "6b6983dc7b1c25b99526d78aeb603638acca31a74142e39228440f6cb98db10b", func := "geoprover/geoproverlaw24.GoalsTrivial", spec := "goalsTrivial", unfollowed := true, recurses := true, apart := false, narrowed := true }
def GoalsTrivialUptoSaid : Prop := goalsTrivialUptoRow.holds Tryz.pinned (OpenSpec.upto goalsTrivialSpec)

/-- 'geoproverlaw10.IdealMultiplies', WHERE WHAT IT READS IS OF BULK AT MOST 1048576: true; the input reads as it did. -/
def idealMultipliesUptoRow : OpenClaim := { program := "ytonfajmchebkeaagreat", sum := "6b6983dc7b1c25b99526d78aeb603638acca31a74142e39228440f6cb98db10b", func := "geoprover/geoproverlaw10.IdealMultiplies", spec := "idealMultiplies", unfollowed := true, recurses := true, apart := false, narrowed := true }
def IdealMultipliesUptoSaid : Prop := idealMultipliesUptoRow.holds Tryz.pinned (OpenSpec.upto idealMultipliesSpec)

/-- 'geoproverlaw10.IdealChecks', WHERE WHAT IT READS IS OF BULK AT MOST 1048576: true; the input reads as it did. -/
def idealChecksUptoRow : OpenClaim := { program := "ytonfajmchebkeaagreat", sum := "6b6983dc7b1c25b99526d78aeb603638acca31a74142e39228440f6cb98db10b", func := "geoprover/geoproverlaw10.IdealChecks", spec := "idealChecks", unfollowed := true, recurses := true, apart := false, narrowed := true }
def IdealChecksUptoSaid : Prop := idealChecksUptoRow.holds Tryz.pinned (OpenSpec.upto idealChecksSpec)

/-- 'geoproverlaw10.IdealSound', WHERE WHAT IT READS IS OF BULK AT MOST 1048576: true; the input reads as it did. -/
def idealSoundUptoRow : OpenClaim := { program := "ytonfajmchebkeaagreat", sum := "6b6983dc7b1c25b99526d78aeb603638acca31a74142e39228440f6cb98db10b", func := "geoprover/geoproverlaw10.IdealSound", spec := "idealSound", unfollowed := true, recurses := true, apart := false, narrowed := true }
def IdealSoundUptoSaid : Prop := idealSoundUptoRow.holds Tryz.pinned (OpenSpec.upto idealSoundSpec)

/-- 'geoproverlaw10.IdealMore', WHERE WHAT IT READS IS OF BULK AT MOST 1048576: true; the input reads as it did. -/
def idealMoreUptoRow : OpenClaim := { program := "ytonfajmchebkeaagreat", sum := "6b6983dc7b1c25b99526d78aeb603638acca31a74142e39228440f6cb98db10b", func := "geoprover/geoproverlaw10.IdealMore", spec := "idealMore", unfollowed := true, recurses := true, apart := false, narrowed := true }
def IdealMoreUptoSaid : Prop := idealMoreUptoRow.holds Tryz.pinned (OpenSpec.upto idealMoreSpec)

/-- 'geoproverlaw10.IdealCombines', WHERE WHAT IT READS IS OF BULK AT MOST 1048576: true; the input reads as it did. -/
def idealCombinesUptoRow : OpenClaim := { program := "ytonfajmchebkeaagreat", sum := "6b6983dc7b1c25b99526d78aeb603638acca31a74142e39228440f6cb98db10b", func := "geoprover/geoproverlaw10.IdealCombines", spec := "idealCombines", unfollowed := true, recurses := true, apart := false, narrowed := true }
def IdealCombinesUptoSaid : Prop := idealCombinesUptoRow.holds Tryz.pinned (OpenSpec.upto idealCombinesSpec)

/-- 'geoproverlaw10.IdealCancels', WHERE WHAT IT READS IS OF BULK AT MOST 1048576: true; the input reads as it did. -/
def idealCancelsUptoRow : OpenClaim := { program := "ytonfajmchebkeaagreat", sum := "6b6983dc7b1c25b99526d78aeb603638acca31a74142e39228440f6cb98db10b", func := "geoprover/geoproverlaw10.IdealCancels", spec := "idealCancels", unfollowed := true, recurses := true, apart := false, narrowed := true }
def IdealCancelsUptoSaid : Prop := idealCancelsUptoRow.holds Tryz.pinned (OpenSpec.upto idealCancelsSpec)

/-- 'geoproverlaw10.IdealMinimal', WHERE WHAT IT READS IS OF BULK AT MOST 1048576: true; the input reads as it did. -/
def idealMinimalUptoRow : OpenClaim := { program := "ytonfajmchebkeaagreat", sum := "6b6983dc7b1c25b99526d78aeb603638acca31a74142e39228440f6cb98db10b", func := "geoprover/geoproverlaw10.IdealMinimal", spec := "idealMinimal", unfollowed := true, recurses := true, apart := false, narrowed := true }
def IdealMinimalUptoSaid : Prop := idealMinimalUptoRow.holds Tryz.pinned (OpenSpec.upto idealMinimalSpec)

end Rows
end Go.Proofs.YtonfajmchebkeaaGreat
