/- Part 12 of the proof of MatrixForms: B5, FwVG. Own lemmas; no conditions. -/
import Derived.Test.YtmnkngmmfnncoaaGreatMatrixFormsPart11
set_option linter.unusedSimpArgs false
set_option linter.unnecessarySimpa false
set_option linter.unusedVariables false
namespace Go.Proofs.YtmnkngmmfnncoaaGreat
open Go Go.FW
set_option linter.unusedSimpArgs false
set_option linter.unusedVariables false
set_option maxRecDepth 100000
end Go.Proofs.YtmnkngmmfnncoaaGreat
namespace Go.FW
open Go
variable {C : Ctx} {fr : Fr} {hp : HP} {w : World} {K R : Qf}
theorem Qfk (R : Nat) (M : MF) : ∀ k, (Qae R M k).piv.Pairwise (· < ·)
 | 0 => List.Pairwise.nil
 | k + 1 => by
  have h := Qfk R M k
  have h2 := (Qdn R M k).2.2
  show (Qdf R (Qae R M k) k).piv.Pairwise (· < ·)
  unfold Qdf
  split
  ·exact h
  ·refine List.pairwise_append.2 ⟨h, by simp, fun a ha b hb => ?_⟩
   rw [List.mem_singleton.1 hb]; exact h2 a ha
theorem Qv2 {l : List Nat} (h : l.Pairwise (· < ·)) {i j : Nat} (hij : i < j) (hj : j < l.length) : l[i] < l[j] := List.pairwise_iff_getElem.1 h i j (by omega) hj hij
def Qz2 (E : MF) (piv : List Nat) (k : Nat) : Nat -> (Nat -> Rat)
 | 0 => fun c => if c = k then 1 else 0
 | j + 1 => fun c => if c = piv.getD j 0 then -(E j k) else Qz2 E piv k j c
end Go.FW
