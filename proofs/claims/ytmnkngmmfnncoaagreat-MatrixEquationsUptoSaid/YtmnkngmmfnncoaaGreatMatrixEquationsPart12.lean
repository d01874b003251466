/- Part 12 of the proof of MatrixEquations: B5, FwVG. Own lemmas; no conditions. -/
import Derived.Test.YtmnkngmmfnncoaaGreatMatrixEquationsPart11
set_option linter.unusedSimpArgs false
set_option linter.unnecessarySimpa false
set_option linter.unusedVariables false
namespace Go.Proofs.YtmnkngmmfnncoaaGreat
open Go Go.FW
set_option linter.unusedSimpArgs false
set_option linter.unusedVariables false
set_option maxRecDepth 100000
end Go.Proofs.YtmnkngmmfnncoaaGreat
namespace Go.FW
open Go
variable {C : Ctx} {fr : Fr} {hp : HP} {w : World} {K R : Qf}
theorem Qaek {ty d β n e' ty' : Nat} {xs : List PV} {fz : Bool} (h : hp β = some ⟨e', ty', xs, fz⟩) (hB : 2000000 <= β) :
  bsK 1 ty [.ms β n] d fr hp K = K (upd (Qap d fr) d (.ms d 1)) (Qj (Q7 hp [β]) d ⟨1, ty, [.sl e' (xs.take n)], false⟩) := by
 have hy : isY β = false := by simp [isY]; omega
 have e1 : Q6 hp (.ms β n) = .sl e' (xs.take n) := by simp [Q6, Qaq, hy, h]
 have e2 : Qnl hp 1 [.ms β n] := fun p hp' => by
  rw [List.mem_singleton.1 hp', e1]; exact ⟨rfl, rfl⟩
 simp only [bsK, e2, true_and, List.map_cons, List.map_nil, e1, List.flatMap_cons, List.flatMap_nil, PV.refs, List.append_nil, List.length_cons, List.length_nil]
 simp
theorem Q62 {x y : RT} {sk : List It} (hok : Qc6 R sk) (W : List (Nat × Nat)) (B : List Nat) (M : Fr -> HP -> Prop)
  (h : brV C R x y (.el (Qgz W (bse B fr) M) :: sk) (ovr W fr (bse B fr)) hp) (hM : ∀ J hp, M J hp -> vc C R sk (ovr W J (bse B fr)) hp) : brV C R x y sk fr hp := by
 have key : ∀ (r : RT), vc C R (.o r :: .el (Qgz W (bse B fr) M) :: sk) (ovr W fr (bse B fr)) hp -> vc C R (.o r :: sk) fr hp := by
  intro r hr
  refine Qk2 (M := Qgz W (bse B fr) M) ?_ _ [.o r] _ _ (Nat.le_refl _) ?_
  ·rintro fr' hp' ⟨J, h1, h2⟩
   exact Qe6 hok.1 _ _ _ _ _ _ (Nat.le_refl _) hok.2 h1 (hM J hp' h2)
  ·exact Qe6 hok.1 _ _ _ _ _ _ (Nat.le_refl _) (.o r (.el Qiv hok.2)) (Qn1 W B) hr
 exact ⟨key x h.1, key y h.2⟩
theorem Qu9 {nm : Nat -> Bool} {W : List (Nat × Nat)} {J F : Fr} : Qd5 nm (ovr W J F) = ovr W (Qd5 nm J) (Qd5 nm F) := by
 funext s; unfold Qd5 ovr; split <;> rfl
theorem Qva {nm : Nat -> Bool} (h : ∀ x, nm x = true -> 2000000 <= x) {B : List Nat} {F : Fr} : Qd5 nm (bse B F) = bse B F := by
 funext s
 obtain ⟨h1, h2, _, _⟩ := Qiw B F s
 show Qm9 nm (bse B F s) = bse B F s
 unfold Qm9
 rw [if_neg]
 intro hn
 obtain ⟨x, hx, hx2⟩ := List.any_eq_true.1 hn
 have := h x hx2
 rcases List.mem_append.1 hx with hx | hx
 ·have := h1 x hx; simp [isN] at this; omega
 ·have := h2 x hx; simp [isS, isN] at this; omega
theorem Qhu (R : Nat) (M : MF) : ∀ k, (Q8 R M k).piv.Pairwise (· < ·)
 | 0 => List.Pairwise.nil
 | k + 1 => by
  have h := Qhu R M k
  have h2 := (Qct R M k).2.2
  show (Qde R (Q8 R M k) k).piv.Pairwise (· < ·)
  unfold Qde
  split
  ·exact h
  ·refine List.pairwise_append.2 ⟨h, by simp, fun a ha b hb => ?_⟩
   rw [List.mem_singleton.1 hb]; exact h2 a ha
theorem Qvb {l : List Nat} (h : l.Pairwise (· < ·)) {i j : Nat} (hij : i < j) (hj : j < l.length) : l[i] < l[j] := List.pairwise_iff_getElem.1 h i j (by omega) hj hij
def Qg6 (E : MF) (piv : List Nat) (k : Nat) : Nat -> (Nat -> Rat)
 | 0 => fun c => if c = k then 1 else 0
 | j + 1 => fun c => if c = piv.getD j 0 then -(E j k) else Qg6 E piv k j c
def Qe2 (piv : List Nat) (n : Nat) : List Nat := (List.range n).filter fun k => !piv.contains k
theorem Qy7 (piv : List Nat) (n : Nat) : Qe2 piv (n + 1) = Qe2 piv n ++ (if piv.contains n then [] else [n]) := by
 unfold Qe2
 rw [List.range_succ, List.filter_append]
 congr 1
 simp only [List.filter_cons, List.filter_nil]
 cases piv.contains n <;> rfl
def Qfb (E : MF) (piv : List Nat) (n : Nat) : List (Nat -> Rat) := (Qe2 piv n).map fun k => Qg6 E piv k piv.length
end Go.FW
