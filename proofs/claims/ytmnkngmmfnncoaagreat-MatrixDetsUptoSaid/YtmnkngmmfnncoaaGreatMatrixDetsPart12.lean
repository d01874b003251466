/- Part 12 of the proof of MatrixDets: B5, FwVG. Own lemmas; no conditions. -/
import Derived.Test.YtmnkngmmfnncoaaGreatMatrixDetsPart11
set_option linter.unusedSimpArgs false
set_option linter.unnecessarySimpa false
set_option linter.unusedVariables false
namespace Go.Proofs.YtmnkngmmfnncoaaGreat
open Go Go.FW
set_option linter.unusedSimpArgs false
set_option linter.unusedVariables false
set_option maxRecDepth 100000
end Go.Proofs.YtmnkngmmfnncoaaGreat
namespace Go.FW
open Go
variable {C : Ctx} {fr : Fr} {hp : HP} {w : World} {K R : Qf}
theorem Qafc {ty d β n e' ty' : Nat} {xs : List PV} {fz : Bool} (h : hp β = some ⟨e', ty', xs, fz⟩) (hB : 2000000 <= β) :
  bsK 1 ty [.ms β n] d fr hp K = K (upd (Qaq d fr) d (.ms d 1)) (Qj (Q8 hp [β]) d ⟨1, ty, [.sl e' (xs.take n)], false⟩) := by
 have hy : isY β = false := by simp [isY]; omega
 have e1 : Q9 hp (.ms β n) = .sl e' (xs.take n) := by simp [Q9, Qaw, hy, h]
 have e2 : Qn1 hp 1 [.ms β n] := fun p hp' => by
  rw [List.mem_singleton.1 hp', e1]; exact ⟨rfl, rfl⟩
 simp only [bsK, e2, true_and, List.map_cons, List.map_nil, e1, List.flatMap_cons, List.flatMap_nil, PV.refs, List.append_nil, List.length_cons, List.length_nil]
 simp
theorem Q7x {x y : RT} {sk : List It} (hok : Qda R sk) (W : List (Nat × Nat)) (B : List Nat) (M : Fr -> HP -> Prop)
  (h : brV C R x y (.el (Qg6 W (bse B fr) M) :: sk) (ovr W fr (bse B fr)) hp) (hM : ∀ J hp, M J hp -> vc C R sk (ovr W J (bse B fr)) hp) : brV C R x y sk fr hp := by
 have key : ∀ (r : RT), vc C R (.o r :: .el (Qg6 W (bse B fr) M) :: sk) (ovr W fr (bse B fr)) hp -> vc C R (.o r :: sk) fr hp := by
  intro r hr
  refine Qlb (M := Qg6 W (bse B fr) M) ?_ _ [.o r] _ _ (Nat.le_refl _) ?_
  ·rintro fr' hp' ⟨J, h1, h2⟩
   exact Qfc hok.1 _ _ _ _ _ _ (Nat.le_refl _) hok.2 h1 (hM J hp' h2)
  ·exact Qfc hok.1 _ _ _ _ _ _ (Nat.le_refl _) (.o r (.el Qi0 hok.2)) (Qoh W B) hr
 exact ⟨key x h.1, key y h.2⟩
theorem Q7y {nm : Nat -> Bool} {W : List (Nat × Nat)} {J F : Fr} : Qea nm (ovr W J F) = ovr W (Qea nm J) (Qea nm F) := by
 funext s; unfold Qea ovr; split <;> rfl
theorem Q7z {nm : Nat -> Bool} (h : ∀ x, nm x = true -> 2000000 <= x) {B : List Nat} {F : Fr} : Qea nm (bse B F) = bse B F := by
 funext s
 obtain ⟨h1, h2, _, _⟩ := Qi2 B F s
 show Qno nm (bse B F s) = bse B F s
 unfold Qno
 rw [if_neg]
 intro hn
 obtain ⟨x, hx, hx2⟩ := List.any_eq_true.1 hn
 have := h x hx2
 rcases List.mem_append.1 hx with hx | hx
 ·have := h1 x hx; simp [isN] at this; omega
 ·have := h2 x hx; simp [isS, isN] at this; omega
theorem Qdf (R : Nat) (M : MF) : ∀ k, (Qv R M k).piv.Pairwise (· < ·)
 | 0 => List.Pairwise.nil
 | k + 1 => by
  have h := Qdf R M k
  have h2 := (Qb5 R M k).2.2
  show (Qcg R (Qv R M k) k).piv.Pairwise (· < ·)
  unfold Qcg
  split
  ·exact h
  ·refine List.pairwise_append.2 ⟨h, by simp, fun a ha b hb => ?_⟩
   rw [List.mem_singleton.1 hb]; exact h2 a ha
theorem Qlr {l : List Nat} (h : l.Pairwise (· < ·)) {i j : Nat} (hij : i < j) (hj : j < l.length) : l[i] < l[j] := List.pairwise_iff_getElem.1 h i j (by omega) hj hij
def Qju (E : MF) (piv : List Nat) (k : Nat) : Nat -> (Nat -> Rat)
 | 0 => fun c => if c = k then 1 else 0
 | j + 1 => fun c => if c = piv.getD j 0 then -(E j k) else Qju E piv k j c
def Qd6 (piv : List Nat) (n : Nat) : List Nat := (List.range n).filter fun k => !piv.contains k
theorem Qmr (piv : List Nat) (n : Nat) : Qd6 piv (n + 1) = Qd6 piv n ++ (if piv.contains n then [] else [n]) := by
 unfold Qd6
 rw [List.range_succ, List.filter_append]
 congr 1
 simp only [List.filter_cons, List.filter_nil]
 cases piv.contains n <;> rfl
def Qga (E : MF) (piv : List Nat) (n : Nat) : List (Nat -> Rat) := (Qd6 piv n).map fun k => Qju E piv k piv.length
end Go.FW
