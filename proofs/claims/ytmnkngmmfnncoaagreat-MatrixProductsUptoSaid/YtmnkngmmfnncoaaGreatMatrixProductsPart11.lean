/- Part 11 of the proof of MatrixProducts: B2, B3, FwUE, FwVD. Own lemmas; no conditions. -/
import Derived.Test.YtmnkngmmfnncoaaGreatMatrixProductsPart10
set_option linter.unusedSimpArgs false
set_option linter.unnecessarySimpa false
set_option linter.unusedVariables false
namespace Go.Proofs.YtmnkngmmfnncoaaGreat
open Go Go.FW
set_option linter.unusedSimpArgs false
set_option linter.unusedVariables false
set_option maxRecDepth 100000
theorem Q1f {l : List Rat} {R m i : Nat} (hl : l.length = R * m) (hi : i < R) (hR2 : R <= 40) (hm : m <= 40) : Qd Tryz.prog 103 [PV.mat R m l, .int .i64 (i : Nat)] (· = .sl 3 (Q6 PV.rat (Qaj l m i) m)) := by
 have hb1 : (i + 1) * m <= R * m := Nat.mul_le_mul_right _ hi
 have hb2 : i * m <= (i + 1) * m := Nat.mul_le_mul_right _ (by omega)
 have e1 : (i : Int) * (m : Int) = ((i * m : Nat) : Int) := by rw [Int.natCast_mul]
 have e2 : ((i : Int) + 1) * (m : Int) = (((i + 1) * m : Nat) : Int) := by rw [Int.natCast_mul]; rfl
 have hcr := Qrt hl hi
 have hRm : R * m <= 40 * 40 := Nat.mul_le_mul hR2 hm
 refine Qi Qm Tryz.func103 rfl Q9y (by simp [Q5v]) fun C hP => ?_; simp only [Q5v]
 simp +decide (disch := first | omega | rfl | (simp +decide only [go_sem, ↓reduceIte, e1, e2] <;> rfl) | fail) only [go_sem, ↓reduceIte, e1, e2]
 refine Qc ?_ rfl
 rw [hcr]
end Go.Proofs.YtmnkngmmfnncoaaGreat
namespace Go.Proofs.YtmnkngmmfnncoaaGreat
open Go Go.FW
set_option linter.unusedSimpArgs false
set_option linter.unusedVariables false
set_option maxRecDepth 100000
theorem Qj3 {R m : Nat} {l : List Rat} (hl : l.length = R * m) (hR : R <= 40) (hm : m <= 40) (hs : ∀ q ∈ l, rs q <= 1048576) : Qd Tryz.prog 26 [PV.mat R m l] (· = .bool true) := by
 have hRm : R * m <= 40 * 40 := Nat.mul_le_mul hR hm
 have h := Qc0 (r := (R : Int)) (c := (m : Int)) (l := l.map qR) ⟨by rw [List.length_map]; omega, RRk.of hs⟩
 rw [<- Qko, Qhq hl hR hm] at h
 exact h
end Go.Proofs.YtmnkngmmfnncoaaGreat
namespace Go.FW
open Go
theorem Qade (x y : Int) (hy : y ≠ 0) : rs ((x : Rat) / (y : Rat)) <= max (nl x.natAbs) (max (nl y.natAbs) 1) := by
 rw [<- Qp0 x y hy]
 have := Qle (zv (decide (x < 0) != decide (y < 0)) (dig x.natAbs)) y.natAbs
 rwa [Qa5, Qy] at this
theorem Q1g (q : Rat) (h : q ≠ 0) : rs q⁻¹ <= rs q := by
 have hn : q.num ≠ 0 := fun e => h (Rat.num_eq_zero.1 e)
 have e : q⁻¹ = (((q.den : Int) : Int) : Rat) / ((q.num : Int) : Rat) := by
  have d1 : q = (q.num : Rat) / ((q.den : Int) : Rat) := by
   conv => lhs; rw [<- Rat.mkRat_self q]
   rw [Rat.mkRat_eq_div, Rat.intCast_natCast]
  have k1 : ((q.den : Int) : Rat) ≠ 0 := by rw [Ne, Rat.intCast_eq_zero_iff]; have := q.den_nz; omega
  have k3 : ((q.num : Int) : Rat) ≠ 0 := by rw [Ne, Rat.intCast_eq_zero_iff]; exact hn
  generalize (q.num : Rat) = A at *
  generalize ((q.den : Int) : Rat) = D at *
  rw [d1]
  grind
 have h2 := Qade (q.den : Int) q.num hn
 have h3 := Qts q
 rw [e]
 unfold rs at h3 ⊢
 unfold rs at h2
 rw [Int.natAbs_natCast] at h2
 have h4 : 1 <= nl q.den := by
  have := q.den_nz
  apply Decidable.byContradiction; intro hc
  exact this (Qh3.1 (by omega))
 omega
end Go.FW
namespace Go.FW
open Go
end Go.FW
