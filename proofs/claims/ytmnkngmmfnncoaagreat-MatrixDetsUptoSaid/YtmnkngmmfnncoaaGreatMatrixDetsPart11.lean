/- Part 11 of the proof of MatrixDets: B2, B3, FwUE, FwVD. Own lemmas; no conditions. -/
import Derived.Test.YtmnkngmmfnncoaaGreatMatrixDetsPart10
set_option linter.unusedSimpArgs false
set_option linter.unnecessarySimpa false
set_option linter.unusedVariables false
namespace Go.Proofs.YtmnkngmmfnncoaaGreat
open Go Go.FW
set_option linter.unusedSimpArgs false
set_option linter.unusedVariables false
set_option maxRecDepth 100000
end Go.Proofs.YtmnkngmmfnncoaaGreat
namespace Go.Proofs.YtmnkngmmfnncoaaGreat
open Go Go.FW
set_option linter.unusedSimpArgs false
set_option linter.unusedVariables false
set_option maxRecDepth 100000
end Go.Proofs.YtmnkngmmfnncoaaGreat
namespace Go.FW
open Go
theorem Qae9 (x y : Int) (hy : y ≠ 0) : rs ((x : Rat) / (y : Rat)) <= max (nl x.natAbs) (max (nl y.natAbs) 1) := by
 rw [<- Qqz x y hy]
 have := Qmb (zv (decide (x < 0) != decide (y < 0)) (dig x.natAbs)) y.natAbs
 rwa [Qbb, Qy] at this
theorem Qvv (q : Rat) (h : q ≠ 0) : rs q⁻¹ <= rs q := by
 have hn : q.num ≠ 0 := fun e => h (Rat.num_eq_zero.1 e)
 have e : q⁻¹ = (((q.den : Int) : Int) : Rat) / ((q.num : Int) : Rat) := by
  have d1 : q = (q.num : Rat) / ((q.den : Int) : Rat) := by
   conv => lhs; rw [<- Rat.mkRat_self q]
   rw [Rat.mkRat_eq_div, Rat.intCast_natCast]
  have k1 : ((q.den : Int) : Rat) ≠ 0 := by rw [Ne, Rat.intCast_eq_zero_iff]; have := q.den_nz; omega
  have k3 : ((q.num : Int) : Rat) ≠ 0 := by rw [Ne, Rat.intCast_eq_zero_iff]; exact hn
  generalize (q.num : Rat) = A at *
  generalize ((q.den : Int) : Rat) = D at *
  rw [d1]
  grind
 have h2 := Qae9 (q.den : Int) q.num hn
 have h3 := Quv q
 rw [e]
 unfold rs at h3 ⊢
 unfold rs at h2
 rw [Int.natAbs_natCast] at h2
 have h4 : 1 <= nl q.den := by
  have := q.den_nz
  apply Decidable.byContradiction; intro hc
  exact this (Qiq.1 (by omega))
 omega
end Go.FW
namespace Go.FW
open Go
theorem Qafa {a b : Rat} (h : b ≠ 0) : rs (a / b) <= rs a + rs b := by
 rw [Rat.div_def]
 have := Qec a b⁻¹
 have := Qvv b h
 omega
theorem Qafb (a b : Rat) : rs (a - b) <= rs a + rs b + 1 := by
 rw [Rat.sub_eq_add_neg]
 have := Quw a (-b)
 rw [Qqn] at this
 exact this
theorem Qacb {R w B : Nat} {E : Ech} {k : Nat} (hk : k < w) (hB : 1 <= B) (hM : MBd B R w E.M) (hd : rs E.det <= B) (hm : E.piv.length <= R) : MBd (5 * B) R w (Qcg R E k).M /\ rs (Qcg R E k).det <= 5 * B := by
 unfold Qcg
 split
 ·exact ⟨fun r hr c hc => by have := hM r hr c hc; omega, by omega⟩
 ·rename_i hp
  have h1 := Qi4 E.M k (R - E.piv.length) E.piv.length
  obtain ⟨i, hi⟩ : ∃ i, Qca E.M R k E.piv.length = i := ⟨_, rfl⟩
  have hi1 : E.piv.length <= i /\ i <= R := by
   rw [<- hi]; unfold Qca; omega
  rw [hi] at hp ⊢
  have hiR : i < R := by omega
  have hp0 : E.M i k ≠ 0 := by
   have := Qlj E.M k (R - E.piv.length) E.piv.length (by unfold Qca at hi; rw [hi]; omega)
   unfold Qca at hi
   rwa [hi] at this
  have hpk := hM i hiR k hk
  generalize hmm : E.piv.length = m at *
  have hmR : m < R := by omega
  have hS : ∀ r, r < R -> ∀ c, c < w -> rs (Qah E.M i m r c) <= B := fun r hr c hc => by
   unfold Qah
   split
   ·exact hM i hiR c hc
   ·split
    ·exact hM m hmR c hc
    ·exact hM r hr c hc
  have hN : ∀ r, r < R -> ∀ c, c < w -> rs (Qax (Qah E.M i m) m (E.M i k) r c) <= 2 * B := fun r hr c hc => by
   unfold Qax
   split
   ·have := hS m hmR c hc
    have := Qafa (a := Qah E.M i m m c) hp0
    omega
   ·have := hS r hr c hc; omega
  have hN1 : ∀ r, r < R -> r ≠ m -> ∀ c, c < w -> rs (Qax (Qah E.M i m) m (E.M i k) r c) <= B := fun r hr hne c hc => by
   unfold Qax
   rw [if_neg hne]; exact hS r hr c hc
  refine ⟨fun r hr c hc => ?_, ?_⟩
  ·show rs (Qes (Qax (Qah E.M i m) m (E.M i k)) m k r c) <= 5 * B
   unfold Qes
   split
   ·have := hN m hmR c hc; omega
   ·rename_i hne
    have a1 := hN1 r hr hne c hc
    have a2 := hN1 r hr hne k hk
    have a3 := hN m hmR c hc
    generalize Qax (Qah E.M i m) m (E.M i k) = N at *
    have a4 := Qec (N r k) (N m c)
    have a5 := Qafb (N r c) (N r k * N m c)
    omega
  ·show rs ((if i = m then E.det else -E.det) * E.M i k) <= 5 * B
   have hdd : rs (if i = m then E.det else -E.det) <= B := by
    split
    ·exact hd
    ·rw [Qqn]; exact hd
   have := Qec (if i = m then E.det else -E.det) (E.M i k)
   omega
theorem Qxy {R w b : Nat} {M : MF} (hb : 1 <= b) (hM : MBd b R w M) : ∀ k, k <= w -> ∃ s, s <= k /\ s <= R /\ MBd (b * 5 ^ s) R w (Qv R M k).M /\ rs (Qv R M k).det <= b * 5 ^ s /\ (Qv R M k).piv.length = s
 | 0, _ => ⟨0, Nat.le_refl _, Nat.zero_le _, by rw [Nat.pow_zero, Nat.mul_one]; exact hM, by
   have := Qu1
   show rs 1 <= b * 5 ^ 0
   omega, rfl⟩
 | k + 1, h => by
  obtain ⟨s, h1, h2, h3, h4, h5⟩ := Qxy hb hM k (by omega)
  have hpos : 1 <= b * 5 ^ s := Nat.mul_pos hb (Nat.pow_pos (by omega))
  have hpl := (Qb5 R M (k + 1)).2.1
  show ∃ s, s <= k + 1 /\ s <= R /\ MBd (b * 5 ^ s) R w (Qcg R (Qv R M k) k).M /\ rs (Qcg R (Qv R M k) k).det <= b * 5 ^ s /\ (Qcg R (Qv R M k) k).piv.length = s
  have hpl : (Qcg R (Qv R M k) k).piv.length <= R := hpl
  have hst := Qacb (k := k) (by omega) hpos h3 h4 (by omega)
  by_cases hp : Qca (Qv R M k).M R k (Qv R M k).piv.length = R
  ·have e : Qcg R (Qv R M k) k = Qv R M k := by unfold Qcg; rw [if_pos hp]
   rw [e]; exact ⟨s, by omega, h2, h3, h4, h5⟩
  ·have hl : (Qcg R (Qv R M k) k).piv.length = s + 1 := by
    unfold Qcg; rw [if_neg hp]; simp [h5]
   have hm : b * 5 ^ (s + 1) = 5 * (b * 5 ^ s) := by rw [Nat.pow_succ]; simp only [Nat.mul_comm, Nat.mul_left_comm]
   exact ⟨s + 1, by omega, by omega, by rw [hm]; exact hst.1, by rw [hm]; exact hst.2, hl⟩
theorem Qlq {R w n b : Nat} {M : MF} (hb : 1 <= b) (hM : MBd b R w M) (hn : n <= w) (h5 : R <= 5 ∨ n <= 5) : Qjs (b * 3125) R w n M := fun k hk => by
 obtain ⟨s, h1, h2, h3, h4, _⟩ := Qxy hb hM k (by omega)
 have hs : s <= 5 := by omega
 have hp : 5 ^ s <= 5 ^ 5 := Nat.pow_le_pow_right (by omega) hs
 have hm : b * 5 ^ s <= b * 3125 := Nat.mul_le_mul_left _ hp
 exact ⟨fun r hr c hc => Nat.le_trans (h3 r hr c hc) hm, Nat.le_trans h4 hm⟩
end Go.FW
