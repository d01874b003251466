/- MatrixProducts holds, for arguments of bulk at most 1048576. -/
import Derived.Test.YtmnkngmmfnncoaaGreatMatrixProductsPart11
set_option linter.unusedSimpArgs false
set_option linter.unnecessarySimpa false
set_option linter.unusedVariables false
namespace Go.Proofs.YtmnkngmmfnncoaaGreat
open Go Go.FW
set_option linter.unusedSimpArgs false
set_option linter.unusedVariables false
set_option maxRecDepth 100000
end Go.Proofs.YtmnkngmmfnncoaaGreat
namespace Go.Proofs.YtmnkngmmfnncoaaGreat
open Go Go.FW
set_option linter.unusedSimpArgs false
set_option linter.unusedVariables false
set_option maxRecDepth 100000
theorem Qaac {n : Nat} (hn : n <= 2 ^ 30) : Qd Tryz.prog 116 [.int .i64 (n : Nat)] (· = .sl 3 (Q6 PV.rat (fun _ => (0 : Rat)) n)) := by
 refine Qi Qm Tryz.func116 rfl Q9w (by simp [Q5t]) fun C hP => ?_; simp only [Q5t]
 simp +decide (disch := first | omega | rfl | (simp +decide only [go_sem, ↓reduceIte] <;> rfl) | fail) only [go_sem, ↓reduceIte]
 refine Qak (by repeat (first | exact Qx | exact Qp | exact Qq | exact Qr | exact Qt | apply Qo | apply Qw | apply Q3 | apply Q9 | apply Qaa | apply Qn | apply Qz)) [(4, 4), (9, 16)] [] (fun q J hp => ∃ i xs, q = n - i /\ i <= n /\ J 9 = .int .i64 (i : Nat) /\ xs.length = n /\ hp 6 = some ⟨3, 32, xs, false⟩ /\ ∀ j, j < i -> xs[j]? = some (PV.rat 0)) n ?_ ?_
 ·refine ⟨0, List.replicate n (.agg [.bool false, .nilS, .nilS]), rfl, by omega, ?_⟩
  simp +decide (disch := first | omega | rfl | (simp +decide only [go_sem, ↓reduceIte] <;> rfl) | fail) only [go_sem, ↓reduceIte]
  exact ⟨rfl, by simp, fun j hj => by omega⟩
 rintro _ J h ⟨i, xs, rfl, hi, h9, hl, h6, hx⟩
 simp +decide (disch := first | omega | rfl | (simp +decide only [go_sem, ↓reduceIte, h9] <;> rfl) | fail) only [go_sem, ↓reduceIte, h9]
 refine Qb (fun hg => ?_) (fun hg => ?_)
 ·have hi' : i < n := by omega
  simp +decide (disch := first | omega | rfl | (simp +decide only [go_sem, ↓reduceIte, h9] <;> rfl) | fail) only [go_sem, ↓reduceIte, h9]
  refine Qa hP (Qop (x := 0) (by omega) (by omega)) rfl rfl rfl ?_
  rw [show ((0 : Int) : Rat) = 0 from rfl]
  generalize (0 : Rat) = z at *
  simp +decide (disch := first | omega | rfl | (simp +decide only [go_sem, ↓reduceIte, h9, h6] <;> rfl) | fail) only [go_sem, ↓reduceIte, h9, h6]
  rw [Qf2 (n := 3) (xs := xs) (v := PV.rat z) (by omega) rfl rfl]
  simp +decide (disch := first | omega | rfl | (simp +decide only [go_sem, ↓reduceIte, h9] <;> rfl) | fail) only [go_sem, ↓reduceIte, h9]
  refine Qab (n - (i + 1)) (by omega) ⟨i + 1, xs.set i (PV.rat z), rfl, by omega, ?_⟩
  simp +decide (disch := first | omega | rfl | (simp +decide only [go_sem, ↓reduceIte] <;> rfl) | fail) only [go_sem, ↓reduceIte]
  refine ⟨by simp [hl], fun j hj => ?_⟩
  rw [List.getElem?_set]
  by_cases e : i = j
  ·rw [if_pos e, if_pos (by omega)]
  ·rw [if_neg e]; exact hx j (by omega)
 ·obtain rfl : i = n := by omega
  have e : xs = Q6 PV.rat (fun _ => (0 : Rat)) i := by
   refine List.ext_getElem (by simp [Q6, hl]) fun j h1 h2 => ?_
   have := hx j (by omega)
   rw [List.getElem?_eq_getElem h1] at this
   rw [Qfd]; exact Option.some.inj this
  simp +decide (disch := first | omega | rfl | (simp +decide only [go_sem, ↓reduceIte, h9, h6] <;> rfl) | fail) only [go_sem, ↓reduceIte, h9, h6]
  refine Qc ?_ ?_
  ·simp +decide (disch := first | omega | rfl | (simp +decide only [go_sem, ↓reduceIte, Qe, List.contains_cons, List.contains_nil, List.flatMap_cons, List.flatMap_nil, List.append_nil, h6, e] <;> rfl) | fail) only [go_sem, ↓reduceIte, Qe, List.contains_cons, List.contains_nil, List.flatMap_cons, List.flatMap_nil, List.append_nil, h6, e]
   rw [List.take_of_length_le (by rw [Qau]; omega)]
  ·simp +decide (disch := first | omega | rfl | (simp +decide only [go_sem, ↓reduceIte, Qe, List.contains_cons, List.contains_nil, List.flatMap_cons, List.flatMap_nil, List.append_nil, h6] <;> rfl) | fail) only [go_sem, ↓reduceIte, Qe, List.contains_cons, List.contains_nil, List.flatMap_cons, List.flatMap_nil, List.append_nil, h6]
theorem Qp2 {x y : Nat -> Rat} {c : Rat} {w ty1 ty2 k : Nat} (hw : w <= 2 ^ 30) (hx : ∀ i, i < w -> rs (x i) <= k) (hy : ∀ i, i < w -> rs (y i) <= k) (hc : rs c <= k) (hk : k <= 2 ^ 33) :
  Qca Tryz.prog 164 [.ms 1500000 w, .ms 1500001 w, PV.rat c] (fun _ => .undef) (Qk (Qk hp0 1500000 ⟨3, ty1, Q6 PV.rat x w, true⟩) 1500001 ⟨3, ty2, Q6 PV.rat y w, true⟩) (fun r _ _ => r = .sl 3 (Q6 PV.rat (Qgn x y c) w)) := by
 refine Qel Qm Tryz.func164 rfl Qwd (by simp [Quj]) fun C hP => ?_; simp only [Quj]
 simp +decide (disch := first | omega | rfl | (simp +decide only [go_sem, ↓reduceIte] <;> rfl) | fail) only [go_sem, ↓reduceIte]
 refine Qak (by repeat (first | exact Qx | exact Qp | exact Qq | exact Qr | exact Qt | apply Qo | apply Qw | apply Q3 | apply Q9 | apply Qaa | apply Qn | apply Qz)) [(8, 8), (14, 31)] [] (fun q J hp => ∃ i xs, q = w - i /\ i <= w /\ J 14 = .int .i64 (i : Nat) /\ xs.length = w /\ hp 11 = some ⟨3, 32, xs, false⟩ /\ hp 5 = some ⟨3, 32, [PV.rat c], false⟩ /\ hp 1500000 = some ⟨3, ty1, Q6 PV.rat x w, true⟩ /\ hp 1500001 = some ⟨3, ty2, Q6 PV.rat y w, true⟩ /\ ∀ j, j < i -> xs[j]? = some (PV.rat (Qgn x y c j))) w ?_ ?_
 ·refine ⟨0, List.replicate w (.agg [.bool false, .nilS, .nilS]), rfl, by omega, ?_⟩
  simp +decide (disch := first | omega | rfl | (simp +decide only [go_sem, ↓reduceIte] <;> rfl) | fail) only [go_sem, ↓reduceIte]
  exact ⟨rfl, by simp, fun j hj => by omega⟩
 rintro _ J h ⟨i, xs, rfl, hi, h14, hl, h11, h5, hx1, hy1, hxs⟩
 simp +decide (disch := first | omega | rfl | (simp +decide only [go_sem, ↓reduceIte, h14] <;> rfl) | fail) only [go_sem, ↓reduceIte, h14]
 refine Qb (fun hg => ?_) (fun hg => ?_)
 ·have hi' : i < w := by omega
  have h1 := hx i hi'
  have h2 := hy i hi'
  have hm := Qfq c (y i)
  simp +decide (disch := first | omega | rfl | (simp +decide only [go_sem, ↓reduceIte, h14, h11, h5, hx1, hy1] <;> rfl) | fail) only [go_sem, ↓reduceIte, h14, h11, h5, hx1, hy1]
  refine Qa hP (Qls (k := k) hc h2 (by omega)) rfl rfl rfl ?_
  simp +decide (disch := first | omega | rfl | (simp +decide only [go_sem, ↓reduceIte, h14, h11, h5, hx1, hy1] <;> rfl) | fail) only [go_sem, ↓reduceIte, h14, h11, h5, hx1, hy1]
  refine Qa hP (Qsk (k := 2 * k) (by omega) (by omega) (by omega)) rfl rfl rfl ?_
  simp +decide (disch := first | omega | rfl | (simp +decide only [go_sem, ↓reduceIte, h14, h11, h5, hx1, hy1] <;> rfl) | fail) only [go_sem, ↓reduceIte, h14, h11, h5, hx1, hy1]
  rw [Qf2 (n := 3) (xs := xs) (v := PV.rat (x i + c * y i)) (by omega) rfl rfl]
  simp +decide (disch := first | omega | rfl | (simp +decide only [go_sem, ↓reduceIte, h14] <;> rfl) | fail) only [go_sem, ↓reduceIte, h14]
  refine Qab (w - (i + 1)) (by omega) ⟨i + 1, xs.set i (PV.rat (x i + c * y i)), rfl, by omega, ?_⟩
  simp +decide (disch := first | omega | rfl | (simp +decide only [go_sem, ↓reduceIte, h5, hx1, hy1] <;> rfl) | fail) only [go_sem, ↓reduceIte, h5, hx1, hy1]
  refine ⟨by simp [hl], fun j hj => ?_⟩
  rw [List.getElem?_set]
  by_cases e : i = j
  ·subst e; rw [if_pos rfl, if_pos (by omega)]; rfl
  ·rw [if_neg e]; exact hxs j (by omega)
 ·obtain rfl : i = w := by omega
  have e : xs = Q6 PV.rat (Qgn x y c) i := by
   refine List.ext_getElem (by simp [Q6, hl]) fun j h1 h2 => ?_
   have := hxs j (by omega)
   rw [List.getElem?_eq_getElem h1] at this
   rw [Qfd]; exact Option.some.inj this
  simp +decide (disch := first | omega | rfl | (simp +decide only [go_sem, ↓reduceIte, h14, h11] <;> rfl) | fail) only [go_sem, ↓reduceIte, h14, h11]
  refine Qd1 ?_
  simp +decide (disch := first | omega | rfl | (simp +decide only [go_sem, ↓reduceIte, h11] <;> rfl) | fail) only [go_sem, ↓reduceIte, h11]
  refine Qc ?_ ?_
  ·simp +decide (disch := first | omega | rfl | (simp +decide only [go_sem, ↓reduceIte, Qe, List.contains_cons, List.contains_nil, List.flatMap_cons, List.flatMap_nil, List.append_nil, h11, e] <;> rfl) | fail) only [go_sem, ↓reduceIte, Qe, List.contains_cons, List.contains_nil, List.flatMap_cons, List.flatMap_nil, List.append_nil, h11, e]
   rw [List.take_of_length_le (by rw [Qau]; omega)]
  ·simp +decide (disch := first | omega | rfl | (simp +decide only [go_sem, ↓reduceIte, Qe, List.contains_cons, List.contains_nil, List.flatMap_cons, List.flatMap_nil, List.append_nil, h11] <;> rfl) | fail) only [go_sem, ↓reduceIte, Qe, List.contains_cons, List.contains_nil, List.flatMap_cons, List.flatMap_nil, List.append_nil, h11]
theorem Qvn {x y : Nat -> Rat} {c : Rat} {w ty2 k : Nat} (hw : w <= 2 ^ 30) (hx : ∀ i, i < w -> rs (x i) <= k) (hy : ∀ i, i < w -> rs (y i) <= k) (hc : rs c <= k) (hk : k <= 2 ^ 33) :
  Qca Tryz.prog 164 [.sl 3 (Q6 PV.rat x w), .ms 1500001 w, PV.rat c] (fun _ => .undef) (Qk hp0 1500001 ⟨3, ty2, Q6 PV.rat y w, true⟩) (fun r _ _ => r = .sl 3 (Q6 PV.rat (Qgn x y c) w)) := by
 have hrl : (Q6 PV.rat x w).length = w := Qau _ _ _
 refine Qel Qm Tryz.func164 rfl Qwd (by simp [Quj]) fun C hP => ?_; simp only [Quj]
 simp +decide (disch := first | omega | rfl | (simp +decide only [go_sem, ↓reduceIte, hrl] <;> rfl) | fail) only [go_sem, ↓reduceIte, hrl]
 refine Qak (by repeat (first | exact Qx | exact Qp | exact Qq | exact Qr | exact Qt | apply Qo | apply Qw | apply Q3 | apply Q9 | apply Qaa | apply Qn | apply Qz)) [(8, 8), (14, 31)] [] (fun q J hp => ∃ i xs, q = w - i /\ i <= w /\ J 14 = .int .i64 (i : Nat) /\ xs.length = w /\ hp 11 = some ⟨3, 32, xs, false⟩ /\ hp 5 = some ⟨3, 32, [PV.rat c], false⟩ /\ hp 1500001 = some ⟨3, ty2, Q6 PV.rat y w, true⟩ /\ ∀ j, j < i -> xs[j]? = some (PV.rat (Qgn x y c j))) w ?_ ?_
 ·refine ⟨0, List.replicate w (.agg [.bool false, .nilS, .nilS]), rfl, by omega, ?_⟩
  simp +decide (disch := first | omega | rfl | (simp +decide only [go_sem, ↓reduceIte] <;> rfl) | fail) only [go_sem, ↓reduceIte]
  exact ⟨rfl, by simp, fun j hj => by omega⟩
 rintro _ J h ⟨i, xs, rfl, hi, h14, hl, h11, h5, hy1, hxs⟩
 simp +decide (disch := first | omega | rfl | (simp +decide only [go_sem, ↓reduceIte, h14] <;> rfl) | fail) only [go_sem, ↓reduceIte, h14]
 refine Qb (fun hg => ?_) (fun hg => ?_)
 ·have hi' : i < w := by omega
  have h1 := hx i hi'
  have h2 := hy i hi'
  have hm := Qfq c (y i)
  simp +decide (disch := first | omega | rfl | (simp +decide only [go_sem, ↓reduceIte, h14, h11, h5, hy1] <;> rfl) | fail) only [go_sem, ↓reduceIte, h14, h11, h5, hy1]
  refine Qa hP (Qls (k := k) hc h2 (by omega)) rfl rfl rfl ?_
  simp +decide (disch := first | omega | rfl | (simp +decide only [go_sem, ↓reduceIte, h14, h11, h5, hy1] <;> rfl) | fail) only [go_sem, ↓reduceIte, h14, h11, h5, hy1]
  refine Qa hP (Qsk (k := 2 * k) (by omega) (by omega) (by omega)) rfl rfl rfl ?_
  simp +decide (disch := first | omega | rfl | (simp +decide only [go_sem, ↓reduceIte, h14, h11, h5, hy1] <;> rfl) | fail) only [go_sem, ↓reduceIte, h14, h11, h5, hy1]
  rw [Qf2 (n := 3) (xs := xs) (v := PV.rat (x i + c * y i)) (by omega) rfl rfl]
  simp +decide (disch := first | omega | rfl | (simp +decide only [go_sem, ↓reduceIte, h14] <;> rfl) | fail) only [go_sem, ↓reduceIte, h14]
  refine Qab (w - (i + 1)) (by omega) ⟨i + 1, xs.set i (PV.rat (x i + c * y i)), rfl, by omega, ?_⟩
  simp +decide (disch := first | omega | rfl | (simp +decide only [go_sem, ↓reduceIte, h5, hy1] <;> rfl) | fail) only [go_sem, ↓reduceIte, h5, hy1]
  refine ⟨by simp [hl], fun j hj => ?_⟩
  rw [List.getElem?_set]
  by_cases e : i = j
  ·subst e; rw [if_pos rfl, if_pos (by omega)]; rfl
  ·rw [if_neg e]; exact hxs j (by omega)
 ·obtain rfl : i = w := by omega
  have e : xs = Q6 PV.rat (Qgn x y c) i := by
   refine List.ext_getElem (by simp [Q6, hl]) fun j h1 h2 => ?_
   have := hxs j (by omega)
   rw [List.getElem?_eq_getElem h1] at this
   rw [Qfd]; exact Option.some.inj this
  simp +decide (disch := first | omega | rfl | (simp +decide only [go_sem, ↓reduceIte, h14, h11] <;> rfl) | fail) only [go_sem, ↓reduceIte, h14, h11]
  refine Qd1 ?_
  simp +decide (disch := first | omega | rfl | (simp +decide only [go_sem, ↓reduceIte, h11] <;> rfl) | fail) only [go_sem, ↓reduceIte, h11]
  refine Qc ?_ ?_
  ·simp +decide (disch := first | omega | rfl | (simp +decide only [go_sem, ↓reduceIte, Qe, List.contains_cons, List.contains_nil, List.flatMap_cons, List.flatMap_nil, List.append_nil, h11, e] <;> rfl) | fail) only [go_sem, ↓reduceIte, Qe, List.contains_cons, List.contains_nil, List.flatMap_cons, List.flatMap_nil, List.append_nil, h11, e]
   rw [List.take_of_length_le (by rw [Qau]; omega)]
  ·simp +decide (disch := first | omega | rfl | (simp +decide only [go_sem, ↓reduceIte, Qe, List.contains_cons, List.contains_nil, List.flatMap_cons, List.flatMap_nil, List.append_nil, h11] <;> rfl) | fail) only [go_sem, ↓reduceIte, Qe, List.contains_cons, List.contains_nil, List.flatMap_cons, List.flatMap_nil, List.append_nil, h11]
def Qup (M : MF) (R : Nat) : Prop := ∀ i, i < R -> ∀ k, k < i -> M i k = M k i
instance {M : MF} {R : Nat} : Decidable (Qup M R) := by unfold Qup; infer_instance
theorem Qvo {M : MF} {R K ty tyr : Nat} (hR2 : R <= 40) (hK : K < 2 ^ 35) (hB : MBd K R R M) :
  Qca Tryz.prog 92 [.nso 1500000 0 R] (upd (fun _ => .undef) 1500000 (.nst 1500000 1 ty (Qac (Qas 1600000 R R id))))
   (fun x => if x = 1500000 then some ⟨1, ty, [], true⟩ else if 1600000 <= x /\ x < 1600000 + R then some ⟨3, tyr, Q6 PV.rat (M (x - 1600000)) R, true⟩ else none) (fun r _ _ => r = .bool (decide (Qup M R))) := by
 refine Qel Qm Tryz.func92 rfl Qacy (by simp [c92]) fun C hP => ?_; simp only [c92]
 simp +decide (disch := first | omega | rfl | (simp +decide only [go_sem, ↓reduceIte] <;> rfl) | fail) only [go_sem, ↓reduceIte]
 refine Qbi (by repeat (first | exact Qx | exact Qp | exact Qq | exact Qr | exact Qt | apply Qo | apply Qw | apply Q3 | apply Q9 | apply Qaa | apply Qn | apply Qz)) [(0, 0), (2, 4), (7, 31), (1500000, 1500000)] [] (fun q J hp => ∃ i, q = R - i /\ i <= R /\ J 0 = .nso 1500000 0 R /\ J 7 = .int .i64 (i : Nat) /\ J 1500000 = .nst 1500000 1 ty (Qac (Qas 1600000 R R id)) /\ hp 1500000 = some ⟨1, ty, [], true⟩ /\ (∀ r, r < R -> hp (1600000 + r) = some ⟨3, tyr, Q6 PV.rat (M r) R, true⟩) /\ ∀ j, j < i -> ∀ k, k < j -> M j k = M k j) R ?_ ?_
 ·refine ⟨0, rfl, by omega, ?_⟩
  simp +decide (disch := first | omega | rfl | (simp +decide only [go_sem, ↓reduceIte] <;> rfl) | fail) only [go_sem, ↓reduceIte]
  refine ⟨rfl, fun r hr => ?_, fun j hj => by omega⟩
  rw [if_pos ⟨by omega, by omega⟩, Nat.add_sub_cancel_left]
 rintro _ J h ⟨i, rfl, hi, h0, h7, hg, hh, hr, hs⟩
 simp +decide (disch := first | omega | rfl | (simp +decide only [go_sem, ↓reduceIte, h7] <;> rfl) | fail) only [go_sem, ↓reduceIte, h7]
 refine Qb (fun hc => ?_) (fun hc => ?_)
 ·have hi' : i < R := by omega
  simp +decide (disch := first | omega | rfl | (simp +decide only [go_sem, ↓reduceIte, h0, h7, hg, hh] <;> rfl) | fail) only [go_sem, ↓reduceIte, h0, h7, hg, hh]
  refine Qbi (by repeat (first | exact Qx | exact Qp | exact Qq | exact Qr | exact Qt | apply Qo | apply Qw | apply Q3 | apply Q9 | apply Qaa | apply Qn | apply Qz)) [(0, 0), (2, 2), (4, 4), (11, 30), (1500000, 1500000)] [] (fun q J hp => ∃ k, q = i - k /\ k <= i /\ J 0 = .nso 1500000 0 R /\ J 11 = .int .i64 (k : Nat) /\ J 1500000 = .nst 1500000 1 ty (Qac (Qas 1600000 R R id)) /\ h = hp /\ ∀ j, j < k -> M i j = M j i) i ?_ ?_
  ·refine ⟨0, rfl, by omega, ?_⟩
   simp +decide (disch := first | omega | rfl | (simp +decide only [go_sem, ↓reduceIte, h0, hg] <;> rfl) | fail) only [go_sem, ↓reduceIte, h0, hg]
   exact ⟨rfl, fun j hj => by omega⟩
  rintro _ J2 _ ⟨k, rfl, hk, i0, i11, ig, rfl, is⟩
  simp +decide (disch := first | omega | rfl | (simp +decide only [go_sem, ↓reduceIte, i11] <;> rfl) | fail) only [go_sem, ↓reduceIte, i11]
  refine Qb (fun hc2 => ?_) (fun hc2 => ?_)
  ·have hk' : k < i := by omega
   have r1 := hr i hi'
   have r2 := hr k (by omega)
   have b1 := hB i hi' k (by omega)
   have b2 := hB k (by omega) i hi'
   simp +decide (disch := first | omega | rfl | (simp +decide only [go_sem, ↓reduceIte, i0, i11, ig, hh, r1, r2, id] <;> rfl) | fail) only [go_sem, ↓reduceIte, i0, i11, ig, hh, r1, r2, id]
   refine Qa hP (Q83 (a := M i k) (b := M k i) b1 b2 (by omega)) rfl rfl rfl ?_
   by_cases e : M i k = M k i
   ·simp +decide (disch := first | omega | rfl | (simp +decide only [go_sem, ↓reduceIte, i11, e] <;> rfl) | fail) only [go_sem, ↓reduceIte, i11, e]
    refine Qa0 (i - (k + 1)) (by omega) ⟨k + 1, rfl, by omega, ?_⟩
    simp +decide (disch := first | omega | rfl | (simp +decide only [go_sem, ↓reduceIte, i0, ig] <;> rfl) | fail) only [go_sem, ↓reduceIte, i0, ig]
    intro j hj
    by_cases e2 : j = k
    ·subst e2; exact e
    ·exact is j (by omega)
   ·simp +decide (disch := first | omega | rfl | (simp +decide only [go_sem, ↓reduceIte, e] <;> rfl) | fail) only [go_sem, ↓reduceIte, e]
    refine Qd1 ?_
    simp +decide (disch := first | omega | rfl | (simp +decide only [go_sem, ↓reduceIte] <;> rfl) | fail) only [go_sem, ↓reduceIte]
    refine Qc ?_ rfl
    rw [decide_eq_false]
    exact fun h => e (h i hi' k hk')
  ·simp +decide (disch := first | omega | rfl | (simp +decide only [go_sem, ↓reduceIte, h7] <;> rfl) | fail) only [go_sem, ↓reduceIte, h7]
   simp (disch := decide) only [Qb0, Qb4, Qb9, Qce]
   refine Qa0 (R - (i + 1)) (by omega) ⟨i + 1, rfl, by omega, ?_⟩
   simp +decide (disch := first | omega | rfl | (simp +decide only [go_sem, ↓reduceIte, i0, ig, hh] <;> rfl) | fail) only [go_sem, ↓reduceIte, i0, ig, hh]
   refine ⟨hr, fun j hj k' hk' => ?_⟩
   by_cases e : j = i
   ·subst e; exact is k' (by omega)
   ·exact hs j (by omega) k' hk'
 ·simp +decide (disch := first | omega | rfl | (simp +decide only [go_sem, ↓reduceIte] <;> rfl) | fail) only [go_sem, ↓reduceIte]
  refine Qd1 ?_
  simp +decide (disch := first | omega | rfl | (simp +decide only [go_sem, ↓reduceIte] <;> rfl) | fail) only [go_sem, ↓reduceIte]
  refine Qc ?_ rfl
  rw [decide_eq_true]
  exact fun j hj k hk => hs j (by omega) k hk
end Go.Proofs.YtmnkngmmfnncoaaGreat
namespace Go.Proofs.YtmnkngmmfnncoaaGreat
open Go Go.FW
set_option linter.unusedSimpArgs false
set_option linter.unusedVariables false
set_option maxRecDepth 100000
theorem Qadf {M : MF} {R K ty tyr : Nat} (hR2 : R <= 40) (hK : K < 2 ^ 30) (hB : MBd K R R M) :
  Qca Tryz.prog 93 [.nso 1500000 0 R] (upd (fun _ => .undef) 1500000 (.nst 1500000 1 ty (Qac (Qas 1600000 R R id))))
   (fun x => if x = 1500000 then some ⟨1, ty, [], true⟩ else if 1600000 <= x /\ x < 1600000 + R then some ⟨3, tyr, Q6 PV.rat (M (x - 1600000)) R, true⟩ else none) (fun r _ _ => r = .sl 4 ((Qer M R).map (PV.form R))) := by
 refine Qel Qm Tryz.func93 rfl Qacz (by simp [c93]) fun C hP => ?_; simp only [c93]
 simp +decide (disch := first | omega | rfl | (simp +decide only [go_sem, ↓reduceIte] <;> rfl) | fail) only [go_sem, ↓reduceIte]
 refine Qa hP (Qop (x := 1) (by omega) (by omega)) rfl rfl rfl ?_
 rw [show ((1 : Int) : Rat) = 1 from rfl]
 obtain ⟨u, hu⟩ : ∃ u : Rat, (1 : Rat) = u := ⟨_, rfl⟩
 rw [hu]
 simp +decide (disch := first | omega | rfl | (simp +decide only [go_sem, ↓reduceIte] <;> rfl) | fail) only [go_sem, ↓reduceIte]
 refine Qbi (by repeat (first | exact Qx | exact Qp | exact Qq | exact Qr | exact Qt | apply Qo | apply Qw | apply Q3 | apply Q9 | apply Qaa | apply Qn | apply Qz)) [(0, 0), (2, 2), (4, 7), (16, 47), (1500000, 1500000)] [5, 6, 46] (fun q J hp => ∃ i, q = R - i /\ i <= R /\ J 0 = .nso 1500000 0 R /\ J 16 = .int .i64 (i : Nat) /\ J 1500000 = .nst 1500000 1 ty (Qac (Qas 1600000 R R id)) /\ hp 1500000 = some ⟨1, ty, [], true⟩ /\ (∀ r, r < R -> hp (1600000 + r) = some ⟨3, tyr, Q6 PV.rat (M r) R, true⟩) /\ hp 3 = some ⟨3, 32, [PV.rat u], false⟩ /\ ∀ j, j < i -> M j j = 0) R ?_ ?_
 ·refine ⟨0, rfl, by omega, ?_⟩
  simp +decide (disch := first | omega | rfl | (simp +decide only [go_sem, ↓reduceIte] <;> rfl) | fail) only [go_sem, ↓reduceIte]
  refine ⟨rfl, fun r hr => ?_, fun j hj => by omega⟩
  rw [if_pos ⟨by omega, by omega⟩, Nat.add_sub_cancel_left]
 rintro _ J h ⟨i, rfl, hi, h0, h16, hg, hh, hr, h3, hz⟩
 simp +decide (disch := first | omega | rfl | (simp +decide only [go_sem, ↓reduceIte, h16] <;> rfl) | fail) only [go_sem, ↓reduceIte, h16]
 refine Qb (fun hc => ?_) (fun hc => ?_)
 ·have hi' : i < R := by omega
  have r1 := hr i hi'
  have b1 := hB i hi' i hi'
  simp +decide (disch := first | omega | rfl | (simp +decide only [go_sem, ↓reduceIte, h0, h16, hg, hh, r1, id] <;> rfl) | fail) only [go_sem, ↓reduceIte, h0, h16, hg, hh, r1, id]
  refine Qa hP (Qms (a := M i i) (by omega)) rfl rfl rfl ?_
  simp +decide (disch := first | omega | rfl | (simp +decide only [go_sem, ↓reduceIte, h0, h16, hg, hh, r1, id] <;> rfl) | fail) only [go_sem, ↓reduceIte, h0, h16, hg, hh, r1, id]
  refine Qb (fun hs => ?_) (fun hs => ?_)
  ·have hne : M i i ≠ 0 := fun e => hs (Qdn.2 e)
   simp +decide (disch := first | omega | rfl | (simp +decide only [go_sem, ↓reduceIte, h3] <;> rfl) | fail) only [go_sem, ↓reduceIte, h3]
   refine Qa hP (Qxu (a := u) (b := M i i) (k := K + 1) (by rw [<- hu]; have := Qxa; omega) (by omega) (by omega) hne) rfl rfl rfl ?_
   simp +decide (disch := first | omega | rfl | (simp +decide only [go_sem, ↓reduceIte, h0, h16, hg, hh, r1, id] <;> rfl) | fail) only [go_sem, ↓reduceIte, h0, h16, hg, hh, r1, id]
   refine Qa hP (Qaac (n := R) (by omega)) rfl rfl rfl ?_
   simp +decide (disch := first | omega | rfl | (simp +decide only [go_sem, ↓reduceIte] <;> rfl) | fail) only [go_sem, ↓reduceIte]
   have hbd : rs (u / M i i) <= K + 2 := by
    rw [Rat.div_def]
    have q1 := Qfq u (M i i)⁻¹
    have q2 := Q1g (M i i) hne
    have q3 := Qxa
    rw [hu] at q3
    omega
   have cmb := Qvn (w := R) (x := fun _ => (0 : Rat)) (y := M i) (c := u / M i i) (ty2 := tyr) (k := K + 2) (by omega) (fun _ _ => by have := Q29; omega) (fun c hc => by have := hB i hi' c hc; omega) hbd (by omega)
   refine Q96 hP (hb1 := ⟨3, tyr, Q6 PV.rat (M i) R, true⟩) cmb (by simp +decide (disch := first | omega | rfl | (simp +decide only [go_sem, ↓reduceIte] <;> rfl) | fail) only [go_sem, ↓reduceIte]) (γ1 := 1600000 + i) (by simp +decide (disch := first | omega | rfl | (simp +decide only [go_sem, ↓reduceIte, r1] <;> rfl) | fail) only [go_sem, ↓reduceIte, r1]) (by simp +decide (disch := first | omega | rfl | (simp +decide only [go_sem, ↓reduceIte] <;> rfl) | fail) only [go_sem, ↓reduceIte]) (fun γ hγ => by simpa [PV.refs, PV.sref] using hγ) (by simp) ?_
   simp +decide (disch := first | omega | rfl | (simp +decide only [go_sem, ↓reduceIte, h0] <;> rfl) | fail) only [go_sem, ↓reduceIte, h0]
   refine Qd1 ?_
   simp +decide (disch := first | omega | rfl | (simp +decide only [go_sem, ↓reduceIte] <;> rfl) | fail) only [go_sem, ↓reduceIte]
   refine Qc ?_ ?_
   ·simp +decide (disch := first | omega | rfl | (simp +decide only [go_sem, ↓reduceIte, Qe, List.contains_cons, List.contains_nil, List.flatMap_cons, List.flatMap_nil, List.append_nil] <;> rfl) | fail) only [go_sem, ↓reduceIte, Qe, List.contains_cons, List.contains_nil, List.flatMap_cons, List.flatMap_nil, List.append_nil]
    have hdi : Qh6 M R = i := Qnj (Nat.zero_le _) (by omega) (decide_eq_true hne) fun j _ hj => decide_eq_false (fun h => h (hz j hj))
    unfold Qer
    rw [hdi, if_pos hi', <- hu]
    rfl
   ·simp +decide (disch := first | omega | rfl | (simp +decide only [go_sem, ↓reduceIte, Qe, List.contains_cons, List.contains_nil, List.flatMap_cons, List.flatMap_nil, List.append_nil] <;> rfl) | fail) only [go_sem, ↓reduceIte, Qe, List.contains_cons, List.contains_nil, List.flatMap_cons, List.flatMap_nil, List.append_nil]
  ·simp +decide (disch := first | omega | rfl | (simp +decide only [go_sem, ↓reduceIte, h16] <;> rfl) | fail) only [go_sem, ↓reduceIte, h16]
   refine Qa0 (R - (i + 1)) (by omega) ⟨i + 1, rfl, by omega, ?_⟩
   simp +decide (disch := first | omega | rfl | (simp +decide only [go_sem, ↓reduceIte, h0, hg, hh, h3] <;> rfl) | fail) only [go_sem, ↓reduceIte, h0, hg, hh, h3]
   refine ⟨hr, fun j hj => ?_⟩
   by_cases e : j = i
   ·subst e; exact Qdn.1 (Classical.not_not.1 hs)
   ·exact hz j (by omega)
 ·obtain rfl : i = R := by omega
  have hnd : ¬ Qh6 M i < i := by
   have : Qh6 M i = 0 + i := Qkp fun j _ hj => decide_eq_false (fun h => h (hz j (by omega)))
   omega
  simp +decide (disch := first | omega | rfl | (simp +decide only [go_sem, ↓reduceIte, h0] <;> rfl) | fail) only [go_sem, ↓reduceIte, h0]
  refine Qbi (by repeat (first | exact Qx | exact Qp | exact Qq | exact Qr | exact Qt | apply Qo | apply Qw | apply Q3 | apply Q9 | apply Qaa | apply Qn | apply Qz)) [(0, 0), (2, 2), (8, 12), (50, 101), (1500000, 1500000)] [10, 11, 99] (fun q J hp => ∃ a, q = i - a /\ a <= i /\ J 0 = .nso 1500000 0 i /\ J 50 = .int .i64 (a : Nat) /\ J 1500000 = .nst 1500000 1 ty (Qac (Qas 1600000 i i id)) /\ hp 1500000 = some ⟨1, ty, [], true⟩ /\ (∀ r, r < i -> hp (1600000 + r) = some ⟨3, tyr, Q6 PV.rat (M r) i, true⟩) /\ hp 3 = some ⟨3, 32, [PV.rat u], false⟩ /\ ∀ j, j < a -> ∀ k, k < i -> M j k = 0) i ?_ ?_
  ·refine ⟨0, rfl, by omega, ?_⟩
   simp +decide (disch := first | omega | rfl | (simp +decide only [go_sem, ↓reduceIte, h0, hg, hh, h3] <;> rfl) | fail) only [go_sem, ↓reduceIte, h0, hg, hh, h3]
   exact ⟨rfl, hr, fun j hj => by omega⟩
  rintro _ J1 h1 ⟨a, rfl, ha, a0, a50, ag, ah, ar, a3, az⟩
  simp +decide (disch := first | omega | rfl | (simp +decide only [go_sem, ↓reduceIte, a50] <;> rfl) | fail) only [go_sem, ↓reduceIte, a50]
  refine Qb (fun hca => ?_) (fun hca => ?_)
  ·have ha' : a < i := by omega
   have r1 := ar a ha'
   simp +decide (disch := first | omega | rfl | (simp +decide only [go_sem, ↓reduceIte, a0, a50, ag, ah, r1, id] <;> rfl) | fail) only [go_sem, ↓reduceIte, a0, a50, ag, ah, r1, id]
   refine Qbi (by repeat (first | exact Qx | exact Qp | exact Qq | exact Qr | exact Qt | apply Qo | apply Qw | apply Q3 | apply Q9 | apply Qaa | apply Qn | apply Qz)) [(0, 0), (2, 2), (9, 12), (56, 56), (58, 100), (1500000, 1500000)] [10, 11, 99] (fun q J hp => ∃ b, q = i - b /\ b <= i /\ J 0 = .nso 1500000 0 i /\ J 56 = .ms (1600000 + a) i /\ J 58 = .int .i64 (b : Nat) /\ J 1500000 = .nst 1500000 1 ty (Qac (Qas 1600000 i i id)) /\ hp 1500000 = some ⟨1, ty, [], true⟩ /\ (∀ r, r < i -> hp (1600000 + r) = some ⟨3, tyr, Q6 PV.rat (M r) i, true⟩) /\ hp 3 = some ⟨3, 32, [PV.rat u], false⟩ /\ ∀ k, k < b -> M a k = 0) i ?_ ?_
   ·refine ⟨0, rfl, by omega, ?_⟩
    simp +decide (disch := first | omega | rfl | (simp +decide only [go_sem, ↓reduceIte, a0, ag, ah, a3] <;> rfl) | fail) only [go_sem, ↓reduceIte, a0, ag, ah, a3]
    exact ⟨rfl, ar, fun j hj => by omega⟩
   rintro _ J2 h2 ⟨b, rfl, hb, b0, b56, b58, bg, bh, br, b3, bz⟩
   simp +decide (disch := first | omega | rfl | (simp +decide only [go_sem, ↓reduceIte, b58] <;> rfl) | fail) only [go_sem, ↓reduceIte, b58]
   refine Qb (fun hcb => ?_) (fun hcb => ?_)
   ·have hb' : b < i := by omega
    have s1 := br a ha'
    have s2 := br b hb'
    have b1 := hB a ha' b hb'
    simp +decide (disch := first | omega | rfl | (simp +decide only [go_sem, ↓reduceIte, b0, b56, b58, bg, bh, s1, s2, id] <;> rfl) | fail) only [go_sem, ↓reduceIte, b0, b56, b58, bg, bh, s1, s2, id]
    refine Qa hP (Qms (a := M a b) (by omega)) rfl rfl rfl ?_
    simp +decide (disch := first | omega | rfl | (simp +decide only [go_sem, ↓reduceIte, b0, b56, b58, bg, bh, s1, s2, id] <;> rfl) | fail) only [go_sem, ↓reduceIte, b0, b56, b58, bg, bh, s1, s2, id]
    refine Qb (fun hs => ?_) (fun hs => ?_)
    ·have hne : M a b ≠ 0 := fun e => hs (Qdn.2 e)
     have hab : a ≠ b := fun e => hne (by rw [<- e]; exact hz a ha')
     simp +decide (disch := first | omega | rfl | (simp +decide only [go_sem, ↓reduceIte, b0, b56, b58, bg, bh, b3, s1, s2, id] <;> rfl) | fail) only [go_sem, ↓reduceIte, b0, b56, b58, bg, bh, b3, s1, s2, id]
     have q1 := Qzz (M a b) (M a b)
     have hne2 : M a b + M a b ≠ 0 := fun h => hne (by grind)
     have q2 : rs u <= 1 := by rw [<- hu]; exact Qxa
     have c1 := Qsk (a := M a b) (b := M a b) (k := K) b1 b1 (by omega)
     have c2 := Qxu (a := u) (b := M a b + M a b) (k := 2 * K + 1) (by omega) (by omega) (by omega) hne2
     have q3 : rs (u / (M a b + M a b)) <= 2 * K + 2 := by
      rw [Rat.div_def]
      have := Qfq u (M a b + M a b)⁻¹
      have := Q1g (M a b + M a b) hne2
      omega
     have c3 := Q6h (a := u / (M a b + M a b)) q3 (by omega)
     have c4 := Qop (x := -1) (by omega) (by omega)
     rw [show ((-1 : Int) : Rat) = -1 from rfl] at c4
     obtain ⟨v, hv⟩ : ∃ v : Rat, (-1 : Rat) = v := ⟨_, rfl⟩
     have q4 : rs v <= 1 := by rw [<- hv, Qz0]; exact Qxa
     rw [hv] at c4
     have c5 := Qp2 (w := i) (x := M a) (y := M b) (c := u) (ty1 := tyr) (ty2 := tyr) (k := K + 2) (by omega) (fun c hc => by have := hB a ha' c hc; omega) (fun c hc => by have := hB b hb' c hc; omega) (by omega) (by omega)
     have c6 := Qp2 (w := i) (x := M a) (y := M b) (c := v) (ty1 := tyr) (ty2 := tyr) (k := K + 2) (by omega) (fun c hc => by have := hB a ha' c hc; omega) (fun c hc => by have := hB b hb' c hc; omega) (by omega) (by omega)
     have hci : Qjy M i a = b := Qnj (Nat.zero_le _) (by omega) (decide_eq_true hne) fun j _ hj => decide_eq_false (fun h => h (bz j hj))
     have hri : Qfn M i = a := Qnj (Nat.zero_le _) (by omega) (decide_eq_true (by rw [hci]; exact hb')) fun j _ hj => decide_eq_false (fun h => by
      have : Qjy M i j = 0 + i := Qkp fun k _ hk => decide_eq_false (fun h2 => h2 (az j (by omega) k (by omega)))
      omega)
     have hnx : Qer M i = [(u / (M a b + M a b), Qgn (M a) (M b) u), (-(u / (M a b + M a b)), Qgn (M a) (M b) v)] := by
      unfold Qer
      rw [if_neg hnd, hri, if_pos ha', hci, <- hu, <- hv]
     have hab2 : ¬ 1600000 + b = 1600000 + a := by omega
     repeat' first
      | refine Qcg ?_ ?_
      | refine Qa hP c1 rfl rfl rfl ?_
      | refine Qa hP c2 rfl rfl rfl ?_
      | simp +decide (disch := first | omega | rfl | (simp +decide only [go_sem, ↓reduceIte, b0, b56, b58, bg, bh, b3, s1, s2, id] <;> rfl) | fail) only [go_sem, ↓reduceIte, b0, b56, b58, bg, bh, b3, s1, s2, id]
     all_goals
      refine Qwf hP (hb1 := ⟨3, tyr, Q6 PV.rat (M a) i, true⟩) (hb2 := ⟨3, tyr, Q6 PV.rat (M b) i, true⟩) c5 (by simp +decide (disch := first | omega | rfl | (simp +decide only [go_sem, ↓reduceIte] <;> rfl) | fail) only [go_sem, ↓reduceIte]) (γ1 := 1600000 + a) (γ2 := 1600000 + b) (by simp +decide (disch := first | omega | rfl | (simp +decide only [go_sem, ↓reduceIte, s1] <;> rfl) | fail) only [go_sem, ↓reduceIte, s1]) (by simp +decide (disch := first | omega | rfl | (simp +decide only [go_sem, ↓reduceIte, s2] <;> rfl) | fail) only [go_sem, ↓reduceIte, s2]) (by omega) (by simp +decide (disch := first | omega | rfl | (simp +decide only [go_sem, ↓reduceIte, hab2] <;> rfl) | fail) only [go_sem, ↓reduceIte, hab2]) (fun γ hγ => by simpa [PV.refs, PV.sref] using hγ) (by simp) ?_
      simp +decide (disch := first | omega | rfl | (simp +decide only [go_sem, ↓reduceIte, b0, b56, b58, bg, bh, b3, s1, s2, id] <;> rfl) | fail) only [go_sem, ↓reduceIte, b0, b56, b58, bg, bh, b3, s1, s2, id]
      refine Qa hP c3 rfl rfl rfl ?_
      simp +decide (disch := first | omega | rfl | (simp +decide only [go_sem, ↓reduceIte, b0, b56, b58, bg, bh, b3, s1, s2, id] <;> rfl) | fail) only [go_sem, ↓reduceIte, b0, b56, b58, bg, bh, b3, s1, s2, id]
      refine Qa hP c4 rfl rfl rfl ?_
      simp +decide (disch := first | omega | rfl | (simp +decide only [go_sem, ↓reduceIte, b0, b56, b58, bg, bh, b3, s1, s2, id] <;> rfl) | fail) only [go_sem, ↓reduceIte, b0, b56, b58, bg, bh, b3, s1, s2, id]
      refine Qwf hP (hb1 := ⟨3, tyr, Q6 PV.rat (M a) i, true⟩) (hb2 := ⟨3, tyr, Q6 PV.rat (M b) i, true⟩) c6 (by simp +decide (disch := first | omega | rfl | (simp +decide only [go_sem, ↓reduceIte] <;> rfl) | fail) only [go_sem, ↓reduceIte]) (γ1 := 1600000 + a) (γ2 := 1600000 + b) (by simp +decide (disch := first | omega | rfl | (simp +decide only [go_sem, ↓reduceIte, s1] <;> rfl) | fail) only [go_sem, ↓reduceIte, s1]) (by simp +decide (disch := first | omega | rfl | (simp +decide only [go_sem, ↓reduceIte, s2] <;> rfl) | fail) only [go_sem, ↓reduceIte, s2]) (by omega) (by simp +decide (disch := first | omega | rfl | (simp +decide only [go_sem, ↓reduceIte, hab2] <;> rfl) | fail) only [go_sem, ↓reduceIte, hab2]) (fun γ hγ => by simpa [PV.refs, PV.sref] using hγ) (by simp) ?_
      simp +decide (disch := first | omega | rfl | (simp +decide only [go_sem, ↓reduceIte, b0, b56, b58, bg, bh, b3, s1, s2, id] <;> rfl) | fail) only [go_sem, ↓reduceIte, b0, b56, b58, bg, bh, b3, s1, s2, id]
      refine Qd1 ?_
      simp +decide (disch := first | omega | rfl | (simp +decide only [go_sem, ↓reduceIte] <;> rfl) | fail) only [go_sem, ↓reduceIte]
      refine Qc ?_ ?_
      ·simp +decide (disch := first | omega | rfl | (simp +decide only [go_sem, ↓reduceIte, Qe, List.contains_cons, List.contains_nil, List.flatMap_cons, List.flatMap_nil, List.append_nil] <;> rfl) | fail) only [go_sem, ↓reduceIte, Qe, List.contains_cons, List.contains_nil, List.flatMap_cons, List.flatMap_nil, List.append_nil]
       rw [hnx]; rfl
      ·simp +decide (disch := first | omega | rfl | (simp +decide only [go_sem, ↓reduceIte, Qe, List.contains_cons, List.contains_nil, List.flatMap_cons, List.flatMap_nil, List.append_nil] <;> rfl) | fail) only [go_sem, ↓reduceIte, Qe, List.contains_cons, List.contains_nil, List.flatMap_cons, List.flatMap_nil, List.append_nil]
    ·simp +decide (disch := first | omega | rfl | (simp +decide only [go_sem, ↓reduceIte, b58] <;> rfl) | fail) only [go_sem, ↓reduceIte, b58]
     refine Qa0 (i - (b + 1)) (by omega) ⟨b + 1, rfl, by omega, ?_⟩
     simp +decide (disch := first | omega | rfl | (simp +decide only [go_sem, ↓reduceIte, b0, b56, bg, bh, b3] <;> rfl) | fail) only [go_sem, ↓reduceIte, b0, b56, bg, bh, b3]
     refine ⟨br, fun j hj => ?_⟩
     by_cases e : j = b
     ·subst e; exact Qdn.1 (Classical.not_not.1 hs)
     ·exact bz j (by omega)
   ·simp +decide (disch := first | omega | rfl | (simp +decide only [go_sem, ↓reduceIte] <;> rfl) | fail) only [go_sem, ↓reduceIte]
    simp (disch := decide) only [Qb0, Qb4, Qb9, Qce]
    simp +decide (disch := first | omega | rfl | (simp +decide only [go_sem, ↓reduceIte, a50] <;> rfl) | fail) only [go_sem, ↓reduceIte, a50]
    refine Qa0 (i - (a + 1)) (by omega) ⟨a + 1, rfl, by omega, ?_⟩
    simp +decide (disch := first | omega | rfl | (simp +decide only [go_sem, ↓reduceIte, b0, bg, bh, b3] <;> rfl) | fail) only [go_sem, ↓reduceIte, b0, bg, bh, b3]
    refine ⟨br, fun j hj k hk => ?_⟩
    by_cases e : j = a
    ·subst e; exact bz k (by omega)
    ·exact az j (by omega) k hk
  ·simp +decide (disch := first | omega | rfl | (simp +decide only [go_sem, ↓reduceIte] <;> rfl) | fail) only [go_sem, ↓reduceIte]
   refine Qd1 ?_
   simp +decide (disch := first | omega | rfl | (simp +decide only [go_sem, ↓reduceIte] <;> rfl) | fail) only [go_sem, ↓reduceIte]
   refine ⟨rfl, .sl 4 [], trivial, ?_⟩
   unfold Qer
   have e1 : ¬ Qfn M i < i := by
    have : Qfn M i = 0 + i := Qkp fun j _ hj => decide_eq_false (fun h => by
     have : Qjy M i j = 0 + i := Qkp fun k _ hk => decide_eq_false (fun h2 => h2 (az j (by omega) k (by omega)))
     omega)
    omega
   rw [if_neg hnd, if_neg e1]
   rfl
end Go.Proofs.YtmnkngmmfnncoaaGreat
namespace Go.Proofs.YtmnkngmmfnncoaaGreat
open Go Go.FW
set_option linter.unusedSimpArgs false
set_option linter.unusedVariables false
set_option maxRecDepth 100000
def c29 : SFn := ⟨83, [.t 2, .cell 3 3 true, .t 4], .seq (.rg (.o none (.box 1 3 24 (.t 0)) <|
 .o none (.mv 2 (.c .nilS)) <|
 .o none (.alloc 3 3 24 (.agg [(.int .i64 0), (.int .i64 0), .nilS])) <|
 .o none (.mv 4 (.c (.int .i64 0))) .nil)) <| .seq (.seq (.rg (.o none (.ld 10 3 true (.t 1)) <|
 .o none (.call (some 11) false (.c (.fn 25 [] [])) [(.t 10)]) <|
 .o none (.un 12 .not (.t 11)) .nil)) <| .cond (.t 12) (.seq (.rg (.o none (.bld 13 [(.int .i64 0), (.int .i64 0), .nilS] []) <|
 .o none (.mv 2 (.c .nilS)) <|
 .o none (.st 3 (.t 3) (.t 13)) <|
 .o none (.mv 4 (.c (.int .i64 1))) .nil)) <| .ret) (.skip)) <| .seq (.rg (.o none (.ld 14 3 true (.t 1)) <|
 .o none (.call (some 15) false (.c (.fn 78 [] [])) [(.t 14)]) <|
 .o none (.mv 5 (.t 15)) .nil)) <| .seq (.seq (.rg (.o none (.fld 16 0 (.t 1)) <|
 .o none (.ld 17 1 false (.t 16)) <|
 .o none (.fld 18 1 (.t 1)) <|
 .o none (.ld 19 1 false (.t 18)) <|
 .o none (.bin 20 .neq false (.t 17) (.t 19)) <|
 .o none (.mv 21 (.t 20)) <|
 .o (some (21, false)) (.mv 22 (.t 5)) <|
 .o (some (21, false)) (.call (some 23) false (.c (.fn 92 [] [])) [(.t 22)]) <|
 .o (some (21, false)) (.un 24 .not (.t 23)) <|
 .o none (.pick 25 (.t 21) (.c (.bool true)) (.t 24)) .nil)) <| .cond (.t 25) (.seq (.rg (.o none (.bld 26 [(.int .i64 0), (.int .i64 0), .nilS] []) <|
 .o none (.mv 2 (.c .nilS)) <|
 .o none (.st 3 (.t 3) (.t 26)) <|
 .o none (.mv 4 (.c (.int .i64 16))) .nil)) <| .ret) (.skip)) <| .seq (.rg (.o none (.fld 27 1 (.t 1)) <|
 .o none (.ld 28 1 false (.t 27)) <|
 .o none (.fld 29 1 (.t 3)) <|
 .o none (.st 1 (.t 29) (.t 28)) .nil)) <| .seq (.seq (.rg (.o none (.fld 30 0 (.t 1)) <|
 .o none (.ld 31 1 false (.t 30)) <|
 .o none (.bin 32 .mul false (.c (.int .i64 2)) (.t 31)) <|
 .o none (.mv 33 (.c (.int .i64 0))) (.wk (.wk (.wk .nil))))) <| .block 0 (.loop (.seq (.rg (.o none (.bin 34 .lss false (.t 33) (.t 32)) .nil)) <| .seq (.cond (.t 34) (.skip) (.exit 0)) <| .seq (.block 1 (.seq (.rg (.o none (.mv 35 (.t 5)) <|
 .o none (.call (some 36) false (.c (.fn 93 [] [])) [(.t 35)]) <|
 .o none (.mv 6 (.t 36)) .nil)) <| .seq (.rg (.o none (.mv 37 (.t 6)) <|
 .o none (.len 38 (.t 37)) <|
 .o none (.mv 39 (.c (.int .i64 0))) .nil)) <| .block 2 (.loop (.seq (.rg (.o none (.bin 40 .lss false (.t 39) (.t 38)) .nil)) <| .seq (.cond (.t 40) (.skip) (.exit 2)) <| .seq (.block 3 (.seq (.rg (.o none (.idx 41 4 (.t 37) (.t 39)) <|
 .o none (.ld 42 4 true (.t 41)) <|
 .o none (.alloc 8 4 109 (.agg [(.bool false), .nilS, .nilS, .nilS])) <|
 .o none (.st 4 (.t 8) (.t 42)) .nil)) <| .seq (.rg (.o none (.mv 43 (.t 2)) <|
 .o none (.fld 44 0 (.t 8)) <|
 .o none (.ld 45 3 true (.t 44)) <|
 .o none (.bs 46 3 32 [(.t 45)]) <|
 .o none (.app 47 3 56 32 (.t 43) (.t 46)) <|
 .o none (.mv 2 (.t 47)) .nil)) <| .seq (.rg (.o none (.fld 48 2 (.t 3)) <|
 .o none (.ld 49 1 false (.t 48)) <|
 .o none (.fld 50 3 (.t 8)) <|
 .o none (.ld 51 1 false (.t 50)) <|
 .o none (.app 52 3 56 32 (.t 49) (.t 51)) <|
 .o none (.fld 53 2 (.t 3)) <|
 .o none (.st 1 (.t 53) (.t 52)) .nil)) <| .seq (.rg (.o none (.fld 54 0 (.t 3)) <|
 .o none (.ld 55 1 false (.t 54)) <|
 .o none (.bin 56 .add false (.t 55) (.c (.int .i64 1))) <|
 .o none (.fld 57 0 (.t 3)) <|
 .o none (.st 1 (.t 57) (.t 56)) .nil)) <| .seq (.rg (.o none (.mv 58 (.t 5)) <|
 .o none (.len 59 (.t 58)) <|
 .o none (.mv 60 (.c (.int .i64 0))) .nil)) <| .block 4 (.loop (.seq (.rg (.o none (.bin 61 .lss false (.t 60) (.t 59)) .nil)) <| .seq (.cond (.t 61) (.skip) (.exit 4)) <| .seq (.block 5 (.seq (.rg (.o none (.mv 62 (.t 60)) <|
 .o none (.mv 9 (.t 62)) .nil)) <| .rg (.o none (.mv 63 (.t 5)) <|
 .o none (.mv 64 (.t 9)) <|
 .o none (.idx 65 1 (.t 63) (.t 64)) <|
 .o none (.ld 66 1 false (.t 65)) <|
 .o none (.fld 67 3 (.t 8)) <|
 .o none (.ld 68 1 false (.t 67)) <|
 .o none (.fld 69 0 (.t 8)) <|
 .o none (.ld 70 3 true (.t 69)) <|
 .o none (.fld 71 3 (.t 8)) <|
 .o none (.ld 72 1 false (.t 71)) <|
 .o none (.mv 73 (.t 9)) <|
 .o none (.idx 74 3 (.t 72) (.t 73)) <|
 .o none (.ld 75 3 true (.t 74)) <|
 .o none (.call (some 76) true (.c (.fn 38 [] [])) [(.t 70), (.t 75)]) <|
 .o none (.call (some 77) false (.c (.fn 94 [] [])) [(.t 66), (.t 68), (.t 76)]) .nil))) <| .rg (.o none (.bin 78 .add false (.t 60) (.c (.int .i64 1))) <|
 .o none (.mv 60 (.t 78)) .nil))))) <| .rg (.o none (.bin 79 .add false (.t 39) (.c (.int .i64 1))) <|
 .o none (.mv 39 (.t 79)) .nil))))) <| .rg (.o none (.bin 80 .add false (.t 33) (.c (.int .i64 1))) <|
 .o none (.mv 33 (.t 80)) .nil)))) <| .seq (.rg (.o none (.mv 81 (.t 2)) <|
 .o none (.ld 82 3 true (.t 3)) <| .wk <|
 .o none (.mv 2 (.t 81)) <|
 .o none (.st 3 (.t 3) (.t 82)) <|
 .o none (.mv 4 (.c (.int .i64 0))) .nil)) <| .ret⟩
theorem Qadg : Qf Tryz.prog Tryz.f29 = some c29.strip := by kernel_rfl
theorem Qvp {x y : Nat -> Rat} {c : Rat} {w ty1 k : Nat} (hw : 0 < w) (hw2 : w <= 2 ^ 30) (hx : ∀ i, i < w -> rs (x i) <= k) (hy : ∀ i, i < w -> rs (y i) <= k) (hc : rs c <= k) (hk : k <= 2 ^ 33) :
  Qca Tryz.prog 94 [.ms 1000000 w, .sl 3 (Q6 PV.rat y w), PV.rat c] (fun _ => .undef) (Qk hp0 1000000 ⟨3, ty1, Q6 PV.rat x w, false⟩) (fun r F H => Qe3 r /\ ∃ xs, H 1000000 = some ⟨3, ty1, xs, false⟩ /\ xs.length = (Q6 PV.rat x w).length /\ (r = .tup [] /\ xs = Q6 PV.rat (fun i => x i - c * y i) w)) := by
 refine Qel Qm Tryz.func94 rfl Q02 (by simp [c94]) fun C hP => ?_; simp only [c94]
 simp +decide (disch := first | omega | rfl | (simp +decide only [go_sem, ↓reduceIte] <;> rfl) | fail) only [go_sem, ↓reduceIte]
 refine Qa hP (Qms (a := c) (by omega)) rfl rfl rfl ?_
 simp +decide (disch := first | omega | rfl | (simp +decide only [go_sem, ↓reduceIte] <;> rfl) | fail) only [go_sem, ↓reduceIte]
 refine Qb (fun h0 => ?_) (fun h0 => ?_)
 ·simp +decide (disch := first | omega | rfl | (simp +decide only [go_sem, ↓reduceIte] <;> rfl) | fail) only [go_sem, ↓reduceIte]
  refine Qjk ?_
  simp +decide (disch := first | omega | rfl | (simp +decide only [go_sem, ↓reduceIte] <;> rfl) | fail) only [go_sem, ↓reduceIte]
  refine ⟨_, rfl, rfl, Qb5 fun i hi => ?_⟩
  rw [Qdn.1 h0, Rat.zero_mul, Rat.sub_eq_add_neg, Rat.neg_zero, Rat.add_zero]
 simp +decide (disch := first | omega | rfl | (simp +decide only [go_sem, ↓reduceIte] <;> rfl) | fail) only [go_sem, ↓reduceIte]
 refine Qak (by repeat (first | exact Qx | exact Qp | exact Qq | exact Qr | exact Qt | apply Qo | apply Qw | apply Q3 | apply Q9 | apply Qaa | apply Qn | apply Qz)) [(6, 6), (12, 29)] [] (fun n J hp => ∃ i, n = w - i /\ i <= w /\ J 12 = .int .i64 (i : Nat) /\ hp 5 = some ⟨3, 32, [PV.rat c], false⟩ /\ hp 1000000 = some ⟨3, ty1, Q6 PV.rat (fun j => if j < i then x j - c * y j else x j) w, false⟩) w ?_ ?_
 ·refine ⟨0, rfl, by omega, ?_⟩
  simp +decide (disch := first | omega | rfl | (simp +decide only [go_sem, ↓reduceIte] <;> rfl) | fail) only [go_sem, ↓reduceIte]
  exact ⟨rfl, Qlv (Qb5 fun k _ => (if_neg (Nat.not_lt_zero k)).symm)⟩
 rintro _ J h ⟨i, rfl, hi, h12, h5, hx1⟩
 simp +decide (disch := first | omega | rfl | (simp +decide only [go_sem, ↓reduceIte, h12] <;> rfl) | fail) only [go_sem, ↓reduceIte, h12]
 refine Qb (fun hg => ?_) (fun hg => ?_)
 ·have hi' : i < w := by omega
  have hm := Qfq c (y i)
  have h1 := hx i hi'
  have h2 := hy i hi'
  simp +decide (disch := first | omega | rfl | (simp +decide only [go_sem, ↓reduceIte, h12, h5, hx1] <;> rfl) | fail) only [go_sem, ↓reduceIte, h12, h5, hx1]
  rw [if_neg (Nat.lt_irrefl i)]
  refine Qa hP (Qls (k := k) hc h2 (by omega)) rfl rfl rfl ?_
  simp +decide (disch := first | omega | rfl | (simp +decide only [go_sem, ↓reduceIte, h12, h5, hx1] <;> rfl) | fail) only [go_sem, ↓reduceIte, h12, h5, hx1]
  refine Qa hP (Q6g (k := 2 * k) (by omega) (by omega) (by omega)) rfl rfl rfl ?_
  simp +decide (disch := first | omega | rfl | (simp +decide only [go_sem, ↓reduceIte, h12, h5, hx1] <;> rfl) | fail) only [go_sem, ↓reduceIte, h12, h5, hx1]
  rw [Qq2 hi']
  simp +decide (disch := first | omega | rfl | (simp +decide only [go_sem, ↓reduceIte, h12] <;> rfl) | fail) only [go_sem, ↓reduceIte, h12]
  refine Qab (w - (i + 1)) (by omega) ⟨i + 1, rfl, by omega, ?_⟩
  simp +decide (disch := first | omega | rfl | (simp +decide only [go_sem, ↓reduceIte, h5] <;> rfl) | fail) only [go_sem, ↓reduceIte, h5]
  refine Qlv (Qb5 fun k _ => ?_)
  by_cases e : k = i
  ·subst e; rw [if_pos rfl, if_pos (by omega)]
  ·rw [if_neg e]
   by_cases e2 : k < i
   ·rw [if_pos e2, if_pos (by omega)]
   ·rw [if_neg e2, if_neg (by omega)]
 ·obtain rfl : i = w := by omega
  simp +decide (disch := first | omega | rfl | (simp +decide only [go_sem, ↓reduceIte, h12] <;> rfl) | fail) only [go_sem, ↓reduceIte, h12]
  refine Qjk ?_
  simp +decide (disch := first | omega | rfl | (simp +decide only [go_sem, ↓reduceIte, hx1] <;> rfl) | fail) only [go_sem, ↓reduceIte, hx1]
  exact ⟨_, rfl, by rw [Qau, Qau], Qb5 fun k hk => if_pos hk⟩
theorem Qjm {R w x : Nat} {M : MF} {hp : HP} (h : x < 3000000) (h2 : ¬ x = 2000000) : Qgs R w M hp x = hp x := by
 unfold Qgs
 rw [if_neg h2, if_neg (by omega)]
abbrev Qx6 (R n : Nat) : PV := .rag [.int .i64 (n : Nat), .int .i64 (R : Nat), .mso 2000002 0 (n * R)]
abbrev redA (R : Nat) (l : List LF) : PV := .tup [PV.rats (l.map (·.1)), PV.mat l.length R (Qec R l), .int .i64 0]
theorem Q53 {R K : Nat} {l : List Rat} (hl : l.length = R * R) (hR0 : 0 < R) (hR2 : R <= 40) (hs : ∀ q ∈ l, rs q <= 1048576) (hK : K < 2 ^ 28) (hB : Q51 K R (2 * R) (Qaj l R)) (hsym : Qup (Qaj l R) R) :
  Qd Tryz.prog 29 [PV.mat R R l] (· = redA R (Qbq R (Qaj l R) (2 * R)).2) := by
 refine Qci Qm Tryz.func29 rfl Qadg (by simp [c29]) fun C hP => ?_; simp only [c29]
 simp +decide (disch := first | omega | rfl | (simp +decide only [go_sem, ↓reduceIte] <;> rfl) | fail) only [go_sem, ↓reduceIte]
 refine Qa hP (Qgr hl hR2 hR2 hs) rfl rfl rfl ?_
 simp +decide (disch := first | omega | rfl | (simp +decide only [go_sem, ↓reduceIte] <;> rfl) | fail) only [go_sem, ↓reduceIte]
 have hfree : ∀ (hp : HP), (∀ x, 5 <= x -> hp x = none) -> ∀ x, nmR R x = true -> hp x = none := fun hp h x hx => h x (by have := Qly hx; omega)
 refine Qr0 hP hl hR0 hR2 hR2 (by omega) (hfree _ (fun x hx => by simp +decide (disch := first | omega | rfl | (simp +decide only [go_sem, ↓reduceIte, show ¬ x = 1 from by omega, show ¬ x = 2 from by omega, show ¬ x = 3 from by omega, show ¬ x = 4 from by omega] <;> rfl) | fail) only [go_sem, ↓reduceIte, show ¬ x = 1 from by omega, show ¬ x = 2 from by omega, show ¬ x = 3 from by omega, show ¬ x = 4 from by omega] <;> rfl)) ?_
 simp +decide (disch := first | omega | rfl | (simp +decide only [go_sem, ↓reduceIte, Qcj, Qhc, Qbm] <;> rfl) | fail) only [go_sem, ↓reduceIte, Qcj, Qhc, Qbm]
 have hB0 := hB 0 (by omega)
 have hx := Qvo (K := K) (ty := 22) (tyr := 32) hR2 (by omega) hB0.1
 repeat' first
  | refine Qcg ?_ ?_
  | refine Qwg (ys := fun r => Q6 PV.rat (Qaj l R r) R) hP (by omega) hx (by simp [Qul]) (by simp +decide (disch := first | omega | rfl | (simp +decide only [go_sem, ↓reduceIte] <;> rfl) | fail) only [go_sem, ↓reduceIte]) (by simp +decide (disch := first | omega | rfl | (simp +decide only [go_sem, ↓reduceIte, Qks] <;> rfl) | fail) only [go_sem, ↓reduceIte, Qks]) (fun r hr => by simp +decide (disch := first | omega | rfl | (simp +decide only [go_sem, ↓reduceIte, Qhr] <;> rfl) | fail) only [go_sem, ↓reduceIte, Qhr]) ?_
  | simp +decide (disch := first | omega | rfl | (simp +decide only [go_sem, ↓reduceIte, Qcj, Qhc, Qbm] <;> rfl) | fail) only [go_sem, ↓reduceIte, Qcj, Qhc, Qbm]
 rw [show (Qbq R (Qaj l R) 0).1 = Qaj l R from rfl, decide_eq_true hsym]
 simp +decide (disch := first | omega | rfl | (simp +decide only [go_sem, ↓reduceIte, Qcj, Qhc, Qbm] <;> rfl) | fail) only [go_sem, ↓reduceIte, Qcj, Qhc, Qbm]
 refine Qbp (Qgl 3 2000001 (by simp +decide (disch := first | omega | rfl | (simp +decide only [go_sem, ↓reduceIte, Qjm] <;> rfl) | fail) only [go_sem, ↓reduceIte, Qjm] <;> rfl) (by omega) rfl (by omega)) ?_
 have hmv : rnP (mvN 3 2000001) (.nst 2000000 1 22 (Qac (Qas 3000000 R R id))) = .nst 2000000 1 22 (Qac (Qas 3000000 R R id)) := mv_P (by omega) (by omega) (by omega)
 simp +decide (disch := first | omega | rfl | (simp +decide only [go_sem, ↓reduceIte, hmv] <;> rfl) | fail) only [go_sem, ↓reduceIte, hmv]
 refine Qbp (Qhp (γ := 2000001) (e := 3) (ty := 24) (xs := [.agg [.int .i64 0, .int .i64 (R : Nat), .nilS]]) (fz := false) (by simp +decide (disch := first | omega | rfl | (simp +decide only [go_sem, ↓reduceIte] <;> rfl) | fail) only [go_sem, ↓reduceIte]) (by simp) (by omega) (fun x hx => by rw [List.mem_singleton.1 hx]; rfl)) ?_
 refine Qbp (Qlz (γ := 2000001) (e := 3) (ty := 24) (cs := [.int .i64 0, .int .i64 (R : Nat), .nilS]) (cs' := [.int .i64 0, .int .i64 (R : Nat), .mso 2000002 0 0]) 2000002 3 32 (by simp +decide (disch := first | omega | rfl | (simp +decide only [go_sem, ↓reduceIte] <;> rfl) | fail) only [go_sem, ↓reduceIte]) (by simp +decide (disch := first | omega | rfl | (simp +decide only [go_sem, ↓reduceIte, Qjm] <;> rfl) | fail) only [go_sem, ↓reduceIte, Qjm] <;> rfl) (by omega) (by omega) rfl (by simp)) ?_
 simp +decide (disch := first | omega | rfl | (simp +decide only [go_sem, ↓reduceIte] <;> rfl) | fail) only [go_sem, ↓reduceIte]
 refine Qki 2 900 3 32 (by omega) (by simp +decide (disch := first | omega | rfl | (simp +decide only [go_sem, ↓reduceIte] <;> rfl) | fail) only [go_sem, ↓reduceIte]) ?_
 obtain ⟨M, hM⟩ : ∃ M, Qaj l R = M := ⟨_, rfl⟩
 rw [hM] at hB ⊢
 refine Qbi (by repeat (first | exact Qx | exact Qp | exact Qq | exact Qr | exact Qt | apply Qo | apply Qw | apply Q3 | apply Q9 | apply Qaa | apply Qn | apply Qz)) [(2, 3), (5, 6), (8, 9), (33, 80), (2000000, 2000001)] [8, 46, 47, 52, 900] (fun q J hp => ∃ k, q = 2 * R - k /\ k <= 2 * R /\ J 2 = .ms 900 (Qbq R M k).2.length /\ J 3 = .np 2000001 0 0 /\ J 5 = .nso 2000000 0 R /\ J 33 = .int .i64 (k : Nat) /\ J 2000000 = .nst 2000000 1 22 (Qac (Qas 3000000 R R id)) /\ J 2000001 = .nst 2000001 3 24 [Qx6 R (Qbq R M k).2.length] /\
   hp 2000000 = some ⟨1, 22, [], false⟩ /\ hp 2000001 = some ⟨3, 24, [], false⟩ /\ hp 2000002 = some ⟨3, 32, (Qec R (Qbq R M k).2).map PV.rat, false⟩ /\ hp 900 = some ⟨3, 32, ((Qbq R M k).2.map (·.1)).map PV.rat, false⟩ /\
   ∀ r, r < R -> hp (3000000 + r) = some ⟨3, 32, Q6 PV.rat ((Qbq R M k).1 r) R, false⟩) (2 * R) ?_ ?_
 ·refine ⟨0, rfl, by omega, ?_⟩
  simp +decide (disch := first | omega | rfl | (simp +decide only [go_sem, ↓reduceIte, Qcj, Qhc, Qbm] <;> rfl) | fail) only [go_sem, ↓reduceIte, Qcj, Qhc, Qbm]
  refine ⟨rfl, rfl, ?_, Qks, rfl, rfl, fun r hr => Qhr hr⟩
  simp [Qbq]
 rintro _ J h ⟨k, rfl, hk, j2, j3, j5, j33, jg, jb, h0, h1, h2, h9, hrow⟩
 simp +decide (disch := first | omega | rfl | (simp +decide only [go_sem, ↓reduceIte, j33] <;> rfl) | fail) only [go_sem, ↓reduceIte, j33]
 refine Qb (fun hc => ?_) (fun hc => ?_)
 ·have hk' : k < 2 * R := by omega
  have hBk := hB k hk
  have hlk := Qn9 R M k
  have hfl := Qiz R (Qbq R M k).2
  have hn1 : (Qbq R M (k + 1)).1 = Qjl (Qbq R M k).1 (Qer (Qbq R M k).1 R) := rfl
  have hn2 : (Qbq R M (k + 1)).2 = (Qbq R M k).2 ++ Qer (Qbq R M k).1 R := rfl
  obtain ⟨E, hE⟩ : ∃ E, Qbq R M k = E := ⟨_, rfl⟩
  rw [hE] at hBk hlk hfl hn1 hn2 j2 jb h2 h9 hrow
  obtain ⟨N, fs⟩ := E
  simp only at hBk hlk hfl hn1 hn2 j2 jb h2 h9 hrow
  have hnl := Qmw N R
  have hx2 := Qadf (K := K) (ty := 22) (tyr := 32) hR2 (by omega) hBk.1
  simp +decide (disch := first | omega | rfl | (simp +decide only [go_sem, ↓reduceIte, j2, j3, j5, jg, jb] <;> rfl) | fail) only [go_sem, ↓reduceIte, j2, j3, j5, jg, jb]
  refine Qwg (ys := fun r => Q6 PV.rat (N r) R) hP (by omega) hx2 (by simp [Qul]) (by simp +decide (disch := first | omega | rfl | (simp +decide only [go_sem, ↓reduceIte, jg] <;> rfl) | fail) only [go_sem, ↓reduceIte, jg]) h0 hrow ?_
  obtain ⟨L, hL⟩ : ∃ L, Qer N R = L := ⟨_, rfl⟩
  rw [hL] at hBk hnl hn1 hn2 ⊢
  simp +decide (disch := first | omega | rfl | (simp +decide only [go_sem, ↓reduceIte, j2, j3, j5, jg, jb] <;> rfl) | fail) only [go_sem, ↓reduceIte, j2, j3, j5, jg, jb]
  refine Qbi (by repeat (first | exact Qx | exact Qp | exact Qq | exact Qr | exact Qt | apply Qo | apply Qw | apply Q3 | apply Q9 | apply Qaa | apply Qn | apply Qz)) [(2, 3), (5, 5), (8, 9), (39, 79), (2000000, 2000001)] [8, 46, 47, 52, 900] (fun q J hp => ∃ i, q = L.length - i /\ i <= L.length /\ J 2 = .ms 900 (fs ++ L.take i).length /\ J 3 = .np 2000001 0 0 /\ J 5 = .nso 2000000 0 R /\ J 39 = .int .i64 (i : Nat) /\ J 2000000 = .nst 2000000 1 22 (Qac (Qas 3000000 R R id)) /\ J 2000001 = .nst 2000001 3 24 [Qx6 R (fs ++ L.take i).length] /\
   hp 2000000 = some ⟨1, 22, [], false⟩ /\ hp 2000001 = some ⟨3, 24, [], false⟩ /\ hp 2000002 = some ⟨3, 32, (Qec R (fs ++ L.take i)).map PV.rat, false⟩ /\ hp 900 = some ⟨3, 32, ((fs ++ L.take i).map (·.1)).map PV.rat, false⟩ /\
   ∀ r, r < R -> hp (3000000 + r) = some ⟨3, 32, Q6 PV.rat (Qjl N (L.take i) r) R, false⟩) L.length ?_ ?_
  ·refine ⟨0, rfl, by omega, ?_⟩
   simp +decide (disch := first | omega | rfl | (simp +decide only [go_sem, ↓reduceIte, j2, j3, j5, jg, jb, h0, h1, h2, h9] <;> rfl) | fail) only [go_sem, ↓reduceIte, j2, j3, j5, jg, jb, h0, h1, h2, h9]
   simp only [List.append_nil]
   exact ⟨trivial, rfl, trivial, trivial, trivial, hrow⟩
  rintro _ J1 g ⟨i, rfl, hi, i2, i3, i5, i39, ig, ib, g0, g1, g2, g9, growr⟩
  simp +decide (disch := first | omega | rfl | (simp +decide only [go_sem, ↓reduceIte, i39] <;> rfl) | fail) only [go_sem, ↓reduceIte, i39]
  refine Qb (fun hci => ?_) (fun hci => ?_)
  ·have hi' : i < L.length := by omega
   have htk : L.take (i + 1) = L.take i ++ [L[i]] := List.take_succ_eq_append_getElem hi'
   have hfb := hBk.2.1 _ (List.getElem_mem hi')
   have hMb := hBk.2.2 i hi
   have hll : (fs ++ L.take i).length <= 200 := by
    rw [List.length_append, List.length_take]; omega
   have hfl2 := Qiz R (fs ++ L.take i)
   generalize hf : L[i] = f at *
   have hsn := Qx3 N (L.take i) f
   have hfsn := Qx4 R (fs ++ L.take i) f
   have hTk : fs ++ L.take (i + 1) = (fs ++ L.take i) ++ [f] := by rw [htk, <- List.append_assoc]
   rw [<- htk] at hsn
   generalize hT : fs ++ L.take i = T at *
   generalize hZ : Qjl N (L.take i) = Z at *
   have hTR : T.length * R <= 200 * 40 := Nat.mul_le_mul hll hR2
   have hrl : (Q6 PV.rat f.2 R).length = R := Qau _ _ _
   simp +decide (disch := first | omega | rfl | (simp +decide only [go_sem, ↓reduceIte, i2, i3, i5, i39, ig, ib, g0, g1, g2, g9, hf] <;> rfl) | fail) only [go_sem, ↓reduceIte, i2, i3, i5, i39, ig, ib, g0, g1, g2, g9, hf]
   rw [Qc6 (f := PV.rat) (y := f.1) (xs := T.map (·.1)) (ty' := 32) (fz := false) (by simp +decide (disch := first | omega | rfl | (simp +decide only [go_sem, ↓reduceIte, g9] <;> rfl) | fail) only [go_sem, ↓reduceIte, g9]) (by simp +decide (disch := first | omega | rfl | (simp +decide only [go_sem, ↓reduceIte] <;> rfl) | fail) only [go_sem, ↓reduceIte]) (by omega) (by simp) (by omega) (by omega)]
   simp +decide (disch := first | omega | rfl | (simp +decide only [go_sem, ↓reduceIte, i2, i3, i5, i39, ig, ib, g0, g1, g2, g9] <;> rfl) | fail) only [go_sem, ↓reduceIte, i2, i3, i5, i39, ig, ib, g0, g1, g2, g9]
   rw [Qadc (xs := (Qec R T).map PV.rat) (by simp +decide (disch := first | omega | rfl | (simp +decide only [go_sem, ↓reduceIte, g2] <;> rfl) | fail) only [go_sem, ↓reduceIte, g2]) (by omega) (by rw [List.length_map, hfl2]) (Qq0 hR0) (by rw [hrl]; omega) (by rw [hrl]; omega) (by omega), hrl]
   simp +decide (disch := first | omega | rfl | (simp +decide only [go_sem, ↓reduceIte, i2, i3, i5, i39, ig, ib, g0, g1, g2, g9] <;> rfl) | fail) only [go_sem, ↓reduceIte, i2, i3, i5, i39, ig, ib, g0, g1, g2, g9]
   obtain ⟨g8, hg8⟩ : ∃ g8, g8 = HB.mk 4 109 [PV.form R f] false := ⟨_, rfl⟩
   refine Qbi (by repeat (first | exact Qx | exact Qp | exact Qq | exact Qr | exact Qt | apply Qo | apply Qw | apply Q3 | apply Q9 | apply Qaa | apply Qn | apply Qz)) [(3, 3), (5, 5), (9, 9), (60, 78), (2000000, 2000001)] [] (fun q J hp => ∃ r, q = R - r /\ r <= R /\ J 3 = .np 2000001 0 0 /\ J 5 = .nso 2000000 0 R /\ J 60 = .int .i64 (r : Nat) /\ J 2000000 = .nst 2000000 1 22 (Qac (Qas 3000000 R R id)) /\ J 2000001 = .nst 2000001 3 24 [Qx6 R (T.length + 1)] /\
    hp 2000000 = some ⟨1, 22, [], false⟩ /\ hp 2000001 = some ⟨3, 24, [], false⟩ /\ hp 2000002 = some ⟨3, 32, (Qec R (T ++ [f])).map PV.rat, false⟩ /\ hp 900 = some ⟨3, 32, ((T ++ [f]).map (·.1)).map PV.rat, false⟩ /\ hp 8 = some g8 /\
    ∀ r', r' < R -> hp (3000000 + r') = some ⟨3, 32, Q6 PV.rat (if r' < r then Qx2 Z f r' else Z r') R, false⟩) R ?_ ?_
   ·refine ⟨0, rfl, by omega, ?_⟩
    simp +decide (disch := first | omega | rfl | (simp +decide only [go_sem, ↓reduceIte, i2, i3, i5, i39, ig, ib, g0, g1, g2, g9] <;> rfl) | fail) only [go_sem, ↓reduceIte, i2, i3, i5, i39, ig, ib, g0, g1, g2, g9]
    refine ⟨rfl, ?_, ?_, ?_, hg8.symm, fun r' hr' => ?_⟩
    ·have e1 : T.length * R + R = (T.length + 1) * R := by rw [Nat.add_mul, Nat.one_mul]
     rw [e1]
    ·rw [hfsn, List.map_append, Q50]
    ·simp
    ·rw [if_neg (by omega)]; exact growr r' hr'
   rintro _ J2 e ⟨r, rfl, hr, k3, k5, k60, kg, kb, e0, e1, e2, e9, e8, erow⟩
   simp +decide (disch := first | omega | rfl | (simp +decide only [go_sem, ↓reduceIte, k60] <;> rfl) | fail) only [go_sem, ↓reduceIte, k60]
   refine Qb (fun hcr => ?_) (fun hcr => ?_)
   ·have hr' : r < R := by omega
    have er := erow r hr'
    rw [if_neg (Nat.lt_irrefl r)] at er
    simp +decide (disch := first | omega | rfl | (simp +decide only [go_sem, ↓reduceIte, k3, k5, k60, kg, kb, e0, e1, e2, e9, e8, hg8, er, id] <;> rfl) | fail) only [go_sem, ↓reduceIte, k3, k5, k60, kg, kb, e0, e1, e2, e9, e8, hg8, er, id]
    have hm := Qfq f.1 (f.2 r)
    have hfr := hfb.2 r hr'
    refine Qa hP (Qls (a := f.1) (b := f.2 r) (k := K) hfb.1 hfr (by omega)) rfl rfl rfl ?_
    simp +decide (disch := first | omega | rfl | (simp +decide only [go_sem, ↓reduceIte, k3, k5, k60, kg, kb, e0, e1, e2, e9, e8, hg8, er, id] <;> rfl) | fail) only [go_sem, ↓reduceIte, k3, k5, k60, kg, kb, e0, e1, e2, e9, e8, hg8, er, id]
    have sub := Qvp (w := R) (x := Z r) (y := f.2) (c := f.1 * f.2 r) (ty1 := 32) (k := 2 * K) hR0 (by omega) (fun c hc => by have := hMb r hr' c hc; omega) (fun c hc => by have := hfb.2 c hc; omega) (by omega) (by omega)
    refine Qaaa hP sub er rfl (Qq0 hR0) (by simp [isB]; omega) (by simp +decide (disch := first | omega | rfl | (simp +decide only [go_sem, ↓reduceIte] <;> rfl) | fail) only [go_sem, ↓reduceIte]) (fun γ hγ => by simpa [PV.refs, PV.sref] using hγ) (by simp) ?_
    rintro _ xs _ ⟨rfl, rfl⟩
    simp +decide (disch := first | omega | rfl | (simp +decide only [go_sem, ↓reduceIte, k60] <;> rfl) | fail) only [go_sem, ↓reduceIte, k60]
    refine Qa0 (R - (r + 1)) (by omega) ⟨r + 1, rfl, by omega, ?_⟩
    simp +decide (disch := first | omega | rfl | (simp +decide only [go_sem, ↓reduceIte, k3, k5, kg, kb, e0, e1, e2, e9, e8] <;> rfl) | fail) only [go_sem, ↓reduceIte, k3, k5, kg, kb, e0, e1, e2, e9, e8]
    refine ⟨hg8, fun r' hr2 => ?_⟩
    by_cases e3 : r' = r
    ·subst e3
     rw [if_pos rfl, if_pos (by omega)]
     rfl
    ·rw [if_neg e3, erow r' hr2]
     by_cases e4 : r' < r
     ·rw [if_pos e4, if_pos (by omega)]
     ·rw [if_neg e4, if_neg (by omega)]
   ·have hrR : r = R := by omega
    subst hrR
    rw [Qb0]
    rotate_left
    ·decide
    simp +decide (disch := first | omega | rfl | (simp +decide only [go_sem, ↓reduceIte, i39] <;> rfl) | fail) only [go_sem, ↓reduceIte, i39]
    refine Qa0 (L.length - (i + 1)) (by omega) ⟨i + 1, rfl, by omega, ?_⟩
    rw [hTk, hsn]
    simp +decide (disch := first | omega | rfl | (simp +decide only [go_sem, ↓reduceIte, i2, k3, k5, kg, kb, e0, e1, e2, e9] <;> rfl) | fail) only [go_sem, ↓reduceIte, i2, k3, k5, kg, kb, e0, e1, e2, e9]
    rw [List.length_append]
    exact ⟨rfl, rfl, fun r' hr' => by rw [erow r' hr', if_pos hr']⟩
  ·have hiL : i = L.length := by omega
   subst hiL
   rw [List.take_length] at i2 ib g2 g9 growr
   simp (disch := decide) only [Qb0, Qb4, Qb9, Qce]
   simp +decide (disch := first | omega | rfl | (simp +decide only [go_sem, ↓reduceIte, j33] <;> rfl) | fail) only [go_sem, ↓reduceIte, j33]
   refine Qa0 (2 * R - (k + 1)) (by omega) ⟨k + 1, rfl, by omega, ?_⟩
   rw [hn1, hn2]
   simp +decide (disch := first | omega | rfl | (simp +decide only [go_sem, ↓reduceIte, i2, i3, i5, ig, ib, g0, g1, g2, g9] <;> rfl) | fail) only [go_sem, ↓reduceIte, i2, i3, i5, ig, ib, g0, g1, g2, g9]
   exact growr
 ·have hkR : k = 2 * R := by omega
  subst hkR
  simp +decide (disch := first | omega | rfl | (simp +decide only [go_sem, ↓reduceIte, j2, j3, j5, jg, jb, h0, h1, h2, h9] <;> rfl) | fail) only [go_sem, ↓reduceIte, j2, j3, j5, jg, jb, h0, h1, h2, h9]
  have hfl := Qiz R (Qbq R M (2 * R)).2
  have hml : (Qec R (Qbq R M (2 * R)).2).map PV.rat = (Qec R (Qbq R M (2 * R)).2).map PV.rat := rfl
  refine Qkt 82 2 [2000002] (p := Qx6 R (Qbq R M (2 * R)).2.length) (by simp +decide (disch := first | omega | rfl | (simp +decide only [go_sem, ↓reduceIte] <;> rfl) | fail) only [go_sem, ↓reduceIte]) (D := PV.mat (Qbq R M (2 * R)).2.length R (Qec R (Qbq R M (2 * R)).2)) ?_ ?_ rfl ?_
  ·intro c hc
   simp only [List.mem_cons, List.not_mem_nil, or_false] at hc
   rcases hc with rfl | rfl | rfl
   ·trivial
   ·trivial
   ·simp only [okD, isY]; simp
  ·show PV.agg [_, _, dsn _ h 2 (.mso 2000002 0 _)] = _
   simp only [dsn, h2, List.drop_zero]
   rw [List.take_of_length_le (by rw [List.length_map, hfl]; omega)]
  simp +decide (disch := first | omega | rfl | (simp +decide only [go_sem, ↓reduceIte, j2, j3, jb, h1, h9, Qe, List.contains_cons, List.contains_nil, List.flatMap_cons, List.flatMap_nil, List.append_nil] <;> rfl) | fail) only [go_sem, ↓reduceIte, j2, j3, jb, h1, h9, Qe, List.contains_cons, List.contains_nil, List.flatMap_cons, List.flatMap_nil, List.append_nil]
  refine Q8h (Qadb (γ := 2000001) (e := 3) (ty := 24) (xs := [PV.mat (Qbq R M (2 * R)).2.length R (Qec R (Qbq R M (2 * R)).2)]) 3 (by simp +decide (disch := first | omega | rfl | (simp +decide only [go_sem, ↓reduceIte] <;> rfl) | fail) only [go_sem, ↓reduceIte]) (by simp +decide (disch := first | omega | rfl | (simp +decide only [go_sem, ↓reduceIte, j3] <;> rfl) | fail) only [go_sem, ↓reduceIte, j3] <;> rfl) rfl (fun x hx => by rw [List.mem_singleton.1 hx]; exact ⟨rfl, rfl, fun c hc => by
   simp only [PV.ncells, PV.cells, List.mem_cons, List.not_mem_nil, or_false] at hc
   rcases hc with rfl | rfl | rfl <;> rfl⟩)) ?_
  refine Qadt ?_
  simp +decide (disch := first | omega | rfl | (simp +decide only [go_sem, ↓reduceIte, h9, Qe, List.contains_cons, List.contains_nil, List.flatMap_cons, List.flatMap_nil, List.append_nil] <;> rfl) | fail) only [go_sem, ↓reduceIte, h9, Qe, List.contains_cons, List.contains_nil, List.flatMap_cons, List.flatMap_nil, List.append_nil]
  rw [List.take_of_length_le (by simp)]
  exact Qk6 rfl rfl rfl rfl (Qv _) (Qv _) (Qv _)
end Go.Proofs.YtmnkngmmfnncoaaGreat
namespace Go.Proofs.YtmnkngmmfnncoaaGreat
open Go Go.FW
set_option linter.unusedSimpArgs false
set_option linter.unusedVariables false
set_option maxRecDepth 100000
theorem Qp3 {xs : List Int} (hl : xs.length <= 1000) (hx : ∀ x ∈ xs, -9223372036854775808 <= x /\ x <= 9223372036854775807) : Qd Tryz.prog 76 [.sl 1 (Qoh xs)] (· = PV.rats (xs.map fun x : Int => (x : Rat))) := by
 refine Qi Qm Tryz.func76 rfl Qact (by simp [c76]) fun C hP => ?_; simp only [c76]
 simp +decide (disch := first | omega | rfl | (simp +decide only [go_sem, ↓reduceIte] <;> rfl) | fail) only [go_sem, ↓reduceIte]
 refine Qki 3 900 3 32 (by omega) (by simp +decide (disch := first | omega | rfl | (simp +decide only [go_sem, ↓reduceIte] <;> rfl) | fail) only [go_sem, ↓reduceIte]) ?_
 refine Qak (by repeat (first | exact Qx | exact Qp | exact Qq | exact Qr | exact Qt | apply Qo | apply Qw | apply Q3 | apply Q9 | apply Qaa | apply Qn | apply Qz)) [(3, 18)] [17, 18, 900] (fun n J hp => ∃ i, n = xs.length - i /\ i <= xs.length /\ J 3 = .ms 900 i /\ J 4 = .int .i64 (i : Nat) /\ hp 900 = some ⟨3, 32, ((xs.take i).map fun x : Int => (x : Rat)).map PV.rat, false⟩) xs.length ?_ ?_
 ·refine ⟨0, rfl, by omega, ?_⟩
  simp +decide (disch := first | omega | rfl | (simp +decide only [go_sem, ↓reduceIte] <;> rfl) | fail) only [go_sem, ↓reduceIte]
  rfl
 rintro _ J h ⟨i, rfl, hi, h3, h4, hh⟩
 simp +decide (disch := first | omega | rfl | (simp +decide only [go_sem, ↓reduceIte, h3, h4] <;> rfl) | fail) only [go_sem, ↓reduceIte, h3, h4]
 refine Qb (fun hg => ?_) (fun hg => ?_)
 ·have hi' : i < xs.length := by omega
  have htk : xs.take (i + 1) = xs.take i ++ [xs[i]] := List.take_succ_eq_append_getElem hi'
  have hb := hx _ (List.getElem_mem hi')
  generalize hz : xs[i] = z at *
  simp +decide (disch := first | omega | rfl | (simp +decide only [go_sem, ↓reduceIte, h3, h4, hz] <;> rfl) | fail) only [go_sem, ↓reduceIte, h3, h4, hz]
  refine Qa hP (Qlu (x := z) hb.1 hb.2) rfl rfl rfl ?_
  simp +decide (disch := first | omega | rfl | (simp +decide only [go_sem, ↓reduceIte, h3, h4, hz] <;> rfl) | fail) only [go_sem, ↓reduceIte, h3, h4, hz]
  rw [Qc6 (f := PV.rat) (y := (z : Rat)) (xs := (xs.take i).map fun x : Int => (x : Rat)) (ty' := 32) (fz := false) (by simp +decide (disch := first | omega | rfl | (simp +decide only [go_sem, ↓reduceIte, hh] <;> rfl) | fail) only [go_sem, ↓reduceIte, hh]) (by simp +decide (disch := first | omega | rfl | (simp +decide only [go_sem, ↓reduceIte] <;> rfl) | fail) only [go_sem, ↓reduceIte]) (by omega) (by rw [List.length_map, List.length_take]; omega) (by omega) (by omega)]
  simp +decide (disch := first | omega | rfl | (simp +decide only [go_sem, ↓reduceIte, h3, h4] <;> rfl) | fail) only [go_sem, ↓reduceIte, h3, h4]
  refine Qab (xs.length - (i + 1)) (by omega) ⟨i + 1, rfl, by omega, ?_⟩
  simp +decide (disch := first | omega | rfl | (simp +decide only [go_sem, ↓reduceIte] <;> rfl) | fail) only [go_sem, ↓reduceIte]
  rw [htk]
  simp
 ·obtain rfl : i = xs.length := by omega
  simp +decide (disch := first | omega | rfl | (simp +decide only [go_sem, ↓reduceIte, h3, hh, Qe, List.contains_cons, List.contains_nil, List.flatMap_cons, List.flatMap_nil, List.append_nil] <;> rfl) | fail) only [go_sem, ↓reduceIte, h3, hh, Qe, List.contains_cons, List.contains_nil, List.flatMap_cons, List.flatMap_nil, List.append_nil]
  refine Qc ?_ rfl
  rw [List.take_of_length_le (i := xs.length) (by simp)]; simp [PV.rats]
theorem alD : Qud 2 (Qaj [0, 1, 1, 0] 2) = -1 := by decide +kernel
theorem alE : Qxq 1000 2 2 2 (Qaj [0, 1, 1, 0] 2) := by unfold Qxq MBd; decide +kernel
theorem alR : Q51 1000 2 4 (Qaj [0, 1, 1, 0] 2) := by unfold Q51 MBd; decide +kernel
theorem alS : Qup (Qaj [0, 1, 1, 0] 2) 2 := by decide +kernel
theorem alW : ((Qbq 2 (Qaj [0, 1, 1, 0] 2) 4).2.map (·.1)) = [((1 : Int) : Rat) / ((2 : Int) : Rat), ((-1 : Int) : Rat) / ((2 : Int) : Rat)] := by decide +kernel
theorem alF : Qec 2 (Qbq 2 (Qaj [0, 1, 1, 0] 2) 4).2 = (([1, 1, -1, 1] : List Int).map fun x : Int => (x : Rat)) := by decide +kernel
theorem alL : (Qbq 2 (Qaj [0, 1, 1, 0] 2) 4).2.length = 2 := by decide +kernel
theorem Q1h {k : Nat} {l : List Rat} (h : ∀ q ∈ l, rs q <= k) : RRk k (l.map qR) := RRk.of h
theorem Qmx {l : List Rat} {k : Nat} (h : ∀ q ∈ l, rs q <= k) (hk : k < 2 ^ 34) (ll : l.length < 2 ^ 40) : Qd Tryz.prog 33 [PV.rats l, PV.rats l] (· = .bool true) := by
 have := Qn8 (a := l.map qR) (b := l.map qR) (Q1h h) (Q1h h) hk (by simpa using ll) (by simpa using ll)
 rw [decide_eq_true rfl, <- Qub] at this
 exact this
theorem Q54 {R m : Nat} {l : List Rat} (hl : l.length = R * m) (hR : R <= 40) (hm : m <= 40) : Qsm R m (l.map qR) = .tup [PV.mat R m l, .int .i64 0] := by
 have h := Qhq hl hR hm
 unfold Qaf at h
 rw [Bool.and_eq_true, decide_eq_true_eq] at h
 unfold Qsm
 rw [if_pos (by omega), if_pos h.1.2.2.2.2, if_pos h.2, Qko]
theorem Ql0 : Qd Tryz.prog 15 [] (· = .bool true) := by
 have n1 := Qp3 (xs := [0, 1, 1, 0]) (by simp) (by simp)
 have n2 := Qp3 (xs := [1, 1, -1, 1]) (by simp) (by simp)
 have s1 : ∀ q ∈ ([0, 1, 1, 0] : List Int).map fun x : Int => (x : Rat), rs q <= 10 := by decide +kernel
 have s2 : ∀ q ∈ ([1, 1, -1, 1] : List Int).map fun x : Int => (x : Rat), rs q <= 10 := by decide +kernel
 have s3 : ∀ q ∈ [((1 : Int) : Rat) / ((2 : Int) : Rat), ((-1 : Int) : Rat) / ((2 : Int) : Rat)], rs q <= 10 := by decide +kernel
 have f1 := Qmv (x := 1) (y := 2) (by omega) (by omega) (by omega)
 have f2 := Qmv (x := -1) (y := 2) (by omega) (by omega) (by omega)
 have o1 := Qlu (x := -1) (by omega) (by omega)
 have hmk := Qac9 (r := 2) (c := 2) (l := (([0, 1, 1, 0] : List Int).map fun x : Int => (x : Rat)).map qR) ⟨by simp, RRk.of fun q hq => by have := s1 q hq; omega⟩
 rw [<- Qub] at hmk
 rw [show (2 : Int) = ((2 : Nat) : Int) from rfl, Q54 (R := 2) (m := 2) rfl (by omega) (by omega)] at hmk
 have hdet := Qael (R := 2) (K := 1000) (l := [0, 1, 1, 0]) rfl (by omega) (fun q hq => by have := s1 q hq; omega) (by omega) alE
 have hred := Q53 (R := 2) (K := 1000) (l := [0, 1, 1, 0]) rfl (by omega) (by omega) (fun q hq => by have := s1 q hq; omega) (by omega) alR alS
 rw [alD] at hdet
 rw [show 2 * 2 = 4 from rfl, redA, alW, alF, alL] at hred
 rw [show ([0, 1, 1, 0] : List Rat) = (([0, 1, 1, 0] : List Int).map fun x : Int => (x : Rat)) from rfl] at hdet hred
 have eq1 := Qxt (a := -1) (b := -1) (k := 10) (by decide +kernel) (by decide +kernel) (by omega)
 have sm1 := Qmx s3 (by omega) (by simp)
 have sm2 := Qmx s2 (by omega) (by simp)
 rw [show ((-1 : Int) : Rat) = -1 from rfl] at o1
 rw [decide_eq_true rfl] at eq1
 obtain ⟨lA, hA⟩ : ∃ l, (([0, 1, 1, 0] : List Int).map fun x : Int => (x : Rat)) = l := ⟨_, rfl⟩
 obtain ⟨lB, hB⟩ : ∃ l, (([1, 1, -1, 1] : List Int).map fun x : Int => (x : Rat)) = l := ⟨_, rfl⟩
 obtain ⟨q1, hq1⟩ : ∃ q, ((1 : Int) : Rat) / ((2 : Int) : Rat) = q := ⟨_, rfl⟩
 obtain ⟨q2, hq2⟩ : ∃ q, ((-1 : Int) : Rat) / ((2 : Int) : Rat) = q := ⟨_, rfl⟩
 obtain ⟨q3, hq3⟩ : ∃ q, (-1 : Rat) = q := ⟨_, rfl⟩
 rw [hA] at n1 hmk hdet hred
 rw [hB] at n2 hred sm2
 rw [hq1] at f1 hred sm1
 rw [hq2] at f2 hred sm1
 rw [hq3] at o1 eq1 hdet
 clear hA hB s1 s2 s3
 refine Qi Qm Tryz.func15 rfl Qacu (by simp [c15]) fun C hP => ?_; simp only [c15]
 simp +decide (disch := first | omega | rfl | (simp +decide only [go_sem, ↓reduceIte] <;> rfl) | fail) only [go_sem, ↓reduceIte]
 rw [Qnd (by rfl) (by simp [PV.cells]) (by omega)]
 simp +decide (disch := first | omega | rfl | (simp +decide only [go_sem, ↓reduceIte, Qe, List.contains_cons, List.contains_nil, List.flatMap_cons, List.flatMap_nil, List.append_nil] <;> rfl) | fail) only [go_sem, ↓reduceIte, Qe, List.contains_cons, List.contains_nil, List.flatMap_cons, List.flatMap_nil, List.append_nil]
 refine Qcv hP n1 (by simp +decide (disch := first | omega | rfl | (simp +decide only [go_sem, ↓reduceIte, Qe, List.contains_cons, List.contains_nil, List.flatMap_cons, List.flatMap_nil, List.append_nil] <;> rfl) | fail) only [go_sem, ↓reduceIte, Qe, List.contains_cons, List.contains_nil, List.flatMap_cons, List.flatMap_nil, List.append_nil] <;> rfl) rfl ?_
 simp +decide (disch := first | omega | rfl | (simp +decide only [go_sem, ↓reduceIte, Qe, List.contains_cons, List.contains_nil, List.flatMap_cons, List.flatMap_nil, List.append_nil] <;> rfl) | fail) only [go_sem, ↓reduceIte, Qe, List.contains_cons, List.contains_nil, List.flatMap_cons, List.flatMap_nil, List.append_nil]
 repeat' first
  | refine Qcg ?_ ?_
  | rw [Qnd (by rfl) (by simp [PV.cells]) (by omega)]
  | refine Qa hP hmk rfl rfl rfl ?_
  | refine Qa hP hdet rfl rfl rfl ?_
  | refine Qa hP hred rfl rfl rfl ?_
  | refine Qa hP o1 rfl rfl rfl ?_
  | refine Qa hP eq1 rfl rfl rfl ?_
  | refine Qa hP f1 rfl rfl rfl ?_
  | refine Qa hP f2 rfl rfl rfl ?_
  | refine Qa hP sm2 rfl rfl rfl ?_
  | refine Qcv hP sm1 (by simp +decide (disch := first | omega | rfl | (simp +decide only [go_sem, ↓reduceIte, Qe, List.contains_cons, List.contains_nil, List.flatMap_cons, List.flatMap_nil, List.append_nil] <;> rfl) | fail) only [go_sem, ↓reduceIte, Qe, List.contains_cons, List.contains_nil, List.flatMap_cons, List.flatMap_nil, List.append_nil] <;> rfl) rfl ?_
  | refine Qcv hP n2 (by simp +decide (disch := first | omega | rfl | (simp +decide only [go_sem, ↓reduceIte, Qe, List.contains_cons, List.contains_nil, List.flatMap_cons, List.flatMap_nil, List.append_nil] <;> rfl) | fail) only [go_sem, ↓reduceIte, Qe, List.contains_cons, List.contains_nil, List.flatMap_cons, List.flatMap_nil, List.append_nil] <;> rfl) rfl ?_
  | simp +decide (disch := first | omega | rfl | (simp +decide only [go_sem, ↓reduceIte, Qe, List.contains_cons, List.contains_nil, List.flatMap_cons, List.flatMap_nil, List.append_nil] <;> rfl) | fail) only [go_sem, ↓reduceIte, Qe, List.contains_cons, List.contains_nil, List.flatMap_cons, List.flatMap_nil, List.append_nil]
 all_goals exact Qc rfl rfl
end Go.Proofs.YtmnkngmmfnncoaaGreat
namespace Go.Proofs.YtmnkngmmfnncoaaGreat
open Go Go.FW
set_option linter.unusedSimpArgs false
set_option linter.unusedVariables false
set_option maxRecDepth 100000
end Go.Proofs.YtmnkngmmfnncoaaGreat
namespace Go.Proofs.YtmnkngmmfnncoaaGreat
open Go Go.FW
set_option linter.unusedSimpArgs false
set_option linter.unusedVariables false
set_option maxRecDepth 100000
end Go.Proofs.YtmnkngmmfnncoaaGreat
namespace Go.Proofs.YtmnkngmmfnncoaaGreat
open Go Go.FW
set_option linter.unusedSimpArgs false
set_option linter.unusedVariables false
set_option maxRecDepth 100000
end Go.Proofs.YtmnkngmmfnncoaaGreat
namespace Go.Proofs.YtmnkngmmfnncoaaGreat
open Go Go.FW
set_option linter.unusedSimpArgs false
set_option linter.unusedVariables false
set_option maxRecDepth 100000
end Go.Proofs.YtmnkngmmfnncoaaGreat
namespace Go.Proofs.YtmnkngmmfnncoaaGreat
open Go Go.FW
set_option linter.unusedSimpArgs false
set_option linter.unusedVariables false
set_option maxRecDepth 100000
end Go.Proofs.YtmnkngmmfnncoaaGreat
namespace Go.Proofs.YtmnkngmmfnncoaaGreat
open Go Go.FW
set_option linter.unusedSimpArgs false
set_option linter.unusedVariables false
set_option maxRecDepth 100000
abbrev Qx7 (x : Int) : Prop := -9223372036854775808 <= x /\ x <= 9223372036854775807
end Go.Proofs.YtmnkngmmfnncoaaGreat
namespace Go.Proofs.YtmnkngmmfnncoaaGreat
open Go Go.FW
set_option linter.unusedSimpArgs false
set_option linter.unusedVariables false
set_option maxRecDepth 100000
theorem Quq {l : List RQ} {n : Nat} (hl : Qao l) (hs : Qb7 l n = true) : l.length <= n /\ ∀ q ∈ l.map rqV, rs q <= 3 := by
 unfold Qb7 at hs
 rw [Bool.and_eq_true, decide_eq_true_eq, List.all_eq_true] at hs
 refine ⟨hs.1, fun q hq => ?_⟩
 obtain ⟨x, hx, rfl⟩ := List.mem_map.1 hq
 have h1 := hs.2 x hx
 rw [Bool.and_eq_true, decide_eq_true_eq, decide_eq_true_eq] at h1
 have h2 := hl.2 x hx
 exact Qz1 (n := 0) h2.la h2.ld h1.1 h1.2 (by omega)
theorem Qg2 {l : List Rat} {k m r c : Nat} (hk : 1 <= k) (h : ∀ q ∈ l, rs q <= k) : rs (Qaj l m r c) <= k := by
 unfold Qaj
 rw [List.getD_eq_getElem?_getD]
 cases hq : l[r * m + c]? with
 | none => have := Q29; show rs 0 <= k; omega
 | some q => exact h q (List.mem_of_getElem? hq)
end Go.Proofs.YtmnkngmmfnncoaaGreat
namespace Go.Proofs.YtmnkngmmfnncoaaGreat
open Go Go.FW
set_option linter.unusedSimpArgs false
set_option linter.unusedVariables false
set_option maxRecDepth 100000
def c46 : SFn := ⟨52, [.cell 2 3 true, .t 3], .seq (.rg (.o none (.box 1 3 24 (.t 0)) <|
 .o none (.alloc 2 3 24 (.agg [(.int .i64 0), (.int .i64 0), .nilS])) <|
 .o none (.mv 3 (.c (.int .i64 0))) .nil)) <| .seq (.seq (.rg (.o none (.ld 7 3 true (.t 1)) <|
 .o none (.call (some 8) false (.c (.fn 25 [] [])) [(.t 7)]) <|
 .o none (.un 9 .not (.t 8)) .nil)) <| .cond (.t 9) (.seq (.rg (.o none (.bld 10 [(.int .i64 0), (.int .i64 0), .nilS] []) <|
 .o none (.st 3 (.t 2) (.t 10)) <|
 .o none (.mv 3 (.c (.int .i64 1))) .nil)) <| .ret) (.skip)) <| .seq (.rg (.o none (.fld 11 1 (.t 1)) <|
 .o none (.ld 12 1 false (.t 11)) <|
 .o none (.fld 13 0 (.t 1)) <|
 .o none (.ld 14 1 false (.t 13)) <|
 .o none (.fld 15 2 (.t 1)) <|
 .o none (.ld 16 1 false (.t 15)) <|
 .o none (.len 17 (.t 16)) <|
 .br (.o none (.mk 18 3 56 32 (.agg [(.bool false), .nilS, .nilS]) (.t 17) (.t 17)) <| .wk <|
 .o none (.bld 19 [(.int .i64 0), (.int .i64 0), .nilS] [(0, 1, (.t 12)), (1, 1, (.t 14)), (2, 1, (.t 18))]) <|
 .o none (.alloc 4 3 24 (.agg [(.int .i64 0), (.int .i64 0), .nilS])) <| .wk <| .wk <|
 .o none (.st 3 (.t 4) (.t 19)) .nil) (.o none (.alloc 4 3 24 (.agg [(.int .i64 0), (.int .i64 0), .nilS])) <| .wk <| .wk <|
 .o none (.mk 18 3 56 32 (.agg [(.bool false), .nilS, .nilS]) (.t 17) (.t 17)) <| .wk <|
 .o none (.bld 19 [(.int .i64 0), (.int .i64 0), .nilS] [(0, 1, (.t 12)), (1, 1, (.t 14)), (2, 1, (.t 18))]) <|
 .o none (.st 3 (.t 4) (.t 19)) .nil))) <| .seq (.seq (.rg (.o none (.fld 20 0 (.t 1)) <|
 .o none (.ld 21 1 false (.t 20)) <|
 .o none (.mv 22 (.c (.int .i64 0))) .nil)) <| .block 0 (.loop (.seq (.rg (.o none (.bin 23 .lss false (.t 22) (.t 21)) .nil)) <| .seq (.cond (.t 23) (.skip) (.exit 0)) <| .seq (.block 1 (.seq (.rg (.o none (.mv 24 (.t 22)) <|
 .o none (.mv 5 (.t 24)) .nil)) <| .seq (.rg (.o none (.fld 25 1 (.t 1)) <|
 .o none (.ld 26 1 false (.t 25)) <|
 .o none (.mv 27 (.c (.int .i64 0))) .nil)) <| .block 2 (.loop (.seq (.rg (.o none (.bin 28 .lss false (.t 27) (.t 26)) .nil)) <| .seq (.cond (.t 28) (.skip) (.exit 2)) <| .seq (.block 3 (.seq (.rg (.o none (.mv 29 (.t 27)) <|
 .o none (.mv 6 (.t 29)) .nil)) <| .rg (.o none (.fld 30 2 (.t 4)) <|
 .o none (.ld 31 1 false (.t 30)) <|
 .o none (.mv 32 (.t 6)) <|
 .o none (.fld 33 0 (.t 1)) <|
 .o none (.ld 34 1 false (.t 33)) <|
 .o none (.bin 35 .mul false (.t 32) (.t 34)) <|
 .o none (.mv 36 (.t 5)) <|
 .o none (.bin 37 .add false (.t 35) (.t 36)) <|
 .o none (.fld 38 2 (.t 1)) <|
 .o none (.ld 39 1 false (.t 38)) <|
 .o none (.mv 40 (.t 5)) <|
 .o none (.fld 41 1 (.t 1)) <|
 .o none (.ld 42 1 false (.t 41)) <|
 .o none (.bin 43 .mul false (.t 40) (.t 42)) <|
 .o none (.mv 44 (.t 6)) <|
 .o none (.bin 45 .add false (.t 43) (.t 44)) <|
 .o none (.idx 46 3 (.t 39) (.t 45)) <|
 .o none (.ld 47 3 true (.t 46)) <|
 .o none (.idx 48 3 (.t 31) (.t 37)) <|
 .o none (.st 3 (.t 48) (.t 47)) .nil))) <| .rg (.o none (.bin 49 .add false (.t 27) (.c (.int .i64 1))) <|
 .o none (.mv 27 (.t 49)) .nil))))) <| .rg (.o none (.bin 50 .add false (.t 22) (.c (.int .i64 1))) <|
 .o none (.mv 22 (.t 50)) .nil)))) <| .seq (.rg (.o none (.ld 51 3 true (.t 4)) <| .wk <|
 .o none (.st 3 (.t 2) (.t 51)) <|
 .o none (.mv 3 (.c (.int .i64 0))) .nil)) <| .ret⟩
theorem Q1i : Qf Tryz.prog Tryz.f46 = some c46.strip := by kernel_rfl
def c47 : SFn := ⟨38, [.cell 2 3 true, .t 3], .seq (.rg (.o none (.box 1 3 24 (.t 0)) <|
 .o none (.alloc 2 3 24 (.agg [(.int .i64 0), (.int .i64 0), .nilS])) <|
 .o none (.mv 3 (.c (.int .i64 0))) .nil)) <| .seq (.seq (.rg (.o none (.ld 7 3 true (.t 1)) <|
 .o none (.call (some 8) false (.c (.fn 26 [] [])) [(.t 7)]) <|
 .o none (.un 9 .not (.t 8)) .nil)) <| .cond (.t 9) (.seq (.rg (.o none (.bld 10 [(.int .i64 0), (.int .i64 0), .nilS] []) <|
 .o none (.st 3 (.t 2) (.t 10)) <|
 .o none (.mv 3 (.c (.int .i64 1))) .nil)) <| .ret) (.skip)) <| .seq (.rg (.o none (.fld 11 1 (.t 1)) <|
 .o none (.ld 12 1 false (.t 11)) <|
 .o none (.fld 13 0 (.t 1)) <|
 .o none (.ld 14 1 false (.t 13)) <|
 .o none (.bld 15 [(.int .i64 0), (.int .i64 0), .nilS] [(0, 1, (.t 12)), (1, 1, (.t 14))]) <|
 .o none (.alloc 4 3 24 (.agg [(.int .i64 0), (.int .i64 0), .nilS])) <| .wk <| .wk <|
 .o none (.st 3 (.t 4) (.t 15)) .nil)) <| .seq (.seq (.rg (.o none (.mv 5 (.c (.int .i64 0))) (.wk .nil))) <| .block 0 (.loop (.seq (.seq (.rg (.o none (.mv 16 (.t 5)) <|
 .o none (.fld 17 1 (.t 1)) <|
 .o none (.ld 18 1 false (.t 17)) <|
 .o none (.bin 19 .lss false (.t 16) (.t 18)) .nil)) <| .cond (.t 19) (.skip) (.exit 0)) <| .seq (.block 1 (.seq (.rg (.o none (.mv 6 (.c (.int .i64 0))) .nil)) <| .block 2 (.loop (.seq (.seq (.rg (.o none (.mv 22 (.t 6)) <|
 .o none (.fld 23 0 (.t 1)) <|
 .o none (.ld 24 1 false (.t 23)) <|
 .o none (.bin 25 .lss false (.t 22) (.t 24)) .nil)) <| .cond (.t 25) (.skip) (.exit 2)) <| .seq (.block 3 (.rg (.o none (.fld 28 2 (.t 4)) <|
 .o none (.ld 29 1 false (.t 28)) <|
 .o none (.ld 30 3 true (.t 1)) <|
 .o none (.mv 31 (.t 6)) <|
 .o none (.mv 32 (.t 5)) <|
 .o none (.call (some 33) true (.c (.fn 91 [] [])) [(.t 30), (.t 31), (.t 32)]) <|
 .o none (.bs 34 3 32 [(.t 33)]) <|
 .o none (.app 35 3 56 32 (.t 29) (.t 34)) <|
 .o none (.fld 36 2 (.t 4)) <|
 .o none (.st 1 (.t 36) (.t 35)) .nil))) <| .rg (.o none (.mv 26 (.t 6)) <|
 .o none (.bin 27 .add false (.t 26) (.c (.int .i64 1))) <|
 .o none (.mv 6 (.t 27)) .nil))))) <| .rg (.o none (.mv 20 (.t 5)) <|
 .o none (.bin 21 .add false (.t 20) (.c (.int .i64 1))) <|
 .o none (.mv 5 (.t 21)) .nil)))) <| .seq (.rg (.o none (.ld 37 3 true (.t 4)) <| .wk <|
 .o none (.st 3 (.t 2) (.t 37)) <|
 .o none (.mv 3 (.c (.int .i64 0))) .nil)) <| .ret⟩
theorem Q1j : Qf Tryz.prog Tryz.f47 = some c47.strip := by kernel_rfl
def trF (l : List Rat) (R m : Nat) : Nat -> Rat := fun j => Qaj l m (j % R) (j / R)
def trL (l : List Rat) (R m : Nat) : List Rat := (List.range (m * R)).map (trF l R m)
theorem Qes (l : List Rat) (R m : Nat) : (trL l R m).length = m * R := by simp [trL]
theorem Qaad {R i i' k k' : Nat} (hi : i < R) (hi' : i' < R) (h : k' * R + i' = k * R + i) : k' = k /\ i' = i := by
 have h1 : (k' * R + i') / R = (k * R + i) / R := by rw [h]
 have hR : 0 < R := by omega
 rw [Nat.add_comm, Nat.add_mul_div_right _ _ hR, Nat.add_comm (k * R), Nat.add_mul_div_right _ _ hR, Nat.div_eq_of_lt hi', Nat.div_eq_of_lt hi] at h1
 have h2 : k' = k := by omega
 subst h2
 exact ⟨rfl, by omega⟩
theorem Qnm {R m i k : Nat} (hi : i < R) (hk : k < m) : k * R + i < R * m := by
 have h1 : (k + 1) * R <= m * R := Nat.mul_le_mul_right _ hk
 rw [Nat.add_mul, Nat.one_mul, Nat.mul_comm m R] at h1
 omega
theorem Q1k {l : List Rat} {R m i k : Nat} (hi : i < R) : trF l R m (k * R + i) = Qaj l m i k := by
 have hR : 0 < R := by omega
 unfold trF
 rw [Nat.add_comm, Nat.add_mul_mod_self_right, Nat.mod_eq_of_lt hi, Nat.add_mul_div_right _ _ hR, Nat.div_eq_of_lt hi, Nat.zero_add]
theorem Qoa {R m : Nat} {l : List Rat} (hl : l.length = R * m) (hR2 : R <= 40) (hm : m <= 40) (hs : ∀ q ∈ l, rs q <= 1048576) : Qd Tryz.prog 46 [PV.mat R m l] (· = .tup [PV.mat m R (trL l R m), .int .i64 0]) := by
 have hRm : R * m <= 40 * 40 := Nat.mul_le_mul hR2 hm
 have hmR : m * R = R * m := Nat.mul_comm _ _
 refine Qci Qm Tryz.func46 rfl Q1i (by simp [c46]) fun C hP => ?_; simp only [c46]
 simp +decide (disch := first | omega | rfl | (simp +decide only [go_sem, ↓reduceIte] <;> rfl) | fail) only [go_sem, ↓reduceIte]
 refine Qa hP (Qgr hl hR2 hm hs) rfl rfl rfl ?_
 simp +decide (disch := first | omega | rfl | (simp +decide only [go_sem, ↓reduceIte, hl] <;> rfl) | fail) only [go_sem, ↓reduceIte, hl]
 have hz : ([.agg [.int .i64 0, .int .i64 0, .nilS]] : List PV) ≠ [] := by simp
 have hzd : ∀ x ∈ ([.agg [.int .i64 0, .int .i64 0, .nilS]] : List PV), x.ncells = x.cells := fun x hx => by rw [List.mem_singleton.1 hx]; rfl
 have hmb : rnP (mvN 18 2000002) (.nst 2000001 3 24 [.agg [.int .i64 0, .int .i64 0, .nilS]]) = .nst 2000001 3 24 [.agg [.int .i64 0, .int .i64 0, .nilS]] := by
  simp [rnP, mvN, PV.ncells, PV.cells, rn1, Qc3, Qez, PV.isRefC]
 refine Qcg ?_ ?_
 case' refine_1 =>
  simp +decide (disch := first | omega | rfl | (simp +decide only [go_sem, ↓reduceIte, hl] <;> rfl) | fail) only [go_sem, ↓reduceIte, hl]
  refine Qbp (Qgl 18 2000002 (by simp +decide (disch := first | omega | rfl | (simp +decide only [go_sem, ↓reduceIte] <;> rfl) | fail) only [go_sem, ↓reduceIte] <;> rfl) (by omega) rfl (by omega)) ?_
  simp +decide (disch := first | omega | rfl | (simp +decide only [go_sem, ↓reduceIte, hl] <;> rfl) | fail) only [go_sem, ↓reduceIte, hl]
  refine Qbp (Qgl 4 2000001 (by simp +decide (disch := first | omega | rfl | (simp +decide only [go_sem, ↓reduceIte] <;> rfl) | fail) only [go_sem, ↓reduceIte] <;> rfl) (by omega) rfl (by omega)) ?_
  simp +decide (disch := first | omega | rfl | (simp +decide only [go_sem, ↓reduceIte, hl] <;> rfl) | fail) only [go_sem, ↓reduceIte, hl]
  refine Qbp (Qhp (γ := 2000001) (e := 3) (ty := 24) (fz := false) (by simp +decide (disch := first | omega | rfl | (simp +decide only [go_sem, ↓reduceIte] <;> rfl) | fail) only [go_sem, ↓reduceIte]) hz (by omega) hzd) ?_
  simp +decide (disch := first | omega | rfl | (simp +decide only [go_sem, ↓reduceIte, hl] <;> rfl) | fail) only [go_sem, ↓reduceIte, hl]
 case' refine_2 =>
  simp +decide (disch := first | omega | rfl | (simp +decide only [go_sem, ↓reduceIte, hl] <;> rfl) | fail) only [go_sem, ↓reduceIte, hl]
  refine Qbp (Qgl 4 2000001 (by simp +decide (disch := first | omega | rfl | (simp +decide only [go_sem, ↓reduceIte] <;> rfl) | fail) only [go_sem, ↓reduceIte] <;> rfl) (by omega) rfl (by omega)) ?_
  simp +decide (disch := first | omega | rfl | (simp +decide only [go_sem, ↓reduceIte, hl] <;> rfl) | fail) only [go_sem, ↓reduceIte, hl]
  refine Qbp (Qhp (γ := 2000001) (e := 3) (ty := 24) (fz := false) (by simp +decide (disch := first | omega | rfl | (simp +decide only [go_sem, ↓reduceIte] <;> rfl) | fail) only [go_sem, ↓reduceIte]) hz (by omega) hzd) ?_
  simp +decide (disch := first | omega | rfl | (simp +decide only [go_sem, ↓reduceIte, hl] <;> rfl) | fail) only [go_sem, ↓reduceIte, hl]
  refine Qbp (Qgl 18 2000002 (by simp +decide (disch := first | omega | rfl | (simp +decide only [go_sem, ↓reduceIte] <;> rfl) | fail) only [go_sem, ↓reduceIte] <;> rfl) (by omega) rfl (by omega)) ?_
  simp +decide (disch := first | omega | rfl | (simp +decide only [go_sem, ↓reduceIte, hl, hmb] <;> rfl) | fail) only [go_sem, ↓reduceIte, hl, hmb]
 all_goals
  refine Qbi (by repeat (first | exact Qx | exact Qp | exact Qq | exact Qr | exact Qt | apply Qo | apply Qw | apply Q3 | apply Q9 | apply Qaa | apply Qn | apply Qz)) [(4, 6), (22, 50), (2000001, 2000001)] [] (fun q J hp => ∃ i xs, q = R - i /\ i <= R /\ J 4 = .np 2000001 0 0 /\ J 22 = .int .i64 (i : Nat) /\ J 2000001 = .nst 2000001 3 24 [.rag [.int .i64 (m : Nat), .int .i64 (R : Nat), .mso 2000002 0 (R * m)]] /\
   hp 1 = some ⟨3, 24, [PV.mat R m l], false⟩ /\ hp 2 = some ⟨3, 24, [.agg [.int .i64 0, .int .i64 0, .nilS]], false⟩ /\ hp 2000001 = some ⟨3, 24, [], false⟩ /\ hp 2000002 = some ⟨3, 32, xs, false⟩ /\ xs.length = R * m /\ ∀ i' k', i' < i -> k' < m -> xs[k' * R + i']? = some (PV.rat (Qaj l m i' k'))) R ?_ ?_
  ·refine ⟨0, List.replicate (R * m) (.agg [.bool false, .nilS, .nilS]), rfl, by omega, ?_⟩
   simp +decide (disch := first | omega | rfl | (simp +decide only [go_sem, ↓reduceIte] <;> rfl) | fail) only [go_sem, ↓reduceIte]
   exact ⟨rfl, by simp, fun i' k' h => by omega⟩
  rintro _ J h ⟨i, xs, rfl, hi, j4, j22, jb, h1, h2, hb, hx, hxl, hxs⟩
  simp +decide (disch := first | omega | rfl | (simp +decide only [go_sem, ↓reduceIte, j22] <;> rfl) | fail) only [go_sem, ↓reduceIte, j22]
  refine Qb (fun hc => ?_) (fun hc => ?_)
  ·have hi' : i < R := by omega
   simp +decide (disch := first | omega | rfl | (simp +decide only [go_sem, ↓reduceIte, j4, j22, jb, h1, h2, hb, hx] <;> rfl) | fail) only [go_sem, ↓reduceIte, j4, j22, jb, h1, h2, hb, hx]
   refine Qbi (by repeat (first | exact Qx | exact Qp | exact Qq | exact Qr | exact Qt | apply Qo | apply Qw | apply Q3 | apply Q9 | apply Qaa | apply Qn | apply Qz)) [(4, 4), (6, 6), (27, 49), (2000001, 2000001)] [] (fun q J hp => ∃ k ys, q = m - k /\ k <= m /\ J 4 = .np 2000001 0 0 /\ J 27 = .int .i64 (k : Nat) /\ J 2000001 = .nst 2000001 3 24 [.rag [.int .i64 (m : Nat), .int .i64 (R : Nat), .mso 2000002 0 (R * m)]] /\
    hp 1 = some ⟨3, 24, [PV.mat R m l], false⟩ /\ hp 2 = some ⟨3, 24, [.agg [.int .i64 0, .int .i64 0, .nilS]], false⟩ /\ hp 2000001 = some ⟨3, 24, [], false⟩ /\ hp 2000002 = some ⟨3, 32, ys, false⟩ /\ ys.length = R * m /\ ∀ i' k', i' < R -> (i' < i ∨ (i' = i /\ k' < k)) -> k' < m -> ys[k' * R + i']? = some (PV.rat (Qaj l m i' k'))) m ?_ ?_
   ·refine ⟨0, xs, rfl, by omega, ?_⟩
    simp +decide (disch := first | omega | rfl | (simp +decide only [go_sem, ↓reduceIte, j4, jb, h1, h2, hb, hx] <;> rfl) | fail) only [go_sem, ↓reduceIte, j4, jb, h1, h2, hb, hx]
    exact ⟨rfl, hxl, fun i' k' q1 q2 q3 => hxs i' k' (by omega) q3⟩
   rintro _ J2 g ⟨k, ys, rfl, hk, i4, i27, ib, g1, g2, gb, gx, gxl, gxs⟩
   simp +decide (disch := first | omega | rfl | (simp +decide only [go_sem, ↓reduceIte, i27] <;> rfl) | fail) only [go_sem, ↓reduceIte, i27]
   refine Qb (fun hck => ?_) (fun hck => ?_)
   ·have hk' : k < m := by omega
    have e1 : (k : Int) * (R : Int) = ((k * R : Nat) : Int) := by rw [Int.natCast_mul]
    have e2 : (i : Int) * (m : Int) = ((i * m : Nat) : Int) := by rw [Int.natCast_mul]
    have b1 := Qnm hi' hk'
    have b2 : i * m + k < R * m := by have := Qnm hk' hi'; rw [Nat.mul_comm m R] at this; exact this
    have b3 : k * R <= R * m := by omega
    have b4 : i * m <= R * m := by omega
    have hcell : l[i * m + k] = Qaj l m i k := by
     unfold Qaj
     rw [List.getD_eq_getElem?_getD, List.getElem?_eq_getElem (by omega)]; rfl
    simp +decide (disch := first | omega | rfl | (simp +decide only [go_sem, ↓reduceIte, i4, i27, ib, g1, g2, gb, gx, e1, e2, j22, hcell] <;> rfl) | fail) only [go_sem, ↓reduceIte, i4, i27, ib, g1, g2, gb, gx, e1, e2, j22, hcell]
    rw [Qf2 (n := 3) (xs := ys) (v := PV.rat (Qaj l m i k)) (by omega) rfl rfl]
    simp +decide (disch := first | omega | rfl | (simp +decide only [go_sem, ↓reduceIte, i4, i27] <;> rfl) | fail) only [go_sem, ↓reduceIte, i4, i27]
    refine Qa0 (m - (k + 1)) (by omega) ⟨k + 1, ys.set (k * R + i) (PV.rat (Qaj l m i k)), rfl, by omega, ?_⟩
    simp +decide (disch := first | omega | rfl | (simp +decide only [go_sem, ↓reduceIte, i4, ib, g1, g2, gb] <;> rfl) | fail) only [go_sem, ↓reduceIte, i4, ib, g1, g2, gb]
    refine ⟨by simp [gxl], fun i' k' q1 q2 q3 => ?_⟩
    rw [List.getElem?_set]
    by_cases e : k * R + i = k' * R + i'
    ·obtain ⟨rfl, rfl⟩ := Qaad hi' q1 e.symm
     rw [if_pos rfl, if_pos (by omega)]
    ·rw [if_neg e]
     refine gxs i' k' q1 ?_ q3
     rcases q2 with q2 | ⟨q2, q4⟩
     ·exact .inl q2
     ·refine .inr ⟨q2, ?_⟩
      have : k' ≠ k := fun h => e (by rw [h, q2])
      omega
   ·have hkm : k = m := by omega
    subst hkm
    simp +decide (disch := first | omega | rfl | (simp +decide only [go_sem, ↓reduceIte, j22] <;> rfl) | fail) only [go_sem, ↓reduceIte, j22]
    simp (disch := decide) only [Qb0, Qb4, Qb9, Qce]
    refine Qa0 (R - (i + 1)) (by omega) ⟨i + 1, ys, rfl, by omega, ?_⟩
    simp +decide (disch := first | omega | rfl | (simp +decide only [go_sem, ↓reduceIte, i4, ib, g1, g2, gb, gx] <;> rfl) | fail) only [go_sem, ↓reduceIte, i4, ib, g1, g2, gb, gx]
    exact ⟨gxl, fun i' k' q1 q2 => gxs i' k' (by omega) (by omega) q2⟩
  ·obtain rfl : i = R := by omega
   have hfin : xs = (trL l i m).map PV.rat := by
    refine List.ext_getElem (by rw [List.length_map, Qes]; omega) fun j q1 q2 => ?_
    have hi0 : 0 < i := by
     refine Nat.pos_of_ne_zero fun h => ?_
     subst h; omega
    have hj : j / i < m := by
     rw [Nat.div_lt_iff_lt_mul hi0, hmR]; omega
    have hd := Nat.div_add_mod j i
    have hmod := Nat.mod_lt j hi0
    have := hxs (j % i) (j / i) hmod hj
    rw [Nat.mul_comm, hd, List.getElem?_eq_getElem q1] at this
    rw [Option.some.inj this, List.getElem_map]
    simp [trL, trF]
   rw [hfin] at hx
   simp +decide (disch := first | omega | rfl | (simp +decide only [go_sem, ↓reduceIte, j4, jb, h2, hb, hx] <;> rfl) | fail) only [go_sem, ↓reduceIte, j4, jb, h2, hb, hx]
   refine Qkt 51 2 [2000002] (p := .rag [.int .i64 (m : Nat), .int .i64 (i : Nat), .mso 2000002 0 (i * m)]) (by simp +decide (disch := first | omega | rfl | (simp +decide only [go_sem, ↓reduceIte] <;> rfl) | fail) only [go_sem, ↓reduceIte]) (D := PV.mat m i (trL l i m)) ?_ ?_ rfl ?_
   ·intro c hc
    simp only [List.mem_cons, List.not_mem_nil, or_false] at hc
    rcases hc with rfl | rfl | rfl
    ·trivial
    ·trivial
    ·simp only [okD, isY]; simp
   ·show PV.agg [_, _, dsn _ h 2 (.mso 2000002 0 _)] = _
    simp only [dsn, hx, List.drop_zero]
    rw [List.take_of_length_le (by rw [List.length_map, Qes]; omega)]
   simp +decide (disch := first | omega | rfl | (simp +decide only [go_sem, ↓reduceIte, j4, jb, h2, hb, hx, Qe, List.contains_cons, List.contains_nil, List.flatMap_cons, List.flatMap_nil, List.append_nil] <;> rfl) | fail) only [go_sem, ↓reduceIte, j4, jb, h2, hb, hx, Qe, List.contains_cons, List.contains_nil, List.flatMap_cons, List.flatMap_nil, List.append_nil]
   refine Qb8 (Qb1 ?_)
   simp +decide (disch := first | omega | rfl | (simp +decide only [go_sem, ↓reduceIte, h2, Qe, List.contains_cons, List.contains_nil, List.flatMap_cons, List.flatMap_nil, List.append_nil] <;> rfl) | fail) only [go_sem, ↓reduceIte, h2, Qe, List.contains_cons, List.contains_nil, List.flatMap_cons, List.flatMap_nil, List.append_nil]
   exact Qcc rfl rfl rfl (Qv _) (Qv _)
end Go.Proofs.YtmnkngmmfnncoaaGreat
namespace Go.Proofs.YtmnkngmmfnncoaaGreat
open Go Go.FW
set_option linter.unusedSimpArgs false
set_option linter.unusedVariables false
set_option maxRecDepth 100000
theorem Qx8 {R m i k : Nat} {l : List Rat} (hl : l.length = R * m) (hR : R <= 40) (hm : m <= 40) (hi : i < R) (hk : k < m) (hs : ∀ q ∈ l, rs q <= 1048576) : Qd Tryz.prog 91 [PV.mat R m l, .int .i64 i, .int .i64 k] (· = PV.rat (Qaj l m i k)) := by
 have hRm : R * m <= 40 * 40 := Nat.mul_le_mul hR hm
 have h := Q99 (R := R) (m := m) (i := i) (k := k) (l := l.map qR) ⟨by rw [List.length_map]; omega, RRk.of hs⟩ (by rw [List.length_map]; exact hl) hi hk
 rw [<- Qko] at h
 have b2 : i * m + k < R * m := by have := Qnm hk hi; rw [Nat.mul_comm m R] at this; exact this
 have e : PV.rq ((l.map qR).getD (i * m + k) default) = PV.rat (Qaj l m i k) := by
  unfold Qaj
  rw [List.getD_eq_getElem?_getD, List.getD_eq_getElem?_getD, List.getElem?_map, List.getElem?_eq_getElem (by omega)]
  rfl
 rw [e] at h
 exact h
theorem Qmy {R m : Nat} {l : List Rat} (hl : l.length = R * m) (hR2 : R <= 40) (hm : m <= 40) (hs : ∀ q ∈ l, rs q <= 1048576) : Qd Tryz.prog 47 [PV.mat R m l] (· = .tup [PV.mat m R (trL l R m), .int .i64 0]) := by
 have hRm : R * m <= 40 * 40 := Nat.mul_le_mul hR2 hm
 have hmR : m * R = R * m := Nat.mul_comm _ _
 have hz : ([.agg [.int .i64 0, .int .i64 0, .nilS]] : List PV) ≠ [] := by simp
 have hzd : ∀ x ∈ ([.agg [.int .i64 0, .int .i64 0, .nilS]] : List PV), x.ncells = x.cells := fun x hx => by rw [List.mem_singleton.1 hx]; rfl
 refine Qci Qm Tryz.func47 rfl Q1j (by simp [c47]) fun C hP => ?_; simp only [c47]
 simp +decide (disch := first | omega | rfl | (simp +decide only [go_sem, ↓reduceIte] <;> rfl) | fail) only [go_sem, ↓reduceIte]
 refine Qa hP (Qj3 hl hR2 hm hs) rfl rfl rfl ?_
 simp +decide (disch := first | omega | rfl | (simp +decide only [go_sem, ↓reduceIte, hl] <;> rfl) | fail) only [go_sem, ↓reduceIte, hl]
 refine Qbp (Qgl 4 2000001 (by simp +decide (disch := first | omega | rfl | (simp +decide only [go_sem, ↓reduceIte] <;> rfl) | fail) only [go_sem, ↓reduceIte] <;> rfl) (by omega) rfl (by omega)) ?_
 simp +decide (disch := first | omega | rfl | (simp +decide only [go_sem, ↓reduceIte, hl] <;> rfl) | fail) only [go_sem, ↓reduceIte, hl]
 refine Qbp (Qhp (γ := 2000001) (e := 3) (ty := 24) (fz := false) (by simp +decide (disch := first | omega | rfl | (simp +decide only [go_sem, ↓reduceIte] <;> rfl) | fail) only [go_sem, ↓reduceIte]) hz (by omega) hzd) ?_
 simp +decide (disch := first | omega | rfl | (simp +decide only [go_sem, ↓reduceIte] <;> rfl) | fail) only [go_sem, ↓reduceIte]
 refine Qbp (Qlz (γ := 2000001) (e := 3) (ty := 24) (cs := [.int .i64 (m : Nat), .int .i64 (R : Nat), .nilS]) (cs' := [.int .i64 (m : Nat), .int .i64 (R : Nat), .mso 2000002 0 0]) 2000002 3 32 (by simp +decide (disch := first | omega | rfl | (simp +decide only [go_sem, ↓reduceIte] <;> rfl) | fail) only [go_sem, ↓reduceIte]) (by simp +decide (disch := first | omega | rfl | (simp +decide only [go_sem, ↓reduceIte] <;> rfl) | fail) only [go_sem, ↓reduceIte] <;> rfl) (by omega) (by omega) rfl (by simp)) ?_
 simp +decide (disch := first | omega | rfl | (simp +decide only [go_sem, ↓reduceIte] <;> rfl) | fail) only [go_sem, ↓reduceIte]
 refine Qbi (by repeat (first | exact Qx | exact Qp | exact Qq | exact Qr | exact Qt | apply Qo | apply Qw | apply Q3 | apply Q9 | apply Qaa | apply Qn | apply Qz)) [(4, 6), (16, 36), (2000001, 2000001)] [34, 35] (fun q J hp => ∃ k, q = m - k /\ k <= m /\ J 4 = .np 2000001 0 0 /\ J 5 = .int .i64 (k : Nat) /\ J 2000001 = .nst 2000001 3 24 [.rag [.int .i64 (m : Nat), .int .i64 (R : Nat), .mso 2000002 0 (k * R)]] /\
  hp 1 = some ⟨3, 24, [PV.mat R m l], false⟩ /\ hp 2 = some ⟨3, 24, [.agg [.int .i64 0, .int .i64 0, .nilS]], false⟩ /\ hp 2000001 = some ⟨3, 24, [], false⟩ /\ hp 2000002 = some ⟨3, 32, ((List.range (k * R)).map (trF l R m)).map PV.rat, false⟩) m ?_ ?_
 ·refine ⟨0, rfl, by omega, ?_⟩
  simp +decide (disch := first | omega | rfl | (simp +decide only [go_sem, ↓reduceIte, Nat.zero_mul] <;> rfl) | fail) only [go_sem, ↓reduceIte, Nat.zero_mul]
  exact ⟨rfl, rfl⟩
 rintro _ J h ⟨k, rfl, hk, j4, j5, jb, h1, h2, hb, hx⟩
 simp +decide (disch := first | omega | rfl | (simp +decide only [go_sem, ↓reduceIte, j4, j5, h1] <;> rfl) | fail) only [go_sem, ↓reduceIte, j4, j5, h1]
 refine Qb (fun hc => ?_) (fun hc => ?_)
 ·have hk' : k < m := by omega
  have hkR : k * R + R <= R * m := by
   have := Nat.mul_le_mul_right R hk'
   rw [Nat.succ_mul, hmR] at this; exact this
  simp +decide (disch := first | omega | rfl | (simp +decide only [go_sem, ↓reduceIte, j4, j5, jb, h1, h2, hb, hx] <;> rfl) | fail) only [go_sem, ↓reduceIte, j4, j5, jb, h1, h2, hb, hx]
  refine Qbi (by repeat (first | exact Qx | exact Qp | exact Qq | exact Qr | exact Qt | apply Qo | apply Qw | apply Q3 | apply Q9 | apply Qaa | apply Qn | apply Qz)) [(4, 4), (6, 6), (22, 36), (2000001, 2000001)] [34, 35] (fun q J hp => ∃ i, q = R - i /\ i <= R /\ J 4 = .np 2000001 0 0 /\ J 6 = .int .i64 (i : Nat) /\ J 2000001 = .nst 2000001 3 24 [.rag [.int .i64 (m : Nat), .int .i64 (R : Nat), .mso 2000002 0 (k * R + i)]] /\
   hp 1 = some ⟨3, 24, [PV.mat R m l], false⟩ /\ hp 2 = some ⟨3, 24, [.agg [.int .i64 0, .int .i64 0, .nilS]], false⟩ /\ hp 2000001 = some ⟨3, 24, [], false⟩ /\ hp 2000002 = some ⟨3, 32, ((List.range (k * R + i)).map (trF l R m)).map PV.rat, false⟩) R ?_ ?_
  ·refine ⟨0, rfl, by omega, ?_⟩
   simp +decide (disch := first | omega | rfl | (simp +decide only [go_sem, ↓reduceIte, j4, jb, h1, h2, hb, hx] <;> rfl) | fail) only [go_sem, ↓reduceIte, j4, jb, h1, h2, hb, hx]
   rfl
  rintro _ J2 g ⟨i, rfl, hi, i4, i6, ib, g1, g2, gb, gx⟩
  simp +decide (disch := first | omega | rfl | (simp +decide only [go_sem, ↓reduceIte, i4, i6, g1] <;> rfl) | fail) only [go_sem, ↓reduceIte, i4, i6, g1]
  refine Qb (fun hci => ?_) (fun hci => ?_)
  ·have hi' : i < R := by omega
   have hct := Q1k (l := l) (m := m) (k := k) hi'
   simp +decide (disch := first | omega | rfl | (simp +decide only [go_sem, ↓reduceIte, i4, i6, ib, g1, g2, gb, gx, j5] <;> rfl) | fail) only [go_sem, ↓reduceIte, i4, i6, ib, g1, g2, gb, gx, j5]
   refine Qa hP (Qx8 hl hR2 hm hi' hk' hs) rfl rfl rfl ?_
   simp +decide (disch := first | omega | rfl | (simp +decide only [go_sem, ↓reduceIte, i4, i6, ib, g1, g2, gb, gx, j5] <;> rfl) | fail) only [go_sem, ↓reduceIte, i4, i6, ib, g1, g2, gb, gx, j5]
   rw [Qha (f := PV.rat) (y := Qaj l m i k) (xs := (List.range (k * R + i)).map (trF l R m)) (ty' := 32) (fz := false) (by simp +decide (disch := first | omega | rfl | (simp +decide only [go_sem, ↓reduceIte, gx] <;> rfl) | fail) only [go_sem, ↓reduceIte, gx]) (by simp +decide (disch := first | omega | rfl | (simp +decide only [go_sem, ↓reduceIte] <;> rfl) | fail) only [go_sem, ↓reduceIte]) (by omega) (by simp) (by omega) (by omega) (by omega)]
   simp +decide (disch := first | omega | rfl | (simp +decide only [go_sem, ↓reduceIte, i4, i6, ib, g1, g2, gb, gx, j5] <;> rfl) | fail) only [go_sem, ↓reduceIte, i4, i6, ib, g1, g2, gb, gx, j5]
   refine Qa0 (R - (i + 1)) (by omega) ⟨i + 1, rfl, by omega, ?_⟩
   simp +decide (disch := first | omega | rfl | (simp +decide only [go_sem, ↓reduceIte, i4, ib, g1, g2, gb] <;> rfl) | fail) only [go_sem, ↓reduceIte, i4, ib, g1, g2, gb]
   rw [<- Nat.add_assoc, List.range_succ]
   exact ⟨rfl, Qlv (by simp [hct])⟩
  ·have hiR : i = R := by omega
   subst hiR
   simp +decide (disch := first | omega | rfl | (simp +decide only [go_sem, ↓reduceIte, j5] <;> rfl) | fail) only [go_sem, ↓reduceIte, j5]
   simp (disch := decide) only [Qb0, Qb4, Qb9, Qce]
   refine Qa0 (m - (k + 1)) (by omega) ⟨k + 1, rfl, by omega, ?_⟩
   rw [show (k + 1) * i = k * i + i from Nat.succ_mul _ _]
   simp +decide (disch := first | omega | rfl | (simp +decide only [go_sem, ↓reduceIte, i4, ib, g1, g2, gb, gx] <;> rfl) | fail) only [go_sem, ↓reduceIte, i4, ib, g1, g2, gb, gx]
 ·obtain rfl : k = m := by omega
  rw [show (List.range (k * R)).map (trF l R k) = trL l R k from rfl] at hx
  simp +decide (disch := first | omega | rfl | (simp +decide only [go_sem, ↓reduceIte, j4, jb, h2, hb, hx] <;> rfl) | fail) only [go_sem, ↓reduceIte, j4, jb, h2, hb, hx]
  refine Qkt 37 2 [2000002] (p := .rag [.int .i64 (k : Nat), .int .i64 (R : Nat), .mso 2000002 0 (k * R)]) (by simp +decide (disch := first | omega | rfl | (simp +decide only [go_sem, ↓reduceIte] <;> rfl) | fail) only [go_sem, ↓reduceIte]) (D := PV.mat k R (trL l R k)) ?_ ?_ rfl ?_
  ·intro c hc
   simp only [List.mem_cons, List.not_mem_nil, or_false] at hc
   rcases hc with rfl | rfl | rfl
   ·trivial
   ·trivial
   ·simp only [okD, isY]; simp
  ·show PV.agg [_, _, dsn _ h 2 (.mso 2000002 0 _)] = _
   simp only [dsn, hx, List.drop_zero]
   rw [List.take_of_length_le (by rw [List.length_map, Qes]; omega)]
  simp +decide (disch := first | omega | rfl | (simp +decide only [go_sem, ↓reduceIte, j4, jb, h2, hb, hx, Qe, List.contains_cons, List.contains_nil, List.flatMap_cons, List.flatMap_nil, List.append_nil] <;> rfl) | fail) only [go_sem, ↓reduceIte, j4, jb, h2, hb, hx, Qe, List.contains_cons, List.contains_nil, List.flatMap_cons, List.flatMap_nil, List.append_nil]
  refine Qb8 (Qb1 ?_)
  simp +decide (disch := first | omega | rfl | (simp +decide only [go_sem, ↓reduceIte, h2, Qe, List.contains_cons, List.contains_nil, List.flatMap_cons, List.flatMap_nil, List.append_nil] <;> rfl) | fail) only [go_sem, ↓reduceIte, h2, Qe, List.contains_cons, List.contains_nil, List.flatMap_cons, List.flatMap_nil, List.append_nil]
  exact Qcc rfl rfl rfl (Qv _) (Qv _)
end Go.Proofs.YtmnkngmmfnncoaaGreat
namespace Go.Proofs.YtmnkngmmfnncoaaGreat
open Go Go.FW
set_option linter.unusedSimpArgs false
set_option linter.unusedVariables false
set_option maxRecDepth 100000
def c48 : SFn := ⟨63, [.cell 4 3 true, .t 5], .seq (.rg (.o none (.box 2 3 24 (.t 0)) <|
 .o none (.box 3 3 24 (.t 1)) <|
 .o none (.alloc 4 3 24 (.agg [(.int .i64 0), (.int .i64 0), .nilS])) <|
 .o none (.mv 5 (.c (.int .i64 0))) .nil)) <| .seq (.seq (.rg (.o none (.ld 13 3 true (.t 2)) <|
 .o none (.call (some 14) false (.c (.fn 25 [] [])) [(.t 13)]) <|
 .o none (.un 15 .not (.t 14)) <|
 .o none (.mv 16 (.t 15)) <|
 .o (some (16, false)) (.ld 17 3 true (.t 3)) <|
 .o (some (16, false)) (.call (some 18) false (.c (.fn 25 [] [])) [(.t 17)]) <|
 .o (some (16, false)) (.un 19 .not (.t 18)) <|
 .o none (.pick 20 (.t 16) (.c (.bool true)) (.t 19)) .nil)) <| .cond (.t 20) (.seq (.rg (.o none (.bld 21 [(.int .i64 0), (.int .i64 0), .nilS] []) <|
 .o none (.st 3 (.t 4) (.t 21)) <|
 .o none (.mv 5 (.c (.int .i64 1))) .nil)) <| .ret) (.skip)) <| .seq (.seq (.rg (.o none (.fld 22 1 (.t 2)) <|
 .o none (.ld 23 1 false (.t 22)) <|
 .o none (.fld 24 0 (.t 3)) <|
 .o none (.ld 25 1 false (.t 24)) <|
 .o none (.bin 26 .neq false (.t 23) (.t 25)) .nil)) <| .cond (.t 26) (.seq (.rg (.o none (.bld 27 [(.int .i64 0), (.int .i64 0), .nilS] []) <|
 .o none (.st 3 (.t 4) (.t 27)) <|
 .o none (.mv 5 (.c (.int .i64 16))) .nil)) <| .ret) (.skip)) <| .seq (.rg (.o none (.ld 29 3 true (.t 3)) <|
 .o none (.call (some 30) false (.c (.fn 46 [] [])) [(.t 29)]) <|
 .o none (.mv 28 (.t 30)) <|
 .o none (.ext 31 (.t 28) 0) <|
 .o none (.ext 32 (.t 28) 1) <|
 .o none (.alloc 6 3 24 (.agg [(.int .i64 0), (.int .i64 0), .nilS])) <|
 .o none (.st 3 (.t 6) (.t 31)) <|
 .o none (.mv 7 (.t 32)) .nil)) <| .seq (.rg (.o none (.fld 33 0 (.t 2)) <|
 .o none (.ld 34 1 false (.t 33)) <|
 .o none (.fld 35 1 (.t 3)) <|
 .o none (.ld 36 1 false (.t 35)) <|
 .o none (.bld 37 [(.int .i64 0), (.int .i64 0), .nilS] [(0, 1, (.t 34)), (1, 1, (.t 36))]) <|
 .o none (.alloc 8 3 24 (.agg [(.int .i64 0), (.int .i64 0), .nilS])) <| .wk <| .wk <|
 .o none (.st 3 (.t 8) (.t 37)) .nil)) <| .seq (.seq (.rg (.o none (.ld 38 3 true (.t 2)) <| .wk <|
 .o none (.call (some 39) false (.c (.fn 78 [] [])) [(.t 38)]) <|
 .o none (.len 40 (.t 39)) <|
 .o none (.mv 41 (.c (.int .i64 0))) .nil)) <| .block 0 (.loop (.seq (.rg (.o none (.bin 42 .lss false (.t 41) (.t 40)) .nil)) <| .seq (.cond (.t 42) (.skip) (.exit 0)) <| .seq (.block 1 (.seq (.rg (.o none (.idx 43 1 (.t 39) (.t 41)) <|
 .o none (.ld 44 1 false (.t 43)) <|
 .o none (.mv 10 (.t 44)) .nil)) <| .seq (.rg (.o none (.ld 45 3 true (.t 6)) <|
 .o none (.call (some 46) false (.c (.fn 78 [] [])) [(.t 45)]) <|
 .o none (.len 47 (.t 46)) <|
 .o none (.mv 48 (.c (.int .i64 0))) .nil)) <| .block 2 (.loop (.seq (.rg (.o none (.bin 49 .lss false (.t 48) (.t 47)) .nil)) <| .seq (.cond (.t 49) (.skip) (.exit 2)) <| .seq (.block 3 (.seq (.rg (.o none (.idx 50 1 (.t 46) (.t 48)) <|
 .o none (.ld 51 1 false (.t 50)) <|
 .o none (.mv 12 (.t 51)) .nil)) <| .rg (.o none (.fld 52 2 (.t 8)) <|
 .o none (.ld 53 1 false (.t 52)) <|
 .o none (.mv 54 (.t 10)) <|
 .o none (.mv 55 (.t 12)) <|
 .o none (.call (some 56) true (.c (.fn 100 [] [])) [(.t 54), (.t 55)]) <|
 .o none (.bs 57 3 32 [(.t 56)]) <|
 .o none (.app 58 3 56 32 (.t 53) (.t 57)) <|
 .o none (.fld 59 2 (.t 8)) <|
 .o none (.st 1 (.t 59) (.t 58)) .nil))) <| .rg (.o none (.bin 60 .add false (.t 48) (.c (.int .i64 1))) <|
 .o none (.mv 48 (.t 60)) .nil))))) <| .rg (.o none (.bin 61 .add false (.t 41) (.c (.int .i64 1))) <|
 .o none (.mv 41 (.t 61)) .nil)))) <| .seq (.rg (.o none (.ld 62 3 true (.t 8)) <| .wk <|
 .o none (.st 3 (.t 4) (.t 62)) <|
 .o none (.mv 5 (.c (.int .i64 0))) .nil)) <| .ret⟩
theorem Qur : Qf Tryz.prog Tryz.f48 = some c48.strip := by kernel_rfl
def c49 : SFn := ⟨61, [.cell 4 3 true, .t 5], .seq (.rg (.o none (.box 2 3 24 (.t 0)) <|
 .o none (.box 3 3 24 (.t 1)) <|
 .o none (.alloc 4 3 24 (.agg [(.int .i64 0), (.int .i64 0), .nilS])) <|
 .o none (.mv 5 (.c (.int .i64 0))) .nil)) <| .seq (.seq (.rg (.o none (.ld 11 3 true (.t 2)) <|
 .o none (.call (some 12) false (.c (.fn 26 [] [])) [(.t 11)]) <|
 .o none (.un 13 .not (.t 12)) <|
 .o none (.mv 14 (.t 13)) <|
 .o (some (14, false)) (.ld 15 3 true (.t 3)) <|
 .o (some (14, false)) (.call (some 16) false (.c (.fn 26 [] [])) [(.t 15)]) <|
 .o (some (14, false)) (.un 17 .not (.t 16)) <|
 .o none (.pick 18 (.t 14) (.c (.bool true)) (.t 17)) .nil)) <| .cond (.t 18) (.seq (.rg (.o none (.bld 19 [(.int .i64 0), (.int .i64 0), .nilS] []) <|
 .o none (.st 3 (.t 4) (.t 19)) <|
 .o none (.mv 5 (.c (.int .i64 1))) .nil)) <| .ret) (.skip)) <| .seq (.seq (.rg (.o none (.fld 20 1 (.t 2)) <|
 .o none (.ld 21 1 false (.t 20)) <|
 .o none (.fld 22 0 (.t 3)) <|
 .o none (.ld 23 1 false (.t 22)) <|
 .o none (.bin 24 .neq false (.t 21) (.t 23)) .nil)) <| .cond (.t 24) (.seq (.rg (.o none (.bld 25 [(.int .i64 0), (.int .i64 0), .nilS] []) <|
 .o none (.st 3 (.t 4) (.t 25)) <|
 .o none (.mv 5 (.c (.int .i64 16))) .nil)) <| .ret) (.skip)) <| .seq (.rg (.o none (.ld 27 3 true (.t 3)) <|
 .o none (.call (some 28) false (.c (.fn 47 [] [])) [(.t 27)]) <|
 .o none (.mv 26 (.t 28)) <|
 .o none (.ext 29 (.t 26) 0) <|
 .o none (.ext 30 (.t 26) 1) <|
 .o none (.alloc 6 3 24 (.agg [(.int .i64 0), (.int .i64 0), .nilS])) <|
 .o none (.st 3 (.t 6) (.t 29)) <|
 .o none (.mv 7 (.t 30)) .nil)) <| .seq (.rg (.o none (.fld 31 0 (.t 2)) <|
 .o none (.ld 32 1 false (.t 31)) <|
 .o none (.fld 33 1 (.t 3)) <|
 .o none (.ld 34 1 false (.t 33)) <|
 .o none (.bld 35 [(.int .i64 0), (.int .i64 0), .nilS] [(0, 1, (.t 32)), (1, 1, (.t 34))]) <|
 .o none (.alloc 8 3 24 (.agg [(.int .i64 0), (.int .i64 0), .nilS])) <| .wk <| .wk <|
 .o none (.st 3 (.t 8) (.t 35)) .nil)) <| .seq (.seq (.rg (.o none (.mv 9 (.c (.int .i64 0))) (.wk .nil))) <| .block 0 (.loop (.seq (.seq (.rg (.o none (.mv 36 (.t 9)) <|
 .o none (.fld 37 0 (.t 2)) <|
 .o none (.ld 38 1 false (.t 37)) <|
 .o none (.bin 39 .lss false (.t 36) (.t 38)) .nil)) <| .cond (.t 39) (.skip) (.exit 0)) <| .seq (.block 1 (.seq (.rg (.o none (.mv 10 (.c (.int .i64 0))) .nil)) <| .block 2 (.loop (.seq (.seq (.rg (.o none (.mv 42 (.t 10)) <|
 .o none (.fld 43 1 (.t 3)) <|
 .o none (.ld 44 1 false (.t 43)) <|
 .o none (.bin 45 .lss false (.t 42) (.t 44)) .nil)) <| .cond (.t 45) (.skip) (.exit 2)) <| .seq (.block 3 (.rg (.o none (.fld 48 2 (.t 8)) <|
 .o none (.ld 49 1 false (.t 48)) <|
 .o none (.ld 50 3 true (.t 2)) <|
 .o none (.mv 51 (.t 9)) <|
 .o none (.ld 53 3 true (.t 6)) <|
 .o none (.mv 54 (.t 10)) <|
 .o none (.call (some 52) true (.c (.fn 103 [] [])) [(.t 50), (.t 51)]) <|
 .o none (.call (some 55) true (.c (.fn 103 [] [])) [(.t 53), (.t 54)]) <|
 .o none (.call (some 56) true (.c (.fn 102 [] [])) [(.t 52), (.t 55)]) <|
 .o none (.bs 57 3 32 [(.t 56)]) <|
 .o none (.app 58 3 56 32 (.t 49) (.t 57)) <|
 .o none (.fld 59 2 (.t 8)) <|
 .o none (.st 1 (.t 59) (.t 58)) .nil))) <| .rg (.o none (.mv 46 (.t 10)) <|
 .o none (.bin 47 .add false (.t 46) (.c (.int .i64 1))) <|
 .o none (.mv 10 (.t 47)) .nil))))) <| .rg (.o none (.mv 40 (.t 9)) <|
 .o none (.bin 41 .add false (.t 40) (.c (.int .i64 1))) <|
 .o none (.mv 9 (.t 41)) .nil)))) <| .seq (.rg (.o none (.ld 60 3 true (.t 8)) <| .wk <|
 .o none (.st 3 (.t 4) (.t 60)) <|
 .o none (.mv 5 (.c (.int .i64 0))) .nil)) <| .ret⟩
theorem Qus : Qf Tryz.prog Tryz.f49 = some c49.strip := by kernel_rfl
def Qf0 (a b : MF) (m n : Nat) : Nat -> Rat := fun j => Qdj (a (j / n)) (fun c => b c (j % n)) m
def Qi0 (a b : List Rat) (R m n : Nat) : List Rat := (List.range (R * n)).map (Qf0 (Qaj a m) (Qaj b n) m n)
theorem Qhd (a b : List Rat) (R m n : Nat) : (Qi0 a b R m n).length = R * n := by simp [Qi0]
theorem Qwh {a b : MF} {m n i k : Nat} (hk : k < n) : Qf0 a b m n (i * n + k) = Qdj (a i) (fun c => b c k) m := by
 have hn : 0 < n := by omega
 unfold Qf0
 rw [Nat.add_comm, Nat.add_mul_mod_self_right, Nat.mod_eq_of_lt hk, Nat.add_mul_div_right _ _ hn, Nat.div_eq_of_lt hk, Nat.zero_add]
theorem Qut {l : List Rat} {R m r c : Nat} (hr : r < m) (hc : c < R) : Qaj (trL l R m) R r c = Qaj l m c r := by
 have h := Qnm hc hr
 rw [Nat.mul_comm R m] at h
 have e : Qaj (trL l R m) R r c = trF l R m (r * R + c) := by
  unfold Qaj trL
  rw [List.getD_eq_getElem?_getD, List.getElem?_eq_getElem (by simpa using h)]
  simp
 rw [e, Q1k hc]
theorem Quu {l : List Rat} {R m k : Nat} (hk : 1 <= k) (hs : ∀ q ∈ l, rs q <= k) : ∀ q ∈ trL l R m, rs q <= k := fun q hq => by
 obtain ⟨j, _, rfl⟩ := List.mem_map.1 hq
 exact Qg2 hk hs
theorem Ql1 {x y x' y' : Nat -> Rat} : ∀ n, (∀ i, i < n -> x i = x' i /\ y i = y' i) -> Qdj x y n = Qdj x' y' n
 | 0, _ => rfl
 | n + 1, h => by
  simp only [Qdj]
  rw [Ql1 n fun i hi => h i (by omega), (h n (by omega)).1, (h n (by omega)).2]
theorem Qadi {R m n : Nat} {a b : List Rat} (ha : a.length = R * m) (hb : b.length = m * n) (hR : R <= 40) (hm : m <= 40) (hn : n <= 40) (hsa : ∀ q ∈ a, rs q <= 1048576) (hsb : ∀ q ∈ b, rs q <= 1048576) : Qd Tryz.prog 49 [PV.mat R m a, PV.mat m n b] (· = .tup [PV.mat R n (Qi0 a b R m n), .int .i64 0]) := by
 have hRn : R * n <= 40 * 40 := Nat.mul_le_mul hR hn
 have hz : ([.agg [.int .i64 0, .int .i64 0, .nilS]] : List PV) ≠ [] := by simp
 have hzd : ∀ x ∈ ([.agg [.int .i64 0, .int .i64 0, .nilS]] : List PV), x.ncells = x.cells := fun x hx => by rw [List.mem_singleton.1 hx]; rfl
 have q1 := Qj3 ha hR hm hsa
 have q2 := Qj3 hb hm hn hsb
 have q3 := Qmy hb hm hn hsb
 refine Qci Qm Tryz.func49 rfl Qus (by simp [c49]) fun C hP => ?_; simp only [c49]
 simp +decide (disch := first | omega | rfl | (simp +decide only [go_sem, ↓reduceIte] <;> rfl) | fail) only [go_sem, ↓reduceIte]
 repeat' first
  | refine Qcg ?_ ?_
  | refine Qa hP q1 rfl rfl rfl ?_
  | refine Qa hP q2 rfl rfl rfl ?_
  | refine Qa hP q3 rfl rfl rfl ?_
  | simp +decide (disch := first | omega | rfl | (simp +decide only [go_sem, ↓reduceIte] <;> rfl) | fail) only [go_sem, ↓reduceIte]
 refine Qbp (Qgl 8 2000001 (by simp +decide (disch := first | omega | rfl | (simp +decide only [go_sem, ↓reduceIte] <;> rfl) | fail) only [go_sem, ↓reduceIte] <;> rfl) (by omega) rfl (by omega)) ?_
 refine Qbp (Qhp (γ := 2000001) (e := 3) (ty := 24) (fz := false) (by simp +decide (disch := first | omega | rfl | (simp +decide only [go_sem, ↓reduceIte] <;> rfl) | fail) only [go_sem, ↓reduceIte]) hz (by omega) hzd) ?_
 simp +decide (disch := first | omega | rfl | (simp +decide only [go_sem, ↓reduceIte] <;> rfl) | fail) only [go_sem, ↓reduceIte]
 refine Qbp (Qlz (γ := 2000001) (e := 3) (ty := 24) (cs := [.int .i64 (R : Nat), .int .i64 (n : Nat), .nilS]) (cs' := [.int .i64 (R : Nat), .int .i64 (n : Nat), .mso 2000002 0 0]) 2000002 3 32 (by simp +decide (disch := first | omega | rfl | (simp +decide only [go_sem, ↓reduceIte] <;> rfl) | fail) only [go_sem, ↓reduceIte]) (by simp +decide (disch := first | omega | rfl | (simp +decide only [go_sem, ↓reduceIte] <;> rfl) | fail) only [go_sem, ↓reduceIte] <;> rfl) (by omega) (by omega) rfl (by simp)) ?_
 simp +decide (disch := first | omega | rfl | (simp +decide only [go_sem, ↓reduceIte] <;> rfl) | fail) only [go_sem, ↓reduceIte]
 obtain ⟨A, hA⟩ : ∃ A, Qaj a m = A := ⟨_, rfl⟩
 obtain ⟨B, hB⟩ : ∃ B, Qaj b n = B := ⟨_, rfl⟩
 refine Qbi (by repeat (first | exact Qx | exact Qp | exact Qq | exact Qr | exact Qt | apply Qo | apply Qw | apply Q3 | apply Q9 | apply Qaa | apply Qn | apply Qz)) [(8, 10), (36, 59), (2000001, 2000001)] [57, 58] (fun q J hp => ∃ i, q = R - i /\ i <= R /\ J 8 = .np 2000001 0 0 /\ J 9 = .int .i64 (i : Nat) /\ J 2000001 = .nst 2000001 3 24 [.rag [.int .i64 (R : Nat), .int .i64 (n : Nat), .mso 2000002 0 (i * n)]] /\
  hp 2 = some ⟨3, 24, [PV.mat R m a], false⟩ /\ hp 3 = some ⟨3, 24, [PV.mat m n b], false⟩ /\ hp 6 = some ⟨3, 24, [PV.mat n m (trL b m n)], false⟩ /\ hp 4 = some ⟨3, 24, [.agg [.int .i64 0, .int .i64 0, .nilS]], false⟩ /\ hp 2000001 = some ⟨3, 24, [], false⟩ /\ hp 2000002 = some ⟨3, 32, ((List.range (i * n)).map (Qf0 A B m n)).map PV.rat, false⟩) R ?_ ?_
 ·refine ⟨0, rfl, by omega, ?_⟩
  simp +decide (disch := first | omega | rfl | (simp +decide only [go_sem, ↓reduceIte, Nat.zero_mul] <;> rfl) | fail) only [go_sem, ↓reduceIte, Nat.zero_mul]
  exact ⟨rfl, rfl⟩
 rintro _ J h ⟨i, rfl, hi, j8, j9, jb, h2, h3, h6, h4, hb', hx⟩
 simp +decide (disch := first | omega | rfl | (simp +decide only [go_sem, ↓reduceIte, j8, j9, h2] <;> rfl) | fail) only [go_sem, ↓reduceIte, j8, j9, h2]
 refine Qb (fun hc => ?_) (fun hc => ?_)
 ·have hi' : i < R := by omega
  have hin : i * n + n <= R * n := by
   have := Nat.mul_le_mul_right n hi'
   rw [Nat.succ_mul] at this; exact this
  have r1 := Q1f ha hi' hR hm
  rw [hA] at r1
  simp +decide (disch := first | omega | rfl | (simp +decide only [go_sem, ↓reduceIte, j8, j9, jb, h2, h3, h6, h4, hb', hx] <;> rfl) | fail) only [go_sem, ↓reduceIte, j8, j9, jb, h2, h3, h6, h4, hb', hx]
  refine Qbi (by repeat (first | exact Qx | exact Qp | exact Qq | exact Qr | exact Qt | apply Qo | apply Qw | apply Q3 | apply Q9 | apply Qaa | apply Qn | apply Qz)) [(8, 8), (10, 10), (42, 59), (2000001, 2000001)] [57, 58] (fun q J hp => ∃ k, q = n - k /\ k <= n /\ J 8 = .np 2000001 0 0 /\ J 10 = .int .i64 (k : Nat) /\ J 2000001 = .nst 2000001 3 24 [.rag [.int .i64 (R : Nat), .int .i64 (n : Nat), .mso 2000002 0 (i * n + k)]] /\
   hp 2 = some ⟨3, 24, [PV.mat R m a], false⟩ /\ hp 3 = some ⟨3, 24, [PV.mat m n b], false⟩ /\ hp 6 = some ⟨3, 24, [PV.mat n m (trL b m n)], false⟩ /\ hp 4 = some ⟨3, 24, [.agg [.int .i64 0, .int .i64 0, .nilS]], false⟩ /\ hp 2000001 = some ⟨3, 24, [], false⟩ /\ hp 2000002 = some ⟨3, 32, ((List.range (i * n + k)).map (Qf0 A B m n)).map PV.rat, false⟩) n ?_ ?_
  ·refine ⟨0, rfl, by omega, ?_⟩
   simp +decide (disch := first | omega | rfl | (simp +decide only [go_sem, ↓reduceIte, j8, jb, h2, h3, h6, h4, hb', hx] <;> rfl) | fail) only [go_sem, ↓reduceIte, j8, jb, h2, h3, h6, h4, hb', hx]
   rfl
  rintro _ J2 g ⟨k, rfl, hk, i8, i10, ib, g2, g3, g6, g4, gb, gx⟩
  simp +decide (disch := first | omega | rfl | (simp +decide only [go_sem, ↓reduceIte, i8, i10, g3] <;> rfl) | fail) only [go_sem, ↓reduceIte, i8, i10, g3]
  refine Qb (fun hck => ?_) (fun hck => ?_)
  ·have hk' : k < n := by omega
   have r2 := Q1f (l := trL b m n) (Qes b m n) hk' hn hm
   have hd : Qdj (A i) (Qaj (trL b m n) m k) m = Qf0 A B m n (i * n + k) := by
    rw [Qwh hk', <- hA, <- hB]
    exact Ql1 m fun c hc => ⟨rfl, Qut hk' hc⟩
   have r3 := Qada (x := A i) (y := Qaj (trL b m n) m k) (w := m) (k := 1048576) (by omega) (fun c _ => by rw [<- hA]; exact Qg2 (by omega) hsa) (fun c _ => Qg2 (by omega) (Quu (by omega) hsb)) (by omega)
   rw [hd] at r3
   repeat' first
    | refine Qcg ?_ ?_
    | refine Qa hP r1 rfl rfl rfl ?_
    | refine Qa hP r2 rfl rfl rfl ?_
    | refine Qa hP r3 rfl rfl rfl ?_
    | simp +decide (disch := first | omega | rfl | (simp +decide only [go_sem, ↓reduceIte, i8, i10, ib, g2, g3, g6, g4, gb, gx, j9] <;> rfl) | fail) only [go_sem, ↓reduceIte, i8, i10, ib, g2, g3, g6, g4, gb, gx, j9]
   all_goals
    rw [Qha (f := PV.rat) (y := Qf0 A B m n (i * n + k)) (xs := (List.range (i * n + k)).map (Qf0 A B m n)) (ty' := 32) (fz := false) (by simp +decide (disch := first | omega | rfl | (simp +decide only [go_sem, ↓reduceIte, gx] <;> rfl) | fail) only [go_sem, ↓reduceIte, gx]) (by simp +decide (disch := first | omega | rfl | (simp +decide only [go_sem, ↓reduceIte] <;> rfl) | fail) only [go_sem, ↓reduceIte]) (by omega) (by simp) (by omega) (by omega) (by omega)]
    simp +decide (disch := first | omega | rfl | (simp +decide only [go_sem, ↓reduceIte, i8, i10, ib, g2, g3, g6, g4, gb, gx, j9] <;> rfl) | fail) only [go_sem, ↓reduceIte, i8, i10, ib, g2, g3, g6, g4, gb, gx, j9]
    refine Qa0 (n - (k + 1)) (by omega) ⟨k + 1, rfl, by omega, ?_⟩
    simp +decide (disch := first | omega | rfl | (simp +decide only [go_sem, ↓reduceIte, i8, ib, g2, g3, g6, g4, gb] <;> rfl) | fail) only [go_sem, ↓reduceIte, i8, ib, g2, g3, g6, g4, gb]
    rw [<- Nat.add_assoc, List.range_succ]
    exact ⟨rfl, Qlv (by simp)⟩
  ·have hkn : k = n := by omega
   subst hkn
   simp +decide (disch := first | omega | rfl | (simp +decide only [go_sem, ↓reduceIte, j9] <;> rfl) | fail) only [go_sem, ↓reduceIte, j9]
   simp (disch := decide) only [Qb0, Qb4, Qb9, Qce]
   refine Qa0 (R - (i + 1)) (by omega) ⟨i + 1, rfl, by omega, ?_⟩
   rw [show (i + 1) * k = i * k + k from Nat.succ_mul _ _]
   simp +decide (disch := first | omega | rfl | (simp +decide only [go_sem, ↓reduceIte, i8, ib, g2, g3, g6, g4, gb, gx] <;> rfl) | fail) only [go_sem, ↓reduceIte, i8, ib, g2, g3, g6, g4, gb, gx]
 ·obtain rfl : i = R := by omega
  rw [<- hA, <- hB, show (List.range (i * n)).map (Qf0 (Qaj a m) (Qaj b n) m n) = Qi0 a b i m n from rfl] at hx
  simp +decide (disch := first | omega | rfl | (simp +decide only [go_sem, ↓reduceIte, j8, jb, h4, hb', hx] <;> rfl) | fail) only [go_sem, ↓reduceIte, j8, jb, h4, hb', hx]
  refine Qkt 60 2 [2000002] (p := .rag [.int .i64 (i : Nat), .int .i64 (n : Nat), .mso 2000002 0 (i * n)]) (by simp +decide (disch := first | omega | rfl | (simp +decide only [go_sem, ↓reduceIte] <;> rfl) | fail) only [go_sem, ↓reduceIte]) (D := PV.mat i n (Qi0 a b i m n)) ?_ ?_ rfl ?_
  ·intro c hc
   simp only [List.mem_cons, List.not_mem_nil, or_false] at hc
   rcases hc with rfl | rfl | rfl
   ·trivial
   ·trivial
   ·simp only [okD, isY]; simp
  ·show PV.agg [_, _, dsn _ h 2 (.mso 2000002 0 _)] = _
   simp only [dsn, hx, List.drop_zero]
   rw [List.take_of_length_le (by rw [List.length_map, Qhd]; omega)]
  simp +decide (disch := first | omega | rfl | (simp +decide only [go_sem, ↓reduceIte, j8, jb, h4, hb', hx, Qe, List.contains_cons, List.contains_nil, List.flatMap_cons, List.flatMap_nil, List.append_nil] <;> rfl) | fail) only [go_sem, ↓reduceIte, j8, jb, h4, hb', hx, Qe, List.contains_cons, List.contains_nil, List.flatMap_cons, List.flatMap_nil, List.append_nil]
  refine Qb8 (Qb1 ?_)
  simp +decide (disch := first | omega | rfl | (simp +decide only [go_sem, ↓reduceIte, h4, Qe, List.contains_cons, List.contains_nil, List.flatMap_cons, List.flatMap_nil, List.append_nil] <;> rfl) | fail) only [go_sem, ↓reduceIte, h4, Qe, List.contains_cons, List.contains_nil, List.flatMap_cons, List.flatMap_nil, List.append_nil]
  exact Qcc rfl rfl rfl (Qv _) (Qv _)
end Go.Proofs.YtmnkngmmfnncoaaGreat
namespace Go.Proofs.YtmnkngmmfnncoaaGreat
open Go Go.FW
set_option linter.unusedSimpArgs false
set_option linter.unusedVariables false
set_option maxRecDepth 100000
theorem Qaem {R m n : Nat} {a b : List Rat} (ha : a.length = R * m) (hb : b.length = m * n) (hR : R <= 40) (hm : m <= 40) (hn : n <= 40) (hsa : ∀ q ∈ a, rs q <= 1048576) (hsb : ∀ q ∈ b, rs q <= 1048576) : Qd Tryz.prog 48 [PV.mat R m a, PV.mat m n b] (· = .tup [PV.mat R n (Qi0 a b R m n), .int .i64 0]) := by
 have hRn : R * n <= 40 * 40 := Nat.mul_le_mul hR hn
 have hz : ([.agg [.int .i64 0, .int .i64 0, .nilS]] : List PV) ≠ [] := by simp
 have hzd : ∀ x ∈ ([.agg [.int .i64 0, .int .i64 0, .nilS]] : List PV), x.ncells = x.cells := fun x hx => by rw [List.mem_singleton.1 hx]; rfl
 have q1 := Qgr ha hR hm hsa
 have q2 := Qgr hb hm hn hsb
 have q3 := Qoa hb hm hn hsb
 have q4 := Qj1 ha hR hm
 have q5 := Qj1 (l := trL b m n) (Qes b m n) hn hm
 rw [show ∀ M k w, Qnk M k w = Q6 (PV.rowD w) M k from fun _ _ _ => rfl] at q4 q5
 have ln : ∀ (M : MF) k w, (Q6 (PV.rowD w) M k).length = k := fun M k w => Qau _ _ _
 refine Qci Qm Tryz.func48 rfl Qur (by simp [c48]) fun C hP => ?_; simp only [c48]
 simp +decide (disch := first | omega | rfl | (simp +decide only [go_sem, ↓reduceIte] <;> rfl) | fail) only [go_sem, ↓reduceIte]
 repeat' first
  | refine Qcg ?_ ?_
  | refine Qa hP q1 rfl rfl rfl ?_
  | refine Qa hP q2 rfl rfl rfl ?_
  | refine Qa hP q3 rfl rfl rfl ?_
  | simp +decide (disch := first | omega | rfl | (simp +decide only [go_sem, ↓reduceIte] <;> rfl) | fail) only [go_sem, ↓reduceIte]
 refine Qbp (Qgl 8 2000001 (by simp +decide (disch := first | omega | rfl | (simp +decide only [go_sem, ↓reduceIte] <;> rfl) | fail) only [go_sem, ↓reduceIte] <;> rfl) (by omega) rfl (by omega)) ?_
 refine Qbp (Qhp (γ := 2000001) (e := 3) (ty := 24) (fz := false) (by simp +decide (disch := first | omega | rfl | (simp +decide only [go_sem, ↓reduceIte] <;> rfl) | fail) only [go_sem, ↓reduceIte]) hz (by omega) hzd) ?_
 simp +decide (disch := first | omega | rfl | (simp +decide only [go_sem, ↓reduceIte] <;> rfl) | fail) only [go_sem, ↓reduceIte]
 refine Qbp (Qlz (γ := 2000001) (e := 3) (ty := 24) (cs := [.int .i64 (R : Nat), .int .i64 (n : Nat), .nilS]) (cs' := [.int .i64 (R : Nat), .int .i64 (n : Nat), .mso 2000002 0 0]) 2000002 3 32 (by simp +decide (disch := first | omega | rfl | (simp +decide only [go_sem, ↓reduceIte] <;> rfl) | fail) only [go_sem, ↓reduceIte]) (by simp +decide (disch := first | omega | rfl | (simp +decide only [go_sem, ↓reduceIte] <;> rfl) | fail) only [go_sem, ↓reduceIte] <;> rfl) (by omega) (by omega) rfl (by simp)) ?_
 simp +decide (disch := first | omega | rfl | (simp +decide only [go_sem, ↓reduceIte] <;> rfl) | fail) only [go_sem, ↓reduceIte]
 refine Qa hP q4 rfl rfl rfl ?_
 simp +decide (disch := first | omega | rfl | (simp +decide only [go_sem, ↓reduceIte, ln] <;> rfl) | fail) only [go_sem, ↓reduceIte, ln]
 obtain ⟨A, hA⟩ : ∃ A, Qaj a m = A := ⟨_, rfl⟩
 obtain ⟨B, hB⟩ : ∃ B, Qaj b n = B := ⟨_, rfl⟩
 refine Qbi (by repeat (first | exact Qx | exact Qp | exact Qq | exact Qr | exact Qt | apply Qo | apply Qw | apply Q3 | apply Q9 | apply Qaa | apply Qn | apply Qz)) [(8, 8), (10, 10), (12, 12), (41, 61), (2000001, 2000001)] [57, 58] (fun q J hp => ∃ i, q = R - i /\ i <= R /\ J 8 = .np 2000001 0 0 /\ J 41 = .int .i64 (i : Nat) /\ J 2000001 = .nst 2000001 3 24 [.rag [.int .i64 (R : Nat), .int .i64 (n : Nat), .mso 2000002 0 (i * n)]] /\
  hp 2 = some ⟨3, 24, [PV.mat R m a], false⟩ /\ hp 3 = some ⟨3, 24, [PV.mat m n b], false⟩ /\ hp 6 = some ⟨3, 24, [PV.mat n m (trL b m n)], false⟩ /\ hp 4 = some ⟨3, 24, [.agg [.int .i64 0, .int .i64 0, .nilS]], false⟩ /\ hp 2000001 = some ⟨3, 24, [], false⟩ /\ hp 2000002 = some ⟨3, 32, ((List.range (i * n)).map (Qf0 A B m n)).map PV.rat, false⟩) R ?_ ?_
 ·refine ⟨0, rfl, by omega, ?_⟩
  simp +decide (disch := first | omega | rfl | (simp +decide only [go_sem, ↓reduceIte, Nat.zero_mul] <;> rfl) | fail) only [go_sem, ↓reduceIte, Nat.zero_mul]
  exact ⟨rfl, rfl⟩
 rintro _ J h ⟨i, rfl, hi, j8, j41, jb, h2, h3, h6, h4, hb', hx⟩
 simp +decide (disch := first | omega | rfl | (simp +decide only [go_sem, ↓reduceIte, j8, j41, h2] <;> rfl) | fail) only [go_sem, ↓reduceIte, j8, j41, h2]
 refine Qb (fun hc => ?_) (fun hc => ?_)
 ·have hi' : i < R := by omega
  have hin : i * n + n <= R * n := by
   have := Nat.mul_le_mul_right n hi'
   rw [Nat.succ_mul] at this; exact this
  simp +decide (disch := first | omega | rfl | (simp +decide only [go_sem, ↓reduceIte, j8, j41, jb, h2, h3, h6, h4, hb', hx, hA] <;> rfl) | fail) only [go_sem, ↓reduceIte, j8, j41, jb, h2, h3, h6, h4, hb', hx, hA]
  refine Qa hP q5 rfl rfl rfl ?_
  simp +decide (disch := first | omega | rfl | (simp +decide only [go_sem, ↓reduceIte, j8, j41, jb, h2, h3, h6, h4, hb', hx, ln] <;> rfl) | fail) only [go_sem, ↓reduceIte, j8, j41, jb, h2, h3, h6, h4, hb', hx, ln]
  refine Qbi (by repeat (first | exact Qx | exact Qp | exact Qq | exact Qr | exact Qt | apply Qo | apply Qw | apply Q3 | apply Q9 | apply Qaa | apply Qn | apply Qz)) [(8, 8), (12, 12), (48, 60), (2000001, 2000001)] [57, 58] (fun q J hp => ∃ k, q = n - k /\ k <= n /\ J 8 = .np 2000001 0 0 /\ J 48 = .int .i64 (k : Nat) /\ J 2000001 = .nst 2000001 3 24 [.rag [.int .i64 (R : Nat), .int .i64 (n : Nat), .mso 2000002 0 (i * n + k)]] /\
   hp 2 = some ⟨3, 24, [PV.mat R m a], false⟩ /\ hp 3 = some ⟨3, 24, [PV.mat m n b], false⟩ /\ hp 6 = some ⟨3, 24, [PV.mat n m (trL b m n)], false⟩ /\ hp 4 = some ⟨3, 24, [.agg [.int .i64 0, .int .i64 0, .nilS]], false⟩ /\ hp 2000001 = some ⟨3, 24, [], false⟩ /\ hp 2000002 = some ⟨3, 32, ((List.range (i * n + k)).map (Qf0 A B m n)).map PV.rat, false⟩) n ?_ ?_
  ·refine ⟨0, rfl, by omega, ?_⟩
   simp +decide (disch := first | omega | rfl | (simp +decide only [go_sem, ↓reduceIte, j8, jb, h2, h3, h6, h4, hb', hx] <;> rfl) | fail) only [go_sem, ↓reduceIte, j8, jb, h2, h3, h6, h4, hb', hx]
   rfl
  rintro _ J2 g ⟨k, rfl, hk, i8, i48, ib, g2, g3, g6, g4, gb, gx⟩
  simp +decide (disch := first | omega | rfl | (simp +decide only [go_sem, ↓reduceIte, i8, i48, g3] <;> rfl) | fail) only [go_sem, ↓reduceIte, i8, i48, g3]
  refine Qb (fun hck => ?_) (fun hck => ?_)
  ·have hk' : k < n := by omega
   have hd : Qdj (A i) (Qaj (trL b m n) m k) m = Qf0 A B m n (i * n + k) := by
    rw [Qwh hk', <- hA, <- hB]
    exact Ql1 m fun c hc => ⟨rfl, Qut hk' hc⟩
   have r3 := Qaek (x := A i) (y := Qaj (trL b m n) m k) (w := m) (k := 1048576) (by omega) (fun c _ => by rw [<- hA]; exact Qg2 (by omega) hsa) (fun c _ => Qg2 (by omega) (Quu (by omega) hsb)) (by omega)
   rw [hd] at r3
   repeat' first
    | refine Qcg ?_ ?_
    | refine Qa hP r3 rfl rfl rfl ?_
    | simp +decide (disch := first | omega | rfl | (simp +decide only [go_sem, ↓reduceIte, i8, i48, ib, g2, g3, g6, g4, gb, gx, j41] <;> rfl) | fail) only [go_sem, ↓reduceIte, i8, i48, ib, g2, g3, g6, g4, gb, gx, j41]
   all_goals
    rw [Qha (f := PV.rat) (y := Qf0 A B m n (i * n + k)) (xs := (List.range (i * n + k)).map (Qf0 A B m n)) (ty' := 32) (fz := false) (by simp +decide (disch := first | omega | rfl | (simp +decide only [go_sem, ↓reduceIte, gx] <;> rfl) | fail) only [go_sem, ↓reduceIte, gx]) (by simp +decide (disch := first | omega | rfl | (simp +decide only [go_sem, ↓reduceIte] <;> rfl) | fail) only [go_sem, ↓reduceIte]) (by omega) (by simp) (by omega) (by omega) (by omega)]
    simp +decide (disch := first | omega | rfl | (simp +decide only [go_sem, ↓reduceIte, i8, i48, ib, g2, g3, g6, g4, gb, gx, j41] <;> rfl) | fail) only [go_sem, ↓reduceIte, i8, i48, ib, g2, g3, g6, g4, gb, gx, j41]
    refine Qa0 (n - (k + 1)) (by omega) ⟨k + 1, rfl, by omega, ?_⟩
    simp +decide (disch := first | omega | rfl | (simp +decide only [go_sem, ↓reduceIte, i8, ib, g2, g3, g6, g4, gb] <;> rfl) | fail) only [go_sem, ↓reduceIte, i8, ib, g2, g3, g6, g4, gb]
    rw [<- Nat.add_assoc, List.range_succ]
    exact ⟨rfl, Qlv (by simp)⟩
  ·have hkn : k = n := by omega
   subst hkn
   simp +decide (disch := first | omega | rfl | (simp +decide only [go_sem, ↓reduceIte, j41] <;> rfl) | fail) only [go_sem, ↓reduceIte, j41]
   simp (disch := decide) only [Qb0, Qb4, Qb9, Qce]
   refine Qa0 (R - (i + 1)) (by omega) ⟨i + 1, rfl, by omega, ?_⟩
   rw [show (i + 1) * k = i * k + k from Nat.succ_mul _ _]
   simp +decide (disch := first | omega | rfl | (simp +decide only [go_sem, ↓reduceIte, i8, ib, g2, g3, g6, g4, gb, gx] <;> rfl) | fail) only [go_sem, ↓reduceIte, i8, ib, g2, g3, g6, g4, gb, gx]
 ·obtain rfl : i = R := by omega
  rw [<- hA, <- hB, show (List.range (i * n)).map (Qf0 (Qaj a m) (Qaj b n) m n) = Qi0 a b i m n from rfl] at hx
  simp +decide (disch := first | omega | rfl | (simp +decide only [go_sem, ↓reduceIte, j8, jb, h4, hb', hx] <;> rfl) | fail) only [go_sem, ↓reduceIte, j8, jb, h4, hb', hx]
  refine Qkt 62 2 [2000002] (p := .rag [.int .i64 (i : Nat), .int .i64 (n : Nat), .mso 2000002 0 (i * n)]) (by simp +decide (disch := first | omega | rfl | (simp +decide only [go_sem, ↓reduceIte] <;> rfl) | fail) only [go_sem, ↓reduceIte]) (D := PV.mat i n (Qi0 a b i m n)) ?_ ?_ rfl ?_
  ·intro c hc
   simp only [List.mem_cons, List.not_mem_nil, or_false] at hc
   rcases hc with rfl | rfl | rfl
   ·trivial
   ·trivial
   ·simp only [okD, isY]; simp
  ·show PV.agg [_, _, dsn _ h 2 (.mso 2000002 0 _)] = _
   simp only [dsn, hx, List.drop_zero]
   rw [List.take_of_length_le (by rw [List.length_map, Qhd]; omega)]
  simp +decide (disch := first | omega | rfl | (simp +decide only [go_sem, ↓reduceIte, j8, jb, h4, hb', hx, Qe, List.contains_cons, List.contains_nil, List.flatMap_cons, List.flatMap_nil, List.append_nil] <;> rfl) | fail) only [go_sem, ↓reduceIte, j8, jb, h4, hb', hx, Qe, List.contains_cons, List.contains_nil, List.flatMap_cons, List.flatMap_nil, List.append_nil]
  refine Qb8 (Qb1 ?_)
  simp +decide (disch := first | omega | rfl | (simp +decide only [go_sem, ↓reduceIte, h4, Qe, List.contains_cons, List.contains_nil, List.flatMap_cons, List.flatMap_nil, List.append_nil] <;> rfl) | fail) only [go_sem, ↓reduceIte, h4, Qe, List.contains_cons, List.contains_nil, List.flatMap_cons, List.flatMap_nil, List.append_nil]
  exact Qcc rfl rfl rfl (Qv _) (Qv _)
end Go.Proofs.YtmnkngmmfnncoaaGreat
namespace Go.Proofs.YtmnkngmmfnncoaaGreat
open Go Go.FW
set_option linter.unusedSimpArgs false
set_option linter.unusedVariables false
set_option maxRecDepth 100000
theorem Qp4 {r c : Int} {l : List RQ} (hl : Qao l) (h : Qaf r c l = false) : Qd Tryz.prog 46 [PV.rmat r c l] (· = .tup [PV.rmat 0 0 [], .int .i64 1]) := by
 refine Qci Qm Tryz.func46 rfl Q1i (by simp [c46]) fun C hP => ?_; simp only [c46]
 simp +decide (disch := first | omega | rfl | (simp +decide only [go_sem, ↓reduceIte] <;> rfl) | fail) only [go_sem, ↓reduceIte]
 refine Qa hP (Qid hl) rfl rfl rfl ?_
 rw [h]
 simp +decide (disch := first | omega | rfl | (simp +decide only [go_sem, ↓reduceIte] <;> rfl) | fail) only [go_sem, ↓reduceIte]
 refine Qb8 (Qb1 ?_)
 simp +decide (disch := first | omega | rfl | (simp +decide only [go_sem, ↓reduceIte] <;> rfl) | fail) only [go_sem, ↓reduceIte]
 exact Qcc rfl rfl rfl Qc9 (Qv _)
theorem Qoq {r c : Int} {l : List RQ} (hl : Qao l) (h : Qaf r c l = false) : Qd Tryz.prog 47 [PV.rmat r c l] (· = .tup [PV.rmat 0 0 [], .int .i64 1]) := by
 refine Qci Qm Tryz.func47 rfl Q1j (by simp [c47]) fun C hP => ?_; simp only [c47]
 simp +decide (disch := first | omega | rfl | (simp +decide only [go_sem, ↓reduceIte] <;> rfl) | fail) only [go_sem, ↓reduceIte]
 refine Qa hP (Qc0 hl) rfl rfl rfl ?_
 rw [h]
 simp +decide (disch := first | omega | rfl | (simp +decide only [go_sem, ↓reduceIte] <;> rfl) | fail) only [go_sem, ↓reduceIte]
 refine Qb8 (Qb1 ?_)
 simp +decide (disch := first | omega | rfl | (simp +decide only [go_sem, ↓reduceIte] <;> rfl) | fail) only [go_sem, ↓reduceIte]
 exact Qcc rfl rfl rfl Qc9 (Qv _)
theorem Qr1 {r c r' c' : Int} {a b : List RQ} (ha : Qao a) (hb : Qao b) (h : (Qaf r c a && Qaf r' c' b) = false) : Qd Tryz.prog 48 [PV.rmat r c a, PV.rmat r' c' b] (· = .tup [PV.rmat 0 0 [], .int .i64 1]) := by
 refine Qci Qm Tryz.func48 rfl Qur (by simp [c48]) fun C hP => ?_; simp only [c48]
 simp +decide (disch := first | omega | rfl | (simp +decide only [go_sem, ↓reduceIte] <;> rfl) | fail) only [go_sem, ↓reduceIte]
 refine Qa hP (Qid ha) rfl rfl rfl ?_
 cases hq : Qaf r c a
 ·simp +decide (disch := first | omega | rfl | (simp +decide only [go_sem, ↓reduceIte] <;> rfl) | fail) only [go_sem, ↓reduceIte]
  refine Qb8 (Qb1 ?_)
  simp +decide (disch := first | omega | rfl | (simp +decide only [go_sem, ↓reduceIte] <;> rfl) | fail) only [go_sem, ↓reduceIte]
  exact Qcc rfl rfl rfl Qc9 (Qv _)
 ·rw [hq, Bool.true_and] at h
  simp +decide (disch := first | omega | rfl | (simp +decide only [go_sem, ↓reduceIte] <;> rfl) | fail) only [go_sem, ↓reduceIte]
  refine Qa hP (Qid hb) rfl rfl rfl ?_
  rw [h]
  simp +decide (disch := first | omega | rfl | (simp +decide only [go_sem, ↓reduceIte] <;> rfl) | fail) only [go_sem, ↓reduceIte]
  refine Qb8 (Qb1 ?_)
  simp +decide (disch := first | omega | rfl | (simp +decide only [go_sem, ↓reduceIte] <;> rfl) | fail) only [go_sem, ↓reduceIte]
  exact Qcc rfl rfl rfl Qc9 (Qv _)
theorem Qp5 {r c r' c' : Int} {a b : List RQ} (ha : Qao a) (hb : Qao b) (h : (Qaf r c a && Qaf r' c' b) = false) : Qd Tryz.prog 49 [PV.rmat r c a, PV.rmat r' c' b] (· = .tup [PV.rmat 0 0 [], .int .i64 1]) := by
 refine Qci Qm Tryz.func49 rfl Qus (by simp [c49]) fun C hP => ?_; simp only [c49]
 simp +decide (disch := first | omega | rfl | (simp +decide only [go_sem, ↓reduceIte] <;> rfl) | fail) only [go_sem, ↓reduceIte]
 refine Qa hP (Qc0 ha) rfl rfl rfl ?_
 cases hq : Qaf r c a
 ·simp +decide (disch := first | omega | rfl | (simp +decide only [go_sem, ↓reduceIte] <;> rfl) | fail) only [go_sem, ↓reduceIte]
  refine Qb8 (Qb1 ?_)
  simp +decide (disch := first | omega | rfl | (simp +decide only [go_sem, ↓reduceIte] <;> rfl) | fail) only [go_sem, ↓reduceIte]
  exact Qcc rfl rfl rfl Qc9 (Qv _)
 ·rw [hq, Bool.true_and] at h
  simp +decide (disch := first | omega | rfl | (simp +decide only [go_sem, ↓reduceIte] <;> rfl) | fail) only [go_sem, ↓reduceIte]
  refine Qa hP (Qc0 hb) rfl rfl rfl ?_
  rw [h]
  simp +decide (disch := first | omega | rfl | (simp +decide only [go_sem, ↓reduceIte] <;> rfl) | fail) only [go_sem, ↓reduceIte]
  refine Qb8 (Qb1 ?_)
  simp +decide (disch := first | omega | rfl | (simp +decide only [go_sem, ↓reduceIte] <;> rfl) | fail) only [go_sem, ↓reduceIte]
  exact Qcc rfl rfl rfl Qc9 (Qv _)
theorem Q55 {r c r' c' : Int} {a b : List RQ} (ha : Qao a) (hb : Qao b) (h1 : Qaf r c a = true) (h2 : Qaf r' c' b = true) (hne : c ≠ r') : Qd Tryz.prog 48 [PV.rmat r c a, PV.rmat r' c' b] (· = .tup [PV.rmat 0 0 [], .int .i64 16]) := by
 refine Qci Qm Tryz.func48 rfl Qur (by simp [c48]) fun C hP => ?_; simp only [c48]
 simp +decide (disch := first | omega | rfl | (simp +decide only [go_sem, ↓reduceIte] <;> rfl) | fail) only [go_sem, ↓reduceIte]
 refine Qa hP (Qid ha) rfl rfl rfl ?_
 rw [h1]
 simp +decide (disch := first | omega | rfl | (simp +decide only [go_sem, ↓reduceIte] <;> rfl) | fail) only [go_sem, ↓reduceIte]
 refine Qa hP (Qid hb) rfl rfl rfl ?_
 rw [h2]
 simp +decide (disch := first | omega | rfl | (simp +decide only [go_sem, ↓reduceIte, hne] <;> rfl) | fail) only [go_sem, ↓reduceIte, hne]
 refine Qb8 (Qb1 ?_)
 simp +decide (disch := first | omega | rfl | (simp +decide only [go_sem, ↓reduceIte] <;> rfl) | fail) only [go_sem, ↓reduceIte]
 exact Qcc rfl rfl rfl Qc9 (Qv _)
theorem Q1l {r c r' c' : Int} {a b : List RQ} (ha : Qao a) (hb : Qao b) (h1 : Qaf r c a = true) (h2 : Qaf r' c' b = true) (hne : c ≠ r') : Qd Tryz.prog 49 [PV.rmat r c a, PV.rmat r' c' b] (· = .tup [PV.rmat 0 0 [], .int .i64 16]) := by
 refine Qci Qm Tryz.func49 rfl Qus (by simp [c49]) fun C hP => ?_; simp only [c49]
 simp +decide (disch := first | omega | rfl | (simp +decide only [go_sem, ↓reduceIte] <;> rfl) | fail) only [go_sem, ↓reduceIte]
 refine Qa hP (Qc0 ha) rfl rfl rfl ?_
 rw [h1]
 simp +decide (disch := first | omega | rfl | (simp +decide only [go_sem, ↓reduceIte] <;> rfl) | fail) only [go_sem, ↓reduceIte]
 refine Qa hP (Qc0 hb) rfl rfl rfl ?_
 rw [h2]
 simp +decide (disch := first | omega | rfl | (simp +decide only [go_sem, ↓reduceIte, hne] <;> rfl) | fail) only [go_sem, ↓reduceIte, hne]
 refine Qb8 (Qb1 ?_)
 simp +decide (disch := first | omega | rfl | (simp +decide only [go_sem, ↓reduceIte] <;> rfl) | fail) only [go_sem, ↓reduceIte]
 exact Qcc rfl rfl rfl Qc9 (Qv _)
theorem Qeg {r c : Int} {l : List RQ} (hl : Qao l) (h : Qaf r c l = true) : Qd Tryz.prog 51 [PV.rmat r c l, PV.rmat r c l] (· = .bool true) := by
 have heq := Qlw (r := r) (c := c) (r' := r) (c' := c) hl.k hl.k (by omega) (by have := hl.1; omega) (by have := hl.1; omega)
 rw [eqM, decide_eq_true ⟨rfl, rfl, rfl⟩] at heq
 have hr := Qc0 (r := r) (c := c) hl
 rw [h] at hr
 refine Qi Qm Tryz.func51 rfl Qacx (by simp [c51]) fun C hP => ?_; simp only [c51]
 simp +decide (disch := first | omega | rfl | (simp +decide only [go_sem, ↓reduceIte] <;> rfl) | fail) only [go_sem, ↓reduceIte]
 refine Qa hP heq rfl rfl rfl ?_
 simp +decide (disch := first | omega | rfl | (simp +decide only [go_sem, ↓reduceIte] <;> rfl) | fail) only [go_sem, ↓reduceIte]
 refine Qa hP hr rfl rfl rfl ?_
 simp +decide (disch := first | omega | rfl | (simp +decide only [go_sem, ↓reduceIte] <;> rfl) | fail) only [go_sem, ↓reduceIte]
 exact Qc rfl rfl
theorem Qor {r c r' c' rT cT rP cP e1 e2 : Int} {a b lT lP : List RQ} (ha : Qao a) (hb : Qao b) (hq : (Qb7 a 25 && Qb7 b 25) = true) (o1 : Qaf r c a = false) (hm : Qao lT /\ Qaf rT cT lT = true /\ Qao lP /\ Qaf rP cP lP = true /\ Qd Tryz.prog 46 [PV.rmat r c a] (· = .tup [PV.rmat rT cT lT, .int .i64 e1]) /\ Qd Tryz.prog 47 [PV.rmat r c a] (· = .tup [PV.rmat rT cT lT, .int .i64 e1]) /\ Qd Tryz.prog 48 [PV.rmat r c a, PV.rmat r' c' b] (· = .tup [PV.rmat rP cP lP, .int .i64 e2]) /\ Qd Tryz.prog 49 [PV.rmat r c a, PV.rmat r' c' b] (· = .tup [PV.rmat rP cP lP, .int .i64 e2])) :
  Qd Tryz.prog 9 [PV.rmat r c a, PV.rmat r' c' b] (· = .bool true) := by
 have hsm := Qlx (l := [⟨r, c, a⟩, ⟨r', c', b⟩]) (by intro x hx; simp at hx; rcases hx with rfl | rfl; exact ha; exact hb) (by simp)
 simp only [List.all_cons, List.all_nil, Bool.and_true] at hsm
 rw [hq] at hsm
 obtain ⟨t1, t2, p1, p2, h1, h2, h3, h4⟩ := hm
 have hr1 := Qc0 (r := r) (c := c) ha
 have hr2 := Qc0 (r := r') (c := c') hb
 rw [o1] at hr1
 have s1 := Qeg t1 t2
 have s2 := Qeg p1 p2
 have k1 := Qq3 (r := r) (c := c) (r' := r') (c' := c') ha.k hb.k (by omega) (by have := ha.1; omega) (by have := hb.1; omega)
 have k2 := Qlw (r := r) (c := c) (r' := r') (c' := c') ha.k hb.k (by omega) (by have := ha.1; omega) (by have := hb.1; omega)
 generalize eqM r c r' c' a b = o3 at k1 k2
 skip
 refine Qi Qm Tryz.func9 rfl Qsl (by simp [c9]) fun C hP => ?_; simp only [c9]
 simp +decide (disch := first | omega | rfl | (simp +decide only [go_sem, ↓reduceIte] <;> rfl) | fail) only [go_sem, ↓reduceIte]
 refine Qcv hP hsm (by simp +decide (disch := first | omega | rfl | (simp +decide only [go_sem, ↓reduceIte, Qe, List.contains_cons, List.contains_nil, List.flatMap_cons, List.flatMap_nil, List.append_nil] <;> rfl) | fail) only [go_sem, ↓reduceIte, Qe, List.contains_cons, List.contains_nil, List.flatMap_cons, List.flatMap_nil, List.append_nil] <;> rfl) rfl ?_
 simp +decide (disch := first | omega | rfl | (simp +decide only [go_sem, ↓reduceIte, Qe, List.contains_cons, List.contains_nil, List.flatMap_cons, List.flatMap_nil, List.append_nil] <;> rfl) | fail) only [go_sem, ↓reduceIte, Qe, List.contains_cons, List.contains_nil, List.flatMap_cons, List.flatMap_nil, List.append_nil]
 refine Qa hP h1 rfl rfl rfl ?_
 simp +decide (disch := first | omega | rfl | (simp +decide only [go_sem, ↓reduceIte, Qe, List.contains_cons, List.contains_nil, List.flatMap_cons, List.flatMap_nil, List.append_nil] <;> rfl) | fail) only [go_sem, ↓reduceIte, Qe, List.contains_cons, List.contains_nil, List.flatMap_cons, List.flatMap_nil, List.append_nil]
 refine Qa hP h2 rfl rfl rfl ?_
 simp +decide (disch := first | omega | rfl | (simp +decide only [go_sem, ↓reduceIte, Qe, List.contains_cons, List.contains_nil, List.flatMap_cons, List.flatMap_nil, List.append_nil] <;> rfl) | fail) only [go_sem, ↓reduceIte, Qe, List.contains_cons, List.contains_nil, List.flatMap_cons, List.flatMap_nil, List.append_nil]
 refine Qa hP h3 rfl rfl rfl ?_
 simp +decide (disch := first | omega | rfl | (simp +decide only [go_sem, ↓reduceIte, Qe, List.contains_cons, List.contains_nil, List.flatMap_cons, List.flatMap_nil, List.append_nil] <;> rfl) | fail) only [go_sem, ↓reduceIte, Qe, List.contains_cons, List.contains_nil, List.flatMap_cons, List.flatMap_nil, List.append_nil]
 refine Qa hP h4 rfl rfl rfl ?_
 simp +decide (disch := first | omega | rfl | (simp +decide only [go_sem, ↓reduceIte, Qe, List.contains_cons, List.contains_nil, List.flatMap_cons, List.flatMap_nil, List.append_nil] <;> rfl) | fail) only [go_sem, ↓reduceIte, Qe, List.contains_cons, List.contains_nil, List.flatMap_cons, List.flatMap_nil, List.append_nil]
 refine Qa hP hr1 rfl rfl rfl ?_
 simp +decide (disch := first | omega | rfl | (simp +decide only [go_sem, ↓reduceIte, Qe, List.contains_cons, List.contains_nil, List.flatMap_cons, List.flatMap_nil, List.append_nil] <;> rfl) | fail) only [go_sem, ↓reduceIte, Qe, List.contains_cons, List.contains_nil, List.flatMap_cons, List.flatMap_nil, List.append_nil]
 repeat' first
  | refine Qcg ?_ ?_
  | simp +decide (disch := first | omega | rfl | (simp +decide only [go_sem, ↓reduceIte, Qe, List.contains_cons, List.contains_nil, List.flatMap_cons, List.flatMap_nil, List.append_nil, beq_self_eq_true] <;> rfl) | fail) only [go_sem, ↓reduceIte, Qe, List.contains_cons, List.contains_nil, List.flatMap_cons, List.flatMap_nil, List.append_nil, beq_self_eq_true]
  | refine Qa hP s1 rfl rfl rfl ?_
  | refine Qa hP s2 rfl rfl rfl ?_
  | refine Qa hP Ql0 rfl rfl rfl ?_
  | refine Qa hP hr2 rfl rfl rfl ?_
  | refine Qa hP k1 rfl rfl rfl ?_
  | refine Qa hP k2 rfl rfl rfl ?_
 all_goals exact Qc rfl rfl
theorem Qos {r c r' c' rT cT rP cP e1 e2 : Int} {a b lT lP : List RQ} (ha : Qao a) (hb : Qao b) (hq : (Qb7 a 25 && Qb7 b 25) = true) (o1 : Qaf r c a = true) (o2 : Qaf r' c' b = false) (hm : Qao lT /\ Qaf rT cT lT = true /\ Qao lP /\ Qaf rP cP lP = true /\ Qd Tryz.prog 46 [PV.rmat r c a] (· = .tup [PV.rmat rT cT lT, .int .i64 e1]) /\ Qd Tryz.prog 47 [PV.rmat r c a] (· = .tup [PV.rmat rT cT lT, .int .i64 e1]) /\ Qd Tryz.prog 48 [PV.rmat r c a, PV.rmat r' c' b] (· = .tup [PV.rmat rP cP lP, .int .i64 e2]) /\ Qd Tryz.prog 49 [PV.rmat r c a, PV.rmat r' c' b] (· = .tup [PV.rmat rP cP lP, .int .i64 e2])) :
  Qd Tryz.prog 9 [PV.rmat r c a, PV.rmat r' c' b] (· = .bool true) := by
 have hsm := Qlx (l := [⟨r, c, a⟩, ⟨r', c', b⟩]) (by intro x hx; simp at hx; rcases hx with rfl | rfl; exact ha; exact hb) (by simp)
 simp only [List.all_cons, List.all_nil, Bool.and_true] at hsm
 rw [hq] at hsm
 obtain ⟨t1, t2, p1, p2, h1, h2, h3, h4⟩ := hm
 have hr1 := Qc0 (r := r) (c := c) ha
 have hr2 := Qc0 (r := r') (c := c') hb
 rw [o1] at hr1
 have s1 := Qeg t1 t2
 have s2 := Qeg p1 p2
 have k1 := Qq3 (r := r) (c := c) (r' := r') (c' := c') ha.k hb.k (by omega) (by have := ha.1; omega) (by have := hb.1; omega)
 have k2 := Qlw (r := r) (c := c) (r' := r') (c' := c') ha.k hb.k (by omega) (by have := ha.1; omega) (by have := hb.1; omega)
 generalize eqM r c r' c' a b = o3 at k1 k2
 rw [o2] at hr2
 refine Qi Qm Tryz.func9 rfl Qsl (by simp [c9]) fun C hP => ?_; simp only [c9]
 simp +decide (disch := first | omega | rfl | (simp +decide only [go_sem, ↓reduceIte] <;> rfl) | fail) only [go_sem, ↓reduceIte]
 refine Qcv hP hsm (by simp +decide (disch := first | omega | rfl | (simp +decide only [go_sem, ↓reduceIte, Qe, List.contains_cons, List.contains_nil, List.flatMap_cons, List.flatMap_nil, List.append_nil] <;> rfl) | fail) only [go_sem, ↓reduceIte, Qe, List.contains_cons, List.contains_nil, List.flatMap_cons, List.flatMap_nil, List.append_nil] <;> rfl) rfl ?_
 simp +decide (disch := first | omega | rfl | (simp +decide only [go_sem, ↓reduceIte, Qe, List.contains_cons, List.contains_nil, List.flatMap_cons, List.flatMap_nil, List.append_nil] <;> rfl) | fail) only [go_sem, ↓reduceIte, Qe, List.contains_cons, List.contains_nil, List.flatMap_cons, List.flatMap_nil, List.append_nil]
 refine Qa hP h1 rfl rfl rfl ?_
 simp +decide (disch := first | omega | rfl | (simp +decide only [go_sem, ↓reduceIte, Qe, List.contains_cons, List.contains_nil, List.flatMap_cons, List.flatMap_nil, List.append_nil] <;> rfl) | fail) only [go_sem, ↓reduceIte, Qe, List.contains_cons, List.contains_nil, List.flatMap_cons, List.flatMap_nil, List.append_nil]
 refine Qa hP h2 rfl rfl rfl ?_
 simp +decide (disch := first | omega | rfl | (simp +decide only [go_sem, ↓reduceIte, Qe, List.contains_cons, List.contains_nil, List.flatMap_cons, List.flatMap_nil, List.append_nil] <;> rfl) | fail) only [go_sem, ↓reduceIte, Qe, List.contains_cons, List.contains_nil, List.flatMap_cons, List.flatMap_nil, List.append_nil]
 refine Qa hP h3 rfl rfl rfl ?_
 simp +decide (disch := first | omega | rfl | (simp +decide only [go_sem, ↓reduceIte, Qe, List.contains_cons, List.contains_nil, List.flatMap_cons, List.flatMap_nil, List.append_nil] <;> rfl) | fail) only [go_sem, ↓reduceIte, Qe, List.contains_cons, List.contains_nil, List.flatMap_cons, List.flatMap_nil, List.append_nil]
 refine Qa hP h4 rfl rfl rfl ?_
 simp +decide (disch := first | omega | rfl | (simp +decide only [go_sem, ↓reduceIte, Qe, List.contains_cons, List.contains_nil, List.flatMap_cons, List.flatMap_nil, List.append_nil] <;> rfl) | fail) only [go_sem, ↓reduceIte, Qe, List.contains_cons, List.contains_nil, List.flatMap_cons, List.flatMap_nil, List.append_nil]
 refine Qa hP hr1 rfl rfl rfl ?_
 simp +decide (disch := first | omega | rfl | (simp +decide only [go_sem, ↓reduceIte, Qe, List.contains_cons, List.contains_nil, List.flatMap_cons, List.flatMap_nil, List.append_nil] <;> rfl) | fail) only [go_sem, ↓reduceIte, Qe, List.contains_cons, List.contains_nil, List.flatMap_cons, List.flatMap_nil, List.append_nil]
 repeat' first
  | refine Qcg ?_ ?_
  | simp +decide (disch := first | omega | rfl | (simp +decide only [go_sem, ↓reduceIte, Qe, List.contains_cons, List.contains_nil, List.flatMap_cons, List.flatMap_nil, List.append_nil, beq_self_eq_true] <;> rfl) | fail) only [go_sem, ↓reduceIte, Qe, List.contains_cons, List.contains_nil, List.flatMap_cons, List.flatMap_nil, List.append_nil, beq_self_eq_true]
  | refine Qa hP s1 rfl rfl rfl ?_
  | refine Qa hP s2 rfl rfl rfl ?_
  | refine Qa hP Ql0 rfl rfl rfl ?_
  | refine Qa hP hr2 rfl rfl rfl ?_
  | refine Qa hP k1 rfl rfl rfl ?_
  | refine Qa hP k2 rfl rfl rfl ?_
 all_goals exact Qc rfl rfl
theorem Qi1 {r c r' c' rT cT rP cP e1 e2 : Int} {a b lT lP : List RQ} (ha : Qao a) (hb : Qao b) (hq : (Qb7 a 25 && Qb7 b 25) = true) (o1 : Qaf r c a = true) (o2 : Qaf r' c' b = true) (hm : Qao lT /\ Qaf rT cT lT = true /\ Qao lP /\ Qaf rP cP lP = true /\ Qd Tryz.prog 46 [PV.rmat r c a] (· = .tup [PV.rmat rT cT lT, .int .i64 e1]) /\ Qd Tryz.prog 47 [PV.rmat r c a] (· = .tup [PV.rmat rT cT lT, .int .i64 e1]) /\ Qd Tryz.prog 48 [PV.rmat r c a, PV.rmat r' c' b] (· = .tup [PV.rmat rP cP lP, .int .i64 e2]) /\ Qd Tryz.prog 49 [PV.rmat r c a, PV.rmat r' c' b] (· = .tup [PV.rmat rP cP lP, .int .i64 e2])) :
  Qd Tryz.prog 9 [PV.rmat r c a, PV.rmat r' c' b] (· = .bool true) := by
 have hsm := Qlx (l := [⟨r, c, a⟩, ⟨r', c', b⟩]) (by intro x hx; simp at hx; rcases hx with rfl | rfl; exact ha; exact hb) (by simp)
 simp only [List.all_cons, List.all_nil, Bool.and_true] at hsm
 rw [hq] at hsm
 obtain ⟨t1, t2, p1, p2, h1, h2, h3, h4⟩ := hm
 have hr1 := Qc0 (r := r) (c := c) ha
 have hr2 := Qc0 (r := r') (c := c') hb
 rw [o1] at hr1
 have s1 := Qeg t1 t2
 have s2 := Qeg p1 p2
 have k1 := Qq3 (r := r) (c := c) (r' := r') (c' := c') ha.k hb.k (by omega) (by have := ha.1; omega) (by have := hb.1; omega)
 have k2 := Qlw (r := r) (c := c) (r' := r') (c' := c') ha.k hb.k (by omega) (by have := ha.1; omega) (by have := hb.1; omega)
 generalize eqM r c r' c' a b = o3 at k1 k2
 rw [o2] at hr2
 refine Qi Qm Tryz.func9 rfl Qsl (by simp [c9]) fun C hP => ?_; simp only [c9]
 simp +decide (disch := first | omega | rfl | (simp +decide only [go_sem, ↓reduceIte] <;> rfl) | fail) only [go_sem, ↓reduceIte]
 refine Qcv hP hsm (by simp +decide (disch := first | omega | rfl | (simp +decide only [go_sem, ↓reduceIte, Qe, List.contains_cons, List.contains_nil, List.flatMap_cons, List.flatMap_nil, List.append_nil] <;> rfl) | fail) only [go_sem, ↓reduceIte, Qe, List.contains_cons, List.contains_nil, List.flatMap_cons, List.flatMap_nil, List.append_nil] <;> rfl) rfl ?_
 simp +decide (disch := first | omega | rfl | (simp +decide only [go_sem, ↓reduceIte, Qe, List.contains_cons, List.contains_nil, List.flatMap_cons, List.flatMap_nil, List.append_nil] <;> rfl) | fail) only [go_sem, ↓reduceIte, Qe, List.contains_cons, List.contains_nil, List.flatMap_cons, List.flatMap_nil, List.append_nil]
 refine Qa hP h1 rfl rfl rfl ?_
 simp +decide (disch := first | omega | rfl | (simp +decide only [go_sem, ↓reduceIte, Qe, List.contains_cons, List.contains_nil, List.flatMap_cons, List.flatMap_nil, List.append_nil] <;> rfl) | fail) only [go_sem, ↓reduceIte, Qe, List.contains_cons, List.contains_nil, List.flatMap_cons, List.flatMap_nil, List.append_nil]
 refine Qa hP h2 rfl rfl rfl ?_
 simp +decide (disch := first | omega | rfl | (simp +decide only [go_sem, ↓reduceIte, Qe, List.contains_cons, List.contains_nil, List.flatMap_cons, List.flatMap_nil, List.append_nil] <;> rfl) | fail) only [go_sem, ↓reduceIte, Qe, List.contains_cons, List.contains_nil, List.flatMap_cons, List.flatMap_nil, List.append_nil]
 refine Qa hP h3 rfl rfl rfl ?_
 simp +decide (disch := first | omega | rfl | (simp +decide only [go_sem, ↓reduceIte, Qe, List.contains_cons, List.contains_nil, List.flatMap_cons, List.flatMap_nil, List.append_nil] <;> rfl) | fail) only [go_sem, ↓reduceIte, Qe, List.contains_cons, List.contains_nil, List.flatMap_cons, List.flatMap_nil, List.append_nil]
 refine Qa hP h4 rfl rfl rfl ?_
 simp +decide (disch := first | omega | rfl | (simp +decide only [go_sem, ↓reduceIte, Qe, List.contains_cons, List.contains_nil, List.flatMap_cons, List.flatMap_nil, List.append_nil] <;> rfl) | fail) only [go_sem, ↓reduceIte, Qe, List.contains_cons, List.contains_nil, List.flatMap_cons, List.flatMap_nil, List.append_nil]
 refine Qa hP hr1 rfl rfl rfl ?_
 simp +decide (disch := first | omega | rfl | (simp +decide only [go_sem, ↓reduceIte, Qe, List.contains_cons, List.contains_nil, List.flatMap_cons, List.flatMap_nil, List.append_nil] <;> rfl) | fail) only [go_sem, ↓reduceIte, Qe, List.contains_cons, List.contains_nil, List.flatMap_cons, List.flatMap_nil, List.append_nil]
 repeat' first
  | refine Qcg ?_ ?_
  | simp +decide (disch := first | omega | rfl | (simp +decide only [go_sem, ↓reduceIte, Qe, List.contains_cons, List.contains_nil, List.flatMap_cons, List.flatMap_nil, List.append_nil, beq_self_eq_true] <;> rfl) | fail) only [go_sem, ↓reduceIte, Qe, List.contains_cons, List.contains_nil, List.flatMap_cons, List.flatMap_nil, List.append_nil, beq_self_eq_true]
  | refine Qa hP s1 rfl rfl rfl ?_
  | refine Qa hP s2 rfl rfl rfl ?_
  | refine Qa hP Ql0 rfl rfl rfl ?_
  | refine Qa hP hr2 rfl rfl rfl ?_
  | refine Qa hP k1 rfl rfl rfl ?_
  | refine Qa hP k2 rfl rfl rfl ?_
 all_goals exact Qc rfl rfl
theorem Qot {r c r' c' : Int} {a b : List RQ} (ha : Qao a) (hb : Qao b) (hq : (Qb7 a 25 && Qb7 b 25) = false) :
  Qd Tryz.prog 9 [PV.rmat r c a, PV.rmat r' c' b] (· = .bool true) := by
 have hsm := Qlx (l := [⟨r, c, a⟩, ⟨r', c', b⟩]) (by intro x hx; simp at hx; rcases hx with rfl | rfl; exact ha; exact hb) (by simp)
 simp only [List.all_cons, List.all_nil, Bool.and_true] at hsm
 rw [hq] at hsm
 refine Qi Qm Tryz.func9 rfl Qsl (by simp [c9]) fun C hP => ?_; simp only [c9]
 simp +decide (disch := first | omega | rfl | (simp +decide only [go_sem, ↓reduceIte] <;> rfl) | fail) only [go_sem, ↓reduceIte]
 refine Qcv hP hsm (by simp +decide (disch := first | omega | rfl | (simp +decide only [go_sem, ↓reduceIte, Qe, List.contains_cons, List.contains_nil, List.flatMap_cons, List.flatMap_nil, List.append_nil] <;> rfl) | fail) only [go_sem, ↓reduceIte, Qe, List.contains_cons, List.contains_nil, List.flatMap_cons, List.flatMap_nil, List.append_nil] <;> rfl) rfl ?_
 simp +decide (disch := first | omega | rfl | (simp +decide only [go_sem, ↓reduceIte, Qe, List.contains_cons, List.contains_nil, List.flatMap_cons, List.flatMap_nil, List.append_nil] <;> rfl) | fail) only [go_sem, ↓reduceIte, Qe, List.contains_cons, List.contains_nil, List.flatMap_cons, List.flatMap_nil, List.append_nil]
 refine Qa hP Ql0 rfl rfl rfl ?_
 simp +decide (disch := first | omega | rfl | (simp +decide only [go_sem, ↓reduceIte, Qe, List.contains_cons, List.contains_nil, List.flatMap_cons, List.flatMap_nil, List.append_nil] <;> rfl) | fail) only [go_sem, ↓reduceIte, Qe, List.contains_cons, List.contains_nil, List.flatMap_cons, List.flatMap_nil, List.append_nil]
 exact Qc rfl rfl
end Go.Proofs.YtmnkngmmfnncoaaGreat
namespace Go.Proofs.YtmnkngmmfnncoaaGreat
open Go Go.FW
set_option linter.unusedSimpArgs false
set_option linter.unusedVariables false
set_option maxRecDepth 100000
theorem Quv {l : List Rat} {k : Nat} (hl : l.length <= 1048576) (hk : k <= 1048576) (hs : ∀ q ∈ l, rs q <= k) : Qao (l.map qR) := ⟨by rw [List.length_map]; exact hl, RRk.of fun q hq => Nat.le_trans (hs q hq) hk⟩
theorem Qp6 : Qao [] := ⟨by simp, by simp⟩
theorem Qaae {a b : List Rat} {R m n k : Nat} (hk : 1 <= k) (ha : ∀ q ∈ a, rs q <= k) (hb : ∀ q ∈ b, rs q <= k) : ∀ q ∈ Qi0 a b R m n, rs q <= (m + 1) * (2 * k + 2) := fun q hq => by
 obtain ⟨j, _, rfl⟩ := List.mem_map.1 hq
 exact Qnl m fun i _ => ⟨Qg2 hk ha, Qg2 hk hb⟩
theorem Qmz {r c r' c' : Int} {a b : List RQ} (h : Qx7 r /\ Qx7 c /\ Qao a) (h' : Qx7 r' /\ Qx7 c' /\ Qao b) : Qd Tryz.prog 9 [PV.rmat r c a, PV.rmat r' c' b] (· = .bool true) := by
 have ha := h.2.2
 have hb := h'.2.2
 cases hq : (Qb7 a 25 && Qb7 b 25)
 ·exact Qot ha hb hq
 have hq' := hq
 rw [Bool.and_eq_true] at hq'
 have z : Qaf 0 0 [] = true := by decide
 cases o1 : Qaf r c a
 ·have o3 : (Qaf r c a && Qaf r' c' b) = false := by rw [o1]; rfl
  exact Qor ha hb hq o1 ⟨Qp6, z, Qp6, z, Qp4 ha o1, Qoq ha o1, Qr1 ha hb o3, Qp5 ha hb o3⟩
 obtain ⟨R, m, la, rfl, rfl, hR, hm, hla, hlen, hmat⟩ := Qwb ha o1
 obtain ⟨_, sa⟩ := Quq ha hq'.1
 rw [<- hla] at sa
 have sa' : ∀ q ∈ la, rs q <= 1048576 := fun q hq => by have := sa q hq; omega
 have hmR : m * R <= 40 * 40 := Nat.mul_le_mul hm hR
 have tL : Qao ((trL la R m).map qR) := Quv (by rw [Qes]; omega) (k := 3) (by omega) (Quu (by omega) sa)
 have tO : Qaf m R ((trL la R m).map qR) = true := Qhq (Qes _ _ _) hm hR
 have t1 := Qoa hlen hR hm sa'
 have t2 := Qmy hlen hR hm sa'
 rw [<- hmat, Qko m R] at t1 t2
 cases o2 : Qaf r' c' b
 ·have o3 : (Qaf (R : Int) (m : Int) a && Qaf r' c' b) = false := by rw [o1, o2]; rfl
  exact Qos ha hb hq o1 o2 ⟨tL, tO, Qp6, z, t1, t2, Qr1 ha hb o3, Qp5 ha hb o3⟩
 by_cases hne : (m : Int) = r'
 ·obtain ⟨R', n, lb, e1, rfl, hR', hn, hlb, hlen2, hmat2⟩ := Qwb hb o2
  obtain rfl : R' = m := by omega
  obtain ⟨_, sb⟩ := Quq hb hq'.2
  rw [<- hlb] at sb
  have sb' : ∀ q ∈ lb, rs q <= 1048576 := fun q hq => by have := sb q hq; omega
  have hRn : R * n <= 40 * 40 := Nat.mul_le_mul hR hn
  have pL : Qao ((Qi0 la lb R R' n).map qR) := Quv (by rw [Qhd]; omega) (k := (R' + 1) * (2 * 3 + 2)) (by omega) (Qaae (by omega) sa sb)
  have pO : Qaf R n ((Qi0 la lb R R' n).map qR) = true := Qhq (Qhd _ _ _ _ _) hR hn
  have p1 := Qaem hlen hlen2 hR hm hn sa' sb'
  have p2 := Qadi hlen hlen2 hR hm hn sa' sb'
  rw [<- hmat, <- hmat2, Qko R n] at p1 p2
  exact Qi1 ha hb hq o1 o2 ⟨tL, tO, pL, pO, t1, t2, p1, p2⟩
 ·exact Qi1 ha hb hq o1 o2 ⟨tL, tO, Qp6, z, t1, t2, Q55 ha hb o1 o2 hne, Q1l ha hb o1 o2 hne⟩
end Go.Proofs.YtmnkngmmfnncoaaGreat
namespace Go.Proofs.YtmnkngmmfnncoaaGreat
open Go Go.FW Go.ChangeShapes Go.WideShapes Go.ChangeAt Go.RowKit
set_option linter.unusedSimpArgs false
set_option linter.unusedVariables false
set_option maxRecDepth 100000
theorem Qi2 (H : Type) (enc : TypeId × Value -> H) (W : World) (base : Nat) (args : Array Value) (ds gs : List (DataW H)) (before : List MemPlace)
  (Qda : ∀ (j : Nat) t v, Tryz.f9.params[j]? = some t -> args[j]? = some v -> Value.okWide Tryz.prog W .any base t v)
  (hW : DataW.Whole enc Tryz.prog Tryz.f9.params.toList Rows.matrixProductsSpec.vars false W args.toList ds gs before) (hk : Rows.uptoSmall H (ds ++ gs) = true) :
  Calls Tryz.prog 9 args W fun e W' => ∃ v, e = .returned v /\ Rows.matrixProductsSpec.post enc Tryz.prog Tryz.f9 false true false false W args v W' := by
 have hW' := hW
 obtain ⟨p, q, hA0, hV, rfl, hfz, hnd⟩ := hW
 have hA : DataW.TrodAll enc Tryz.prog W 0 (fun _ => true) true Tryz.f9.params.toList args.toList ds p := hA0
 rw [Tryz.params9] at hA Qda
 obtain ⟨v0, vs0, e0, ds0, p0, q0, hargs, rfl, rfl, h0, r0⟩ := trodAll_cons hA
 obtain ⟨v1, vs1, e1, ds1, p1, q1, rfl, rfl, rfl, h1, r1⟩ := trodAll_cons r0
 obtain ⟨rfl, rfl, rfl⟩ := trodAll_nil r1
 obtain rfl : args = #[v0, v1] := by cases args; simp_all
 obtain ⟨rfl, rfl⟩ := trodVars_none hV
 have hb := Q4x hk
 simp only [List.append_nil, Rows.uptoBulkAll] at hb
 obtain ⟨r0, c0, l0, g0, b0⟩ := Qpy (Qda 0 _ v0 rfl rfl) h0 (by omega)
 obtain ⟨r1, c1, l1, g1, b1⟩ := Qpy (Qda 1 _ v1 rfl rfl) h1 (by omega)
 exact Q0p hW' rfl (by kernel_rfl) (by kernel_rfl) rfl (Qmz b0 b1) rfl
  (Q4y (vs := [v0, v1]) (by
   intro i x hx v hv
   match i, hx, hv with
   | 0, hx, hv => simp at hx hv; subst hx hv; exact g0
   | 1, hx, hv => simp at hx hv; subst hx hv; exact g1
   | i + 2, hx, hv => simp at hx) rfl)
theorem Qku (os : Os) (started : os.Started) (H : Type) (enc : TypeId × Value -> H) (F : Stop.Interp) :
  ReturnsInHanded {} Tryz.checked os 9 .any ((Rows.OpenSpec.upto Rows.matrixProductsSpec).pre6 enc Tryz.prog Tryz.f9 Rows.matrixProductsUptoRow.domain false) (((Rows.OpenSpec.upto Rows.matrixProductsSpec).at F).post enc Tryz.prog Tryz.f9 false true false false) := by
 refine returnsInHanded_of_cond (C := Tryz.checked) (s := Rows.OpenSpec.upto Rows.matrixProductsSpec) (k := Rows.uptoSmall) rfl own started (by kernel_rfl) Tryz.func9
  (OpenSpec.witness (enc := enc) (C := Tryz.checked) (s := Rows.OpenSpec.upto Rows.matrixProductsSpec) (k := Rows.uptoSmall) rfl false ⟨#[], #[.agg #[.int .i64 0, .int .i64 0, .slice none 0 0], .agg #[.int .i64 0, .int .i64 0, .slice none 0 0]], []⟩ 8 (by kernel_rfl) (by kernel_rfl) (by kernel_rfl)
   (x := ([.agg [.lit (.int .i64 0), .lit (.int .i64 0), .nil], .agg [.lit (.int .i64 0), .lit (.int .i64 0), .nil]], [], [])) (by kernel_rfl) rfl (by kernel_rfl)) ?_
 intro W base args ds gs before Qda hW _ hk _
 exact Qi2 H enc W base args ds gs before Qda hW hk
theorem matrixProducts_proved : Rows.MatrixProductsUptoSaid :=
 OpenClaim.holds_of_cond 9 Tryz.f9 rfl rfl rfl rfl rfl rfl rfl ⟨rfl, rfl, rfl, rfl, rfl⟩ rfl rfl rfl rfl rfl (by kernel_rfl) Tryz.func9 (by kernel_rfl)
  (of_decide_eq_true (by kernel_rfl)) (by unfold Func.isWrapper; first | (rw [if_pos (by decide +kernel)]; kernel_rfl) | (rw [if_neg (by decide +kernel)]; exact ⟨rfl, rfl⟩))
  (fun os started H enc _ F => Qku os started H enc F)
end Go.Proofs.YtmnkngmmfnncoaaGreat
