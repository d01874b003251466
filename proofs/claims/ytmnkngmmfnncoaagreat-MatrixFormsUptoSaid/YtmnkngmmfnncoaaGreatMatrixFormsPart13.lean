/- Part 13 of the proof of MatrixForms: B20, A8, A9, A10, A11, U5, P5, U6, P6, V1, B4, B6, B7, B8, FwVE, FwVF. Own lemmas; no conditions. -/
import Derived.Test.YtmnkngmmfnncoaaGreatMatrixFormsPart12
set_option linter.unusedSimpArgs false
set_option linter.unnecessarySimpa false
set_option linter.unusedVariables false
namespace Go.Proofs.YtmnkngmmfnncoaaGreat
open Go Go.FW
set_option linter.unusedSimpArgs false
set_option linter.unusedVariables false
set_option maxRecDepth 100000
end Go.Proofs.YtmnkngmmfnncoaaGreat
namespace Go.Proofs.YtmnkngmmfnncoaaGreat
open Go Go.FW
set_option linter.unusedSimpArgs false
set_option linter.unusedVariables false
set_option maxRecDepth 100000
theorem Qacl {n : Nat} (hn : n <= 2 ^ 30) : Qd Tryz.prog 116 [.int .i64 (n : Nat)] (· = .sl 3 (Q6 PV.rat (fun _ => (0 : Rat)) n)) := by
 refine Qg Ql Tryz.func116 rfl Qab4 (by simp [Q7t]) fun C hP => ?_; simp only [Q7t, Zo, Zg, Zm, Zc, Zf, Zl, Zh, Zs, Zi, Zb, Zk, Zn, Zu, Zq, Zr, Zz]
 simp +decide (disch := first | exact D0 | fail) only [go_sem, ↓reduceIte]
 refine Qal (by repeat (first | exact Q5 | exact Qq | exact Qr | exact Qt | exact Qu | apply Qp | apply Qz | apply Q9 | apply Qaf | apply Qag | apply Qm | apply Q7)) [(4, 4), (9, 16)] [] (fun q J hp => ∃ i xs, q = n - i /\ i <= n /\ J 9 = .int .i64 (i : Nat) /\ xs.length = n /\ hp 6 = some ⟨3, 32, xs, false⟩ /\ ∀ j, j < i -> xs[j]? = some (PV.rat 0)) n ?_ ?_
 ·refine ⟨0, List.replicate n (.agg [.bool false, .nilS, .nilS]), rfl, by omega, ?_⟩
  simp +decide (disch := first | exact D0 | fail) only [go_sem, ↓reduceIte]
  exact ⟨rfl, by simp, fun j hj => by omega⟩
 rintro _ J h ⟨i, xs, rfl, hi, h9, hl, h6, hx⟩
 simp +decide (disch := first | exact D1 h9 | fail) only [go_sem, ↓reduceIte, h9]
 refine Qb (fun hg => ?_) (fun hg => ?_)
 ·have hi' : i < n := by omega
  simp +decide (disch := first | exact D1 h9 | fail) only [go_sem, ↓reduceIte, h9]
  refine Qa hP (Qnl (x := 0) (by omega) (by omega)) rfl rfl rfl ?_
  rw [show ((0 : Int) : Rat) = 0 from rfl]
  generalize (0 : Rat) = z at *
  simp +decide (disch := first | exact D2 h9 h6 | fail) only [go_sem, ↓reduceIte, h9, h6]
  rw [Qib (n := 3) (xs := xs) (v := PV.rat z) (by omega) rfl rfl]
  simp +decide (disch := first | exact D1 h9 | fail) only [go_sem, ↓reduceIte, h9]
  refine Qad (n - (i + 1)) (by omega) ⟨i + 1, xs.set i (PV.rat z), rfl, by omega, ?_⟩
  simp +decide (disch := first | exact D0 | fail) only [go_sem, ↓reduceIte]
  refine ⟨by simp [hl], fun j hj => ?_⟩
  rw [List.getElem?_set]
  by_cases e : i = j
  ·rw [if_pos e, if_pos (by omega)]
  ·rw [if_neg e]; exact hx j (by omega)
 ·obtain rfl : i = n := by omega
  have e : xs = Q6 PV.rat (fun _ => (0 : Rat)) i := by
   refine List.ext_getElem (by simp [Q6, hl]) fun j h1 h2 => ?_
   have := hx j (by omega)
   rw [List.getElem?_eq_getElem h1] at this
   rw [Qew]; exact Option.some.inj this
  simp +decide (disch := first | exact D2 h9 h6 | fail) only [go_sem, ↓reduceIte, h9, h6]
  refine Qc ?_ ?_
  ·simp +decide (disch := first | exact E2 h6 e | fail) only [go_sem, ↓reduceIte, Qx, List.contains_cons, List.contains_nil, List.flatMap_cons, List.flatMap_nil, List.append_nil, h6, e]
   rw [List.take_of_length_le (by rw [Qas]; omega)]
  ·simp +decide (disch := first | exact E1 h6 | fail) only [go_sem, ↓reduceIte, Qx, List.contains_cons, List.contains_nil, List.flatMap_cons, List.flatMap_nil, List.append_nil, h6]
theorem Qqy {x y : Nat -> Rat} {c : Rat} {w ty1 ty2 k : Nat} (hw : w <= 2 ^ 30) (hx : ∀ i, i < w -> rs (x i) <= k) (hy : ∀ i, i < w -> rs (y i) <= k) (hc : rs c <= k) (hk : k <= 2 ^ 33) :
  Qci Tryz.prog 164 [.ms 1500000 w, .ms 1500001 w, PV.rat c] (fun _ => .undef) (Qj (Qj hp0 1500000 ⟨3, ty1, Q6 PV.rat x w, true⟩) 1500001 ⟨3, ty2, Q6 PV.rat y w, true⟩) (fun r _ _ => r = .sl 3 (Q6 PV.rat (Qea x y c) w)) := by
 refine Qe6 Ql Tryz.func164 rfl Qx1 (by simp [Qvv]) fun C hP => ?_; simp only [Qvv, Zo, Zg, Zm, Zc, Zf, Zl, Zh, Zs, Zi, Zb, Zk, Zn, Zu, Zq, Zr, Zz]
 simp +decide (disch := first | exact D0 | fail) only [go_sem, ↓reduceIte]
 refine Qal (by repeat (first | exact Q5 | exact Qq | exact Qr | exact Qt | exact Qu | apply Qp | apply Qz | apply Q9 | apply Qaf | apply Qag | apply Qm | apply Q7)) [(8, 8), (14, 31)] [] (fun q J hp => ∃ i xs, q = w - i /\ i <= w /\ J 14 = .int .i64 (i : Nat) /\ xs.length = w /\ hp 11 = some ⟨3, 32, xs, false⟩ /\ hp 5 = some ⟨3, 32, [PV.rat c], false⟩ /\ hp 1500000 = some ⟨3, ty1, Q6 PV.rat x w, true⟩ /\ hp 1500001 = some ⟨3, ty2, Q6 PV.rat y w, true⟩ /\ ∀ j, j < i -> xs[j]? = some (PV.rat (Qea x y c j))) w ?_ ?_
 ·refine ⟨0, List.replicate w (.agg [.bool false, .nilS, .nilS]), rfl, by omega, ?_⟩
  simp +decide (disch := first | exact D0 | fail) only [go_sem, ↓reduceIte]
  exact ⟨rfl, by simp, fun j hj => by omega⟩
 rintro _ J h ⟨i, xs, rfl, hi, h14, hl, h11, h5, hx1, hy1, hxs⟩
 simp +decide (disch := first | exact D1 h14 | fail) only [go_sem, ↓reduceIte, h14]
 refine Qb (fun hg => ?_) (fun hg => ?_)
 ·have hi' : i < w := by omega
  have h1 := hx i hi'
  have h2 := hy i hi'
  have hm := Qb0 c (y i)
  simp +decide (disch := first | exact D5 h14 h11 h5 hx1 hy1 | fail) only [go_sem, ↓reduceIte, h14, h11, h5, hx1, hy1]
  refine Qa hP (Qh1 (k := k) hc h2 (by omega)) rfl rfl rfl ?_
  simp +decide (disch := first | exact D5 h14 h11 h5 hx1 hy1 | fail) only [go_sem, ↓reduceIte, h14, h11, h5, hx1, hy1]
  refine Qa hP (Qod (k := 2 * k) (by omega) (by omega) (by omega)) rfl rfl rfl ?_
  simp +decide (disch := first | exact D5 h14 h11 h5 hx1 hy1 | fail) only [go_sem, ↓reduceIte, h14, h11, h5, hx1, hy1]
  rw [Qib (n := 3) (xs := xs) (v := PV.rat (x i + c * y i)) (by omega) rfl rfl]
  simp +decide (disch := first | exact D1 h14 | fail) only [go_sem, ↓reduceIte, h14]
  refine Qad (w - (i + 1)) (by omega) ⟨i + 1, xs.set i (PV.rat (x i + c * y i)), rfl, by omega, ?_⟩
  simp +decide (disch := first | exact D3 h5 hx1 hy1 | fail) only [go_sem, ↓reduceIte, h5, hx1, hy1]
  refine ⟨by simp [hl], fun j hj => ?_⟩
  rw [List.getElem?_set]
  by_cases e : i = j
  ·subst e; rw [if_pos rfl, if_pos (by omega)]; rfl
  ·rw [if_neg e]; exact hxs j (by omega)
 ·obtain rfl : i = w := by omega
  have e : xs = Q6 PV.rat (Qea x y c) i := by
   refine List.ext_getElem (by simp [Q6, hl]) fun j h1 h2 => ?_
   have := hxs j (by omega)
   rw [List.getElem?_eq_getElem h1] at this
   rw [Qew]; exact Option.some.inj this
  simp +decide (disch := first | exact D2 h14 h11 | fail) only [go_sem, ↓reduceIte, h14, h11]
  refine Qei ?_
  simp +decide (disch := first | exact D1 h11 | fail) only [go_sem, ↓reduceIte, h11]
  refine Qc ?_ ?_
  ·simp +decide (disch := first | exact E2 h11 e | fail) only [go_sem, ↓reduceIte, Qx, List.contains_cons, List.contains_nil, List.flatMap_cons, List.flatMap_nil, List.append_nil, h11, e]
   rw [List.take_of_length_le (by rw [Qas]; omega)]
  ·simp +decide (disch := first | exact E1 h11 | fail) only [go_sem, ↓reduceIte, Qx, List.contains_cons, List.contains_nil, List.flatMap_cons, List.flatMap_nil, List.append_nil, h11]
theorem Qw8 {x y : Nat -> Rat} {c : Rat} {w ty2 k : Nat} (hw : w <= 2 ^ 30) (hx : ∀ i, i < w -> rs (x i) <= k) (hy : ∀ i, i < w -> rs (y i) <= k) (hc : rs c <= k) (hk : k <= 2 ^ 33) :
  Qci Tryz.prog 164 [.sl 3 (Q6 PV.rat x w), .ms 1500001 w, PV.rat c] (fun _ => .undef) (Qj hp0 1500001 ⟨3, ty2, Q6 PV.rat y w, true⟩) (fun r _ _ => r = .sl 3 (Q6 PV.rat (Qea x y c) w)) := by
 have hrl : (Q6 PV.rat x w).length = w := Qas _ _ _
 refine Qe6 Ql Tryz.func164 rfl Qx1 (by simp [Qvv]) fun C hP => ?_; simp only [Qvv, Zo, Zg, Zm, Zc, Zf, Zl, Zh, Zs, Zi, Zb, Zk, Zn, Zu, Zq, Zr, Zz]
 simp +decide (disch := first | exact D1 hrl | fail) only [go_sem, ↓reduceIte, hrl]
 refine Qal (by repeat (first | exact Q5 | exact Qq | exact Qr | exact Qt | exact Qu | apply Qp | apply Qz | apply Q9 | apply Qaf | apply Qag | apply Qm | apply Q7)) [(8, 8), (14, 31)] [] (fun q J hp => ∃ i xs, q = w - i /\ i <= w /\ J 14 = .int .i64 (i : Nat) /\ xs.length = w /\ hp 11 = some ⟨3, 32, xs, false⟩ /\ hp 5 = some ⟨3, 32, [PV.rat c], false⟩ /\ hp 1500001 = some ⟨3, ty2, Q6 PV.rat y w, true⟩ /\ ∀ j, j < i -> xs[j]? = some (PV.rat (Qea x y c j))) w ?_ ?_
 ·refine ⟨0, List.replicate w (.agg [.bool false, .nilS, .nilS]), rfl, by omega, ?_⟩
  simp +decide (disch := first | exact D0 | fail) only [go_sem, ↓reduceIte]
  exact ⟨rfl, by simp, fun j hj => by omega⟩
 rintro _ J h ⟨i, xs, rfl, hi, h14, hl, h11, h5, hy1, hxs⟩
 simp +decide (disch := first | exact D1 h14 | fail) only [go_sem, ↓reduceIte, h14]
 refine Qb (fun hg => ?_) (fun hg => ?_)
 ·have hi' : i < w := by omega
  have h1 := hx i hi'
  have h2 := hy i hi'
  have hm := Qb0 c (y i)
  simp +decide (disch := first | exact D4 h14 h11 h5 hy1 | fail) only [go_sem, ↓reduceIte, h14, h11, h5, hy1]
  refine Qa hP (Qh1 (k := k) hc h2 (by omega)) rfl rfl rfl ?_
  simp +decide (disch := first | exact D4 h14 h11 h5 hy1 | fail) only [go_sem, ↓reduceIte, h14, h11, h5, hy1]
  refine Qa hP (Qod (k := 2 * k) (by omega) (by omega) (by omega)) rfl rfl rfl ?_
  simp +decide (disch := first | exact D4 h14 h11 h5 hy1 | fail) only [go_sem, ↓reduceIte, h14, h11, h5, hy1]
  rw [Qib (n := 3) (xs := xs) (v := PV.rat (x i + c * y i)) (by omega) rfl rfl]
  simp +decide (disch := first | exact D1 h14 | fail) only [go_sem, ↓reduceIte, h14]
  refine Qad (w - (i + 1)) (by omega) ⟨i + 1, xs.set i (PV.rat (x i + c * y i)), rfl, by omega, ?_⟩
  simp +decide (disch := first | exact D2 h5 hy1 | fail) only [go_sem, ↓reduceIte, h5, hy1]
  refine ⟨by simp [hl], fun j hj => ?_⟩
  rw [List.getElem?_set]
  by_cases e : i = j
  ·subst e; rw [if_pos rfl, if_pos (by omega)]; rfl
  ·rw [if_neg e]; exact hxs j (by omega)
 ·obtain rfl : i = w := by omega
  have e : xs = Q6 PV.rat (Qea x y c) i := by
   refine List.ext_getElem (by simp [Q6, hl]) fun j h1 h2 => ?_
   have := hxs j (by omega)
   rw [List.getElem?_eq_getElem h1] at this
   rw [Qew]; exact Option.some.inj this
  simp +decide (disch := first | exact D2 h14 h11 | fail) only [go_sem, ↓reduceIte, h14, h11]
  refine Qei ?_
  simp +decide (disch := first | exact D1 h11 | fail) only [go_sem, ↓reduceIte, h11]
  refine Qc ?_ ?_
  ·simp +decide (disch := first | exact E2 h11 e | fail) only [go_sem, ↓reduceIte, Qx, List.contains_cons, List.contains_nil, List.flatMap_cons, List.flatMap_nil, List.append_nil, h11, e]
   rw [List.take_of_length_le (by rw [Qas]; omega)]
  ·simp +decide (disch := first | exact E1 h11 | fail) only [go_sem, ↓reduceIte, Qx, List.contains_cons, List.contains_nil, List.flatMap_cons, List.flatMap_nil, List.append_nil, h11]
def Qno (M : MF) (R : Nat) : Prop := ∀ i, i < R -> ∀ k, k < i -> M i k = M k i
instance {M : MF} {R : Nat} : Decidable (Qno M R) := by unfold Qno; infer_instance
theorem Qo0 {M : MF} {R K ty tyr : Nat} (hR2 : R <= 40) (hK : K < 2 ^ 35) (hB : MBd K R R M) :
  Qci Tryz.prog 92 [.nso 1500000 0 R] (upd (fun _ => .undef) 1500000 (.nst 1500000 1 ty (Qai (Qax 1600000 R R id))))
   (fun x => if x = 1500000 then some ⟨1, ty, [], true⟩ else if 1600000 <= x /\ x < 1600000 + R then some ⟨3, tyr, Q6 PV.rat (M (x - 1600000)) R, true⟩ else none) (fun r _ _ => r = .bool (decide (Qno M R))) := by
 refine Qe6 Ql Tryz.func92 rfl Q22 (by simp [c92]) fun C hP => ?_; simp only [c92, Zo, Zg, Zm, Zc, Zf, Zl, Zh, Zs, Zi, Zb, Zk, Zn, Zu, Zq, Zr, Zz]
 simp +decide (disch := first | exact D0 | fail) only [go_sem, ↓reduceIte]
 refine Qc6 (by repeat (first | exact Q5 | exact Qq | exact Qr | exact Qt | exact Qu | apply Qp | apply Qz | apply Q9 | apply Qaf | apply Qag | apply Qm | apply Q7)) [(0, 0), (2, 4), (7, 31), (1500000, 1500000)] [] (fun q J hp => ∃ i, q = R - i /\ i <= R /\ J 0 = .nso 1500000 0 R /\ J 7 = .int .i64 (i : Nat) /\ J 1500000 = .nst 1500000 1 ty (Qai (Qax 1600000 R R id)) /\ hp 1500000 = some ⟨1, ty, [], true⟩ /\ (∀ r, r < R -> hp (1600000 + r) = some ⟨3, tyr, Q6 PV.rat (M r) R, true⟩) /\ ∀ j, j < i -> ∀ k, k < j -> M j k = M k j) R ?_ ?_
 ·refine ⟨0, rfl, by omega, ?_⟩
  simp +decide (disch := first | exact D0 | fail) only [go_sem, ↓reduceIte]
  refine ⟨rfl, fun r hr => ?_, fun j hj => by omega⟩
  rw [if_pos ⟨by omega, by omega⟩, Nat.add_sub_cancel_left]
 rintro _ J h ⟨i, rfl, hi, h0, h7, hg, hh, hr, hs⟩
 simp +decide (disch := first | exact D1 h7 | fail) only [go_sem, ↓reduceIte, h7]
 refine Qb (fun hc => ?_) (fun hc => ?_)
 ·have hi' : i < R := by omega
  simp +decide (disch := first | exact D4 h0 h7 hg hh | fail) only [go_sem, ↓reduceIte, h0, h7, hg, hh]
  refine Qc6 (by repeat (first | exact Q5 | exact Qq | exact Qr | exact Qt | exact Qu | apply Qp | apply Qz | apply Q9 | apply Qaf | apply Qag | apply Qm | apply Q7)) [(0, 0), (2, 2), (4, 4), (11, 30), (1500000, 1500000)] [] (fun q J hp => ∃ k, q = i - k /\ k <= i /\ J 0 = .nso 1500000 0 R /\ J 11 = .int .i64 (k : Nat) /\ J 1500000 = .nst 1500000 1 ty (Qai (Qax 1600000 R R id)) /\ h = hp /\ ∀ j, j < k -> M i j = M j i) i ?_ ?_
  ·refine ⟨0, rfl, by omega, ?_⟩
   simp +decide (disch := first | exact D2 h0 hg | fail) only [go_sem, ↓reduceIte, h0, hg]
   exact ⟨rfl, fun j hj => by omega⟩
  rintro _ J2 _ ⟨k, rfl, hk, i0, i11, ig, rfl, is⟩
  simp +decide (disch := first | exact D1 i11 | fail) only [go_sem, ↓reduceIte, i11]
  refine Qb (fun hc2 => ?_) (fun hc2 => ?_)
  ·have hk' : k < i := by omega
   have r1 := hr i hi'
   have r2 := hr k (by omega)
   have b1 := hB i hi' k (by omega)
   have b2 := hB k (by omega) i hi'
   simp +decide (disch := first | omega | rfl | (simp +decide only [go_sem, ↓reduceIte, i0, i11, ig, hh, r1, r2, id] <;> rfl) | fail) only [go_sem, ↓reduceIte, i0, i11, ig, hh, r1, r2, id]
   refine Qa hP (Qxz (a := M i k) (b := M k i) b1 b2 (by omega)) rfl rfl rfl ?_
   by_cases e : M i k = M k i
   ·simp +decide (disch := first | exact D2 i11 e | fail) only [go_sem, ↓reduceIte, i11, e]
    refine Qca (i - (k + 1)) (by omega) ⟨k + 1, rfl, by omega, ?_⟩
    simp +decide (disch := first | exact D2 i0 ig | fail) only [go_sem, ↓reduceIte, i0, ig]
    intro j hj
    by_cases e2 : j = k
    ·subst e2; exact e
    ·exact is j (by omega)
   ·simp +decide (disch := first | exact D1 e | fail) only [go_sem, ↓reduceIte, e]
    refine Qei ?_
    simp +decide (disch := first | exact D0 | fail) only [go_sem, ↓reduceIte]
    refine Qc ?_ rfl
    rw [decide_eq_false]
    exact fun h => e (h i hi' k hk')
  ·simp +decide (disch := first | exact D1 h7 | fail) only [go_sem, ↓reduceIte, h7]
   simp (disch := decide) only [Qda, Qd0, Qdi, Qek]
   refine Qca (R - (i + 1)) (by omega) ⟨i + 1, rfl, by omega, ?_⟩
   simp +decide (disch := first | exact D3 i0 ig hh | fail) only [go_sem, ↓reduceIte, i0, ig, hh]
   refine ⟨hr, fun j hj k' hk' => ?_⟩
   by_cases e : j = i
   ·subst e; exact is k' (by omega)
   ·exact hs j (by omega) k' hk'
 ·simp +decide (disch := first | exact D0 | fail) only [go_sem, ↓reduceIte]
  refine Qei ?_
  simp +decide (disch := first | exact D0 | fail) only [go_sem, ↓reduceIte]
  refine Qc ?_ rfl
  rw [decide_eq_true]
  exact fun j hj k hk => hs j (by omega) k hk
end Go.Proofs.YtmnkngmmfnncoaaGreat
namespace Go.Proofs.YtmnkngmmfnncoaaGreat
open Go Go.FW
set_option linter.unusedSimpArgs false
set_option linter.unusedVariables false
set_option maxRecDepth 100000
theorem Qafo {M : MF} {R K ty tyr : Nat} (hR2 : R <= 40) (hK : K < 2 ^ 30) (hB : MBd K R R M) :
  Qci Tryz.prog 93 [.nso 1500000 0 R] (upd (fun _ => .undef) 1500000 (.nst 1500000 1 ty (Qai (Qax 1600000 R R id))))
   (fun x => if x = 1500000 then some ⟨1, ty, [], true⟩ else if 1600000 <= x /\ x < 1600000 + R then some ⟨3, tyr, Q6 PV.rat (M (x - 1600000)) R, true⟩ else none) (fun r _ _ => r = .sl 4 ((Qbe M R).map (PV.form R))) := by
 refine Qe6 Ql Tryz.func93 rfl Qae7 (by simp [c93]) fun C hP => ?_; simp only [c93, Zo, Zg, Zm, Zc, Zf, Zl, Zh, Zs, Zi, Zb, Zk, Zn, Zu, Zq, Zr, Zz]
 simp +decide (disch := first | exact D0 | fail) only [go_sem, ↓reduceIte]
 refine Qa hP (Qnl (x := 1) (by omega) (by omega)) rfl rfl rfl ?_
 rw [show ((1 : Int) : Rat) = 1 from rfl]
 obtain ⟨u, hu⟩ : ∃ u : Rat, (1 : Rat) = u := ⟨_, rfl⟩
 rw [hu]
 simp +decide (disch := first | exact D0 | fail) only [go_sem, ↓reduceIte]
 refine Qc6 (by repeat (first | exact Q5 | exact Qq | exact Qr | exact Qt | exact Qu | apply Qp | apply Qz | apply Q9 | apply Qaf | apply Qag | apply Qm | apply Q7)) [(0, 0), (2, 2), (4, 7), (16, 47), (1500000, 1500000)] [5, 6, 46] (fun q J hp => ∃ i, q = R - i /\ i <= R /\ J 0 = .nso 1500000 0 R /\ J 16 = .int .i64 (i : Nat) /\ J 1500000 = .nst 1500000 1 ty (Qai (Qax 1600000 R R id)) /\ hp 1500000 = some ⟨1, ty, [], true⟩ /\ (∀ r, r < R -> hp (1600000 + r) = some ⟨3, tyr, Q6 PV.rat (M r) R, true⟩) /\ hp 3 = some ⟨3, 32, [PV.rat u], false⟩ /\ ∀ j, j < i -> M j j = 0) R ?_ ?_
 ·refine ⟨0, rfl, by omega, ?_⟩
  simp +decide (disch := first | exact D0 | fail) only [go_sem, ↓reduceIte]
  refine ⟨rfl, fun r hr => ?_, fun j hj => by omega⟩
  rw [if_pos ⟨by omega, by omega⟩, Nat.add_sub_cancel_left]
 rintro _ J h ⟨i, rfl, hi, h0, h16, hg, hh, hr, h3, hz⟩
 simp +decide (disch := first | exact D1 h16 | fail) only [go_sem, ↓reduceIte, h16]
 refine Qb (fun hc => ?_) (fun hc => ?_)
 ·have hi' : i < R := by omega
  have r1 := hr i hi'
  have b1 := hB i hi' i hi'
  simp +decide (disch := first | omega | rfl | (simp +decide only [go_sem, ↓reduceIte, h0, h16, hg, hh, r1, id] <;> rfl) | fail) only [go_sem, ↓reduceIte, h0, h16, hg, hh, r1, id]
  refine Qa hP (Qih (a := M i i) (by omega)) rfl rfl rfl ?_
  simp +decide (disch := first | omega | rfl | (simp +decide only [go_sem, ↓reduceIte, h0, h16, hg, hh, r1, id] <;> rfl) | fail) only [go_sem, ↓reduceIte, h0, h16, hg, hh, r1, id]
  refine Qb (fun hs => ?_) (fun hs => ?_)
  ·have hne : M i i ≠ 0 := fun e => hs (Qde.2 e)
   simp +decide (disch := first | exact D1 h3 | fail) only [go_sem, ↓reduceIte, h3]
   refine Qa hP (Qzs (a := u) (b := M i i) (k := K + 1) (by rw [<- hu]; have := Qrt; omega) (by omega) (by omega) hne) rfl rfl rfl ?_
   simp +decide (disch := first | omega | rfl | (simp +decide only [go_sem, ↓reduceIte, h0, h16, hg, hh, r1, id] <;> rfl) | fail) only [go_sem, ↓reduceIte, h0, h16, hg, hh, r1, id]
   refine Qa hP (Qacl (n := R) (by omega)) rfl rfl rfl ?_
   simp +decide (disch := first | exact D0 | fail) only [go_sem, ↓reduceIte]
   have hbd : rs (u / M i i) <= K + 2 := by
    rw [Rat.div_def]
    have q1 := Qb0 u (M i i)⁻¹
    have q2 := Qv0 (M i i) hne
    have q3 := Qrt
    rw [hu] at q3
    omega
   have cmb := Qw8 (w := R) (x := fun _ => (0 : Rat)) (y := M i) (c := u / M i i) (ty2 := tyr) (k := K + 2) (by omega) (fun _ _ => by have := Qru; omega) (fun c hc => by have := hB i hi' c hc; omega) hbd (by omega)
   refine Qacd hP (hb1 := ⟨3, tyr, Q6 PV.rat (M i) R, true⟩) cmb T0 (γ1 := 1600000 + i) (T1 r1) T0 (fun γ hγ => by simpa [PV.refs, PV.sref] using hγ) (by simp) ?_
   simp +decide (disch := first | exact D1 h0 | fail) only [go_sem, ↓reduceIte, h0]
   refine Qei ?_
   simp +decide (disch := first | exact D0 | fail) only [go_sem, ↓reduceIte]
   refine Qc ?_ ?_
   ·simp +decide (disch := first | exact E0 | fail) only [go_sem, ↓reduceIte, Qx, List.contains_cons, List.contains_nil, List.flatMap_cons, List.flatMap_nil, List.append_nil]
    have hdi : Qdw M R = i := Qoc (Nat.zero_le _) (by omega) (decide_eq_true hne) fun j _ hj => decide_eq_false (fun h => h (hz j hj))
    unfold Qbe
    rw [hdi, if_pos hi', <- hu]
    rfl
   ·simp +decide (disch := first | exact E0 | fail) only [go_sem, ↓reduceIte, Qx, List.contains_cons, List.contains_nil, List.flatMap_cons, List.flatMap_nil, List.append_nil]
  ·simp +decide (disch := first | exact D1 h16 | fail) only [go_sem, ↓reduceIte, h16]
   refine Qca (R - (i + 1)) (by omega) ⟨i + 1, rfl, by omega, ?_⟩
   simp +decide (disch := first | exact D4 h0 hg hh h3 | fail) only [go_sem, ↓reduceIte, h0, hg, hh, h3]
   refine ⟨hr, fun j hj => ?_⟩
   by_cases e : j = i
   ·subst e; exact Qde.1 (Classical.not_not.1 hs)
   ·exact hz j (by omega)
 ·obtain rfl : i = R := by omega
  have hnd : ¬ Qdw M i < i := by
   have : Qdw M i = 0 + i := Qlk fun j _ hj => decide_eq_false (fun h => h (hz j (by omega)))
   omega
  simp +decide (disch := first | exact D1 h0 | fail) only [go_sem, ↓reduceIte, h0]
  refine Qc6 (by repeat (first | exact Q5 | exact Qq | exact Qr | exact Qt | exact Qu | apply Qp | apply Qz | apply Q9 | apply Qaf | apply Qag | apply Qm | apply Q7)) [(0, 0), (2, 2), (8, 12), (50, 101), (1500000, 1500000)] [10, 11, 99] (fun q J hp => ∃ a, q = i - a /\ a <= i /\ J 0 = .nso 1500000 0 i /\ J 50 = .int .i64 (a : Nat) /\ J 1500000 = .nst 1500000 1 ty (Qai (Qax 1600000 i i id)) /\ hp 1500000 = some ⟨1, ty, [], true⟩ /\ (∀ r, r < i -> hp (1600000 + r) = some ⟨3, tyr, Q6 PV.rat (M r) i, true⟩) /\ hp 3 = some ⟨3, 32, [PV.rat u], false⟩ /\ ∀ j, j < a -> ∀ k, k < i -> M j k = 0) i ?_ ?_
  ·refine ⟨0, rfl, by omega, ?_⟩
   simp +decide (disch := first | exact D4 h0 hg hh h3 | fail) only [go_sem, ↓reduceIte, h0, hg, hh, h3]
   exact ⟨rfl, hr, fun j hj => by omega⟩
  rintro _ J1 h1 ⟨a, rfl, ha, a0, a50, ag, ah, ar, a3, az⟩
  simp +decide (disch := first | exact D1 a50 | fail) only [go_sem, ↓reduceIte, a50]
  refine Qb (fun hca => ?_) (fun hca => ?_)
  ·have ha' : a < i := by omega
   have r1 := ar a ha'
   simp +decide (disch := first | omega | rfl | (simp +decide only [go_sem, ↓reduceIte, a0, a50, ag, ah, r1, id] <;> rfl) | fail) only [go_sem, ↓reduceIte, a0, a50, ag, ah, r1, id]
   refine Qc6 (by repeat (first | exact Q5 | exact Qq | exact Qr | exact Qt | exact Qu | apply Qp | apply Qz | apply Q9 | apply Qaf | apply Qag | apply Qm | apply Q7)) [(0, 0), (2, 2), (9, 12), (56, 56), (58, 100), (1500000, 1500000)] [10, 11, 99] (fun q J hp => ∃ b, q = i - b /\ b <= i /\ J 0 = .nso 1500000 0 i /\ J 56 = .ms (1600000 + a) i /\ J 58 = .int .i64 (b : Nat) /\ J 1500000 = .nst 1500000 1 ty (Qai (Qax 1600000 i i id)) /\ hp 1500000 = some ⟨1, ty, [], true⟩ /\ (∀ r, r < i -> hp (1600000 + r) = some ⟨3, tyr, Q6 PV.rat (M r) i, true⟩) /\ hp 3 = some ⟨3, 32, [PV.rat u], false⟩ /\ ∀ k, k < b -> M a k = 0) i ?_ ?_
   ·refine ⟨0, rfl, by omega, ?_⟩
    simp +decide (disch := first | exact D4 a0 ag ah a3 | fail) only [go_sem, ↓reduceIte, a0, ag, ah, a3]
    exact ⟨rfl, ar, fun j hj => by omega⟩
   rintro _ J2 h2 ⟨b, rfl, hb, b0, b56, b58, bg, bh, br, b3, bz⟩
   simp +decide (disch := first | exact D1 b58 | fail) only [go_sem, ↓reduceIte, b58]
   refine Qb (fun hcb => ?_) (fun hcb => ?_)
   ·have hb' : b < i := by omega
    have s1 := br a ha'
    have s2 := br b hb'
    have b1 := hB a ha' b hb'
    simp +decide (disch := first | omega | rfl | (simp +decide only [go_sem, ↓reduceIte, b0, b56, b58, bg, bh, s1, s2, id] <;> rfl) | fail) only [go_sem, ↓reduceIte, b0, b56, b58, bg, bh, s1, s2, id]
    refine Qa hP (Qih (a := M a b) (by omega)) rfl rfl rfl ?_
    simp +decide (disch := first | omega | rfl | (simp +decide only [go_sem, ↓reduceIte, b0, b56, b58, bg, bh, s1, s2, id] <;> rfl) | fail) only [go_sem, ↓reduceIte, b0, b56, b58, bg, bh, s1, s2, id]
    refine Qb (fun hs => ?_) (fun hs => ?_)
    ·have hne : M a b ≠ 0 := fun e => hs (Qde.2 e)
     have hab : a ≠ b := fun e => hne (by rw [<- e]; exact hz a ha')
     simp +decide (disch := first | omega | rfl | (simp +decide only [go_sem, ↓reduceIte, b0, b56, b58, bg, bh, b3, s1, s2, id] <;> rfl) | fail) only [go_sem, ↓reduceIte, b0, b56, b58, bg, bh, b3, s1, s2, id]
     have q1 := Qle (M a b) (M a b)
     have hne2 : M a b + M a b ≠ 0 := fun h => hne (by grind)
     have q2 : rs u <= 1 := by rw [<- hu]; exact Qrt
     have c1 := Qod (a := M a b) (b := M a b) (k := K) b1 b1 (by omega)
     have c2 := Qzs (a := u) (b := M a b + M a b) (k := 2 * K + 1) (by omega) (by omega) (by omega) hne2
     have q3 : rs (u / (M a b + M a b)) <= 2 * K + 2 := by
      rw [Rat.div_def]
      have := Qb0 u (M a b + M a b)⁻¹
      have := Qv0 (M a b + M a b) hne2
      omega
     have c3 := Q8p (a := u / (M a b + M a b)) q3 (by omega)
     have c4 := Qnl (x := -1) (by omega) (by omega)
     rw [show ((-1 : Int) : Rat) = -1 from rfl] at c4
     obtain ⟨v, hv⟩ : ∃ v : Rat, (-1 : Rat) = v := ⟨_, rfl⟩
     have q4 : rs v <= 1 := by rw [<- hv, Qlf]; exact Qrt
     rw [hv] at c4
     have c5 := Qqy (w := i) (x := M a) (y := M b) (c := u) (ty1 := tyr) (ty2 := tyr) (k := K + 2) (by omega) (fun c hc => by have := hB a ha' c hc; omega) (fun c hc => by have := hB b hb' c hc; omega) (by omega) (by omega)
     have c6 := Qqy (w := i) (x := M a) (y := M b) (c := v) (ty1 := tyr) (ty2 := tyr) (k := K + 2) (by omega) (fun c hc => by have := hB a ha' c hc; omega) (fun c hc => by have := hB b hb' c hc; omega) (by omega) (by omega)
     have hci : Qe1 M i a = b := Qoc (Nat.zero_le _) (by omega) (decide_eq_true hne) fun j _ hj => decide_eq_false (fun h => h (bz j hj))
     have hri : Qdo M i = a := Qoc (Nat.zero_le _) (by omega) (decide_eq_true (by rw [hci]; exact hb')) fun j _ hj => decide_eq_false (fun h => by
      have : Qe1 M i j = 0 + i := Qlk fun k _ hk => decide_eq_false (fun h2 => h2 (az j (by omega) k (by omega)))
      omega)
     have hnx : Qbe M i = [(u / (M a b + M a b), Qea (M a) (M b) u), (-(u / (M a b + M a b)), Qea (M a) (M b) v)] := by
      unfold Qbe
      rw [if_neg hnd, hri, if_pos ha', hci, <- hu, <- hv]
     have hab2 : ¬ 1600000 + b = 1600000 + a := by omega
     repeat' first
      | refine Qev ?_ ?_
      | refine Qa hP c1 rfl rfl rfl ?_
      | refine Qa hP c2 rfl rfl rfl ?_
      | simp +decide (disch := first | omega | rfl | (simp +decide only [go_sem, ↓reduceIte, b0, b56, b58, bg, bh, b3, s1, s2, id] <;> rfl) | fail) only [go_sem, ↓reduceIte, b0, b56, b58, bg, bh, b3, s1, s2, id]
     all_goals
      refine Qx3 hP (hb1 := ⟨3, tyr, Q6 PV.rat (M a) i, true⟩) (hb2 := ⟨3, tyr, Q6 PV.rat (M b) i, true⟩) c5 T0 (γ1 := 1600000 + a) (γ2 := 1600000 + b) (T1 s1) (T1 s2) (by omega) (T1 hab2) (fun γ hγ => by simpa [PV.refs, PV.sref] using hγ) (by simp) ?_
      simp +decide (disch := first | omega | rfl | (simp +decide only [go_sem, ↓reduceIte, b0, b56, b58, bg, bh, b3, s1, s2, id] <;> rfl) | fail) only [go_sem, ↓reduceIte, b0, b56, b58, bg, bh, b3, s1, s2, id]
      refine Qa hP c3 rfl rfl rfl ?_
      simp +decide (disch := first | omega | rfl | (simp +decide only [go_sem, ↓reduceIte, b0, b56, b58, bg, bh, b3, s1, s2, id] <;> rfl) | fail) only [go_sem, ↓reduceIte, b0, b56, b58, bg, bh, b3, s1, s2, id]
      refine Qa hP c4 rfl rfl rfl ?_
      simp +decide (disch := first | omega | rfl | (simp +decide only [go_sem, ↓reduceIte, b0, b56, b58, bg, bh, b3, s1, s2, id] <;> rfl) | fail) only [go_sem, ↓reduceIte, b0, b56, b58, bg, bh, b3, s1, s2, id]
      refine Qx3 hP (hb1 := ⟨3, tyr, Q6 PV.rat (M a) i, true⟩) (hb2 := ⟨3, tyr, Q6 PV.rat (M b) i, true⟩) c6 T0 (γ1 := 1600000 + a) (γ2 := 1600000 + b) (T1 s1) (T1 s2) (by omega) (T1 hab2) (fun γ hγ => by simpa [PV.refs, PV.sref] using hγ) (by simp) ?_
      simp +decide (disch := first | omega | rfl | (simp +decide only [go_sem, ↓reduceIte, b0, b56, b58, bg, bh, b3, s1, s2, id] <;> rfl) | fail) only [go_sem, ↓reduceIte, b0, b56, b58, bg, bh, b3, s1, s2, id]
      refine Qei ?_
      simp +decide (disch := first | exact D0 | fail) only [go_sem, ↓reduceIte]
      refine Qc ?_ ?_
      ·simp +decide (disch := first | exact E0 | fail) only [go_sem, ↓reduceIte, Qx, List.contains_cons, List.contains_nil, List.flatMap_cons, List.flatMap_nil, List.append_nil]
       rw [hnx]; rfl
      ·simp +decide (disch := first | exact E0 | fail) only [go_sem, ↓reduceIte, Qx, List.contains_cons, List.contains_nil, List.flatMap_cons, List.flatMap_nil, List.append_nil]
    ·simp +decide (disch := first | exact D1 b58 | fail) only [go_sem, ↓reduceIte, b58]
     refine Qca (i - (b + 1)) (by omega) ⟨b + 1, rfl, by omega, ?_⟩
     simp +decide (disch := first | exact D5 b0 b56 bg bh b3 | fail) only [go_sem, ↓reduceIte, b0, b56, bg, bh, b3]
     refine ⟨br, fun j hj => ?_⟩
     by_cases e : j = b
     ·subst e; exact Qde.1 (Classical.not_not.1 hs)
     ·exact bz j (by omega)
   ·simp +decide (disch := first | exact D0 | fail) only [go_sem, ↓reduceIte]
    simp (disch := decide) only [Qda, Qd0, Qdi, Qek]
    simp +decide (disch := first | exact D1 a50 | fail) only [go_sem, ↓reduceIte, a50]
    refine Qca (i - (a + 1)) (by omega) ⟨a + 1, rfl, by omega, ?_⟩
    simp +decide (disch := first | exact D4 b0 bg bh b3 | fail) only [go_sem, ↓reduceIte, b0, bg, bh, b3]
    refine ⟨br, fun j hj k hk => ?_⟩
    by_cases e : j = a
    ·subst e; exact bz k (by omega)
    ·exact az j (by omega) k hk
  ·simp +decide (disch := first | exact D0 | fail) only [go_sem, ↓reduceIte]
   refine Qei ?_
   simp +decide (disch := first | exact D0 | fail) only [go_sem, ↓reduceIte]
   refine ⟨rfl, .sl 4 [], trivial, ?_⟩
   unfold Qbe
   have e1 : ¬ Qdo M i < i := by
    have : Qdo M i = 0 + i := Qlk fun j _ hj => decide_eq_false (fun h => by
     have : Qe1 M i j = 0 + i := Qlk fun k _ hk => decide_eq_false (fun h2 => h2 (az j (by omega) k (by omega)))
     omega)
    omega
   rw [if_neg hnd, if_neg e1]
   rfl
end Go.Proofs.YtmnkngmmfnncoaaGreat
namespace Go.Proofs.YtmnkngmmfnncoaaGreat
open Go Go.FW
set_option linter.unusedSimpArgs false
set_option linter.unusedVariables false
set_option maxRecDepth 100000
def c29 : SFn := ⟨83, [.t 2, .cell 3 3 true, .t 4], Zr (Zo (.box 1 3 24 (.t 0)) <|
 Zo (.mv 2 (.c .nilS)) <|
 Zo (.alloc 3 3 24 (.agg [Zz 0, Zz 0, .nilS])) <|
 Zc 4 0 .nil) <| .seq (Zr (Zh 10 3 1 <|
 Zq 11 false 25 [.t 10] <|
 Zu 12 11 .nil) <| .cond (.t 12) (Zr (Zo (.bld 13 [Zz 0, Zz 0, .nilS] []) <|
 Zo (.mv 2 (.c .nilS)) <|
 Zs 3 3 13 <|
 Zc 4 1 .nil) .ret) .skip) <| Zr (Zh 14 3 1 <|
 Zq 15 false 78 [.t 14] <|
 Zm 5 15 .nil) <| .seq (Zr (Zf 16 0 1 <|
 Zl 17 1 16 <|
 Zf 18 1 1 <|
 Zl 19 1 18 <|
 Zb 20 .neq 17 19 <|
 Zm 21 20 <|
 Zg 21 false (.mv 22 (.t 5)) <|
 Zg 21 false (.call (some 23) false (.c (.fn 92 [] [])) [.t 22]) <|
 Zg 21 false (.un 24 .not (.t 23)) <|
 Zo (.pick 25 (.t 21) (.c (.bool true)) (.t 24)) .nil) <| .cond (.t 25) (Zr (Zo (.bld 26 [Zz 0, Zz 0, .nilS] []) <|
 Zo (.mv 2 (.c .nilS)) <|
 Zs 3 3 26 <|
 Zc 4 16 .nil) .ret) .skip) <| Zr (Zf 27 1 1 <|
 Zl 28 1 27 <|
 Zf 29 1 3 <|
 Zs 1 29 28 .nil) <| .seq (Zr (Zf 30 0 1 <|
 Zl 31 1 30 <|
 Zo (.bin 32 .mul false (.c (Zz 2)) (.t 31)) <|
 Zc 33 0 <|
 .wk <| .wk <| .wk .nil) <| .block 0 <| .loop <| Zr (Zb 34 .lss 33 32 .nil) <| .seq (.cond (.t 34) .skip (.exit 0)) <| .seq (.block 1 <| Zr (Zm 35 5 <|
 Zq 36 false 93 [.t 35] <|
 Zm 6 36 .nil) <| Zr (Zm 37 6 <|
 Zn 38 37 <|
 Zc 39 0 .nil) <| .block 2 <| .loop <| Zr (Zb 40 .lss 39 38 .nil) <| .seq (.cond (.t 40) .skip (.exit 2)) <| .seq (.block 3 <| Zr (Zi 41 4 37 39 <|
 Zh 42 4 41 <|
 Zo (.alloc 8 4 109 (.agg [.bool false, .nilS, .nilS, .nilS])) <|
 Zs 4 8 42 .nil) <| Zr (Zm 43 2 <|
 Zf 44 0 8 <|
 Zh 45 3 44 <|
 Zo (.bs 46 3 32 [.t 45]) <|
 Zo (.app 47 3 56 32 (.t 43) (.t 46)) <|
 Zm 2 47 .nil) <| Zr (Zf 48 2 3 <|
 Zl 49 1 48 <|
 Zf 50 3 8 <|
 Zl 51 1 50 <|
 Zo (.app 52 3 56 32 (.t 49) (.t 51)) <|
 Zf 53 2 3 <|
 Zs 1 53 52 .nil) <| Zr (Zf 54 0 3 <|
 Zl 55 1 54 <|
 Zk 56 .add 55 1 <|
 Zf 57 0 3 <|
 Zs 1 57 56 .nil) <| Zr (Zm 58 5 <|
 Zn 59 58 <|
 Zc 60 0 .nil) <| .block 4 <| .loop <| Zr (Zb 61 .lss 60 59 .nil) <| .seq (.cond (.t 61) .skip (.exit 4)) <| .seq (.block 5 <| Zr (Zm 62 60 <|
 Zm 9 62 .nil) <| .rg (Zm 63 5 <|
 Zm 64 9 <|
 Zi 65 1 63 64 <|
 Zl 66 1 65 <|
 Zf 67 3 8 <|
 Zl 68 1 67 <|
 Zf 69 0 8 <|
 Zh 70 3 69 <|
 Zf 71 3 8 <|
 Zl 72 1 71 <|
 Zm 73 9 <|
 Zi 74 3 72 73 <|
 Zh 75 3 74 <|
 Zq 76 true 38 [.t 70, .t 75] <|
 Zq 77 false 94 [.t 66, .t 68, .t 76] .nil)) <| .rg (Zk 78 .add 60 1 <|
 Zm 60 78 .nil)) <| .rg (Zk 79 .add 39 1 <|
 Zm 39 79 .nil)) <| .rg (Zk 80 .add 33 1 <|
 Zm 33 80 .nil)) <| Zr (Zm 81 2 <|
 Zh 82 3 3 <|
 .wk <| Zm 2 81 <|
 Zs 3 3 82 <|
 Zc 4 0 .nil) .ret⟩
theorem Qqz : Qe Tryz.prog Tryz.f29 = some c29.strip := by kernel_rfl
theorem Qw9 {x y : Nat -> Rat} {c : Rat} {w ty1 k : Nat} (hw : 0 < w) (hw2 : w <= 2 ^ 30) (hx : ∀ i, i < w -> rs (x i) <= k) (hy : ∀ i, i < w -> rs (y i) <= k) (hc : rs c <= k) (hk : k <= 2 ^ 33) :
  Qci Tryz.prog 94 [.ms 1000000 w, .sl 3 (Q6 PV.rat y w), PV.rat c] (fun _ => .undef) (Qj hp0 1000000 ⟨3, ty1, Q6 PV.rat x w, false⟩) (fun r F H => Qfp r /\ ∃ xs, H 1000000 = some ⟨3, ty1, xs, false⟩ /\ xs.length = (Q6 PV.rat x w).length /\ (r = .tup [] /\ xs = Q6 PV.rat (fun i => x i - c * y i) w)) := by
 refine Qe6 Ql Tryz.func94 rfl Q21 (by simp [c94]) fun C hP => ?_; simp only [c94, Zo, Zg, Zm, Zc, Zf, Zl, Zh, Zs, Zi, Zb, Zk, Zn, Zu, Zq, Zr, Zz]
 simp +decide (disch := first | exact D0 | fail) only [go_sem, ↓reduceIte]
 refine Qa hP (Qih (a := c) (by omega)) rfl rfl rfl ?_
 simp +decide (disch := first | exact D0 | fail) only [go_sem, ↓reduceIte]
 refine Qb (fun h0 => ?_) (fun h0 => ?_)
 ·simp +decide (disch := first | exact D0 | fail) only [go_sem, ↓reduceIte]
  refine Qkc ?_
  simp +decide (disch := first | exact D0 | fail) only [go_sem, ↓reduceIte]
  refine ⟨_, rfl, rfl, Qce fun i hi => ?_⟩
  rw [Qde.1 h0, Rat.zero_mul, Rat.sub_eq_add_neg, Rat.neg_zero, Rat.add_zero]
 simp +decide (disch := first | exact D0 | fail) only [go_sem, ↓reduceIte]
 refine Qal (by repeat (first | exact Q5 | exact Qq | exact Qr | exact Qt | exact Qu | apply Qp | apply Qz | apply Q9 | apply Qaf | apply Qag | apply Qm | apply Q7)) [(6, 6), (12, 29)] [] (fun n J hp => ∃ i, n = w - i /\ i <= w /\ J 12 = .int .i64 (i : Nat) /\ hp 5 = some ⟨3, 32, [PV.rat c], false⟩ /\ hp 1000000 = some ⟨3, ty1, Q6 PV.rat (fun j => if j < i then x j - c * y j else x j) w, false⟩) w ?_ ?_
 ·refine ⟨0, rfl, by omega, ?_⟩
  simp +decide (disch := first | exact D0 | fail) only [go_sem, ↓reduceIte]
  exact ⟨rfl, Qtw (Qce fun k _ => (if_neg (Nat.not_lt_zero k)).symm)⟩
 rintro _ J h ⟨i, rfl, hi, h12, h5, hx1⟩
 simp +decide (disch := first | exact D1 h12 | fail) only [go_sem, ↓reduceIte, h12]
 refine Qb (fun hg => ?_) (fun hg => ?_)
 ·have hi' : i < w := by omega
  have hm := Qb0 c (y i)
  have h1 := hx i hi'
  have h2 := hy i hi'
  simp +decide (disch := first | exact D3 h12 h5 hx1 | fail) only [go_sem, ↓reduceIte, h12, h5, hx1]
  rw [if_neg (Nat.lt_irrefl i)]
  refine Qa hP (Qh1 (k := k) hc h2 (by omega)) rfl rfl rfl ?_
  simp +decide (disch := first | exact D3 h12 h5 hx1 | fail) only [go_sem, ↓reduceIte, h12, h5, hx1]
  refine Qa hP (Q8o (k := 2 * k) (by omega) (by omega) (by omega)) rfl rfl rfl ?_
  simp +decide (disch := first | exact D3 h12 h5 hx1 | fail) only [go_sem, ↓reduceIte, h12, h5, hx1]
  rw [Qr4 hi']
  simp +decide (disch := first | exact D1 h12 | fail) only [go_sem, ↓reduceIte, h12]
  refine Qad (w - (i + 1)) (by omega) ⟨i + 1, rfl, by omega, ?_⟩
  simp +decide (disch := first | exact D1 h5 | fail) only [go_sem, ↓reduceIte, h5]
  refine Qtw (Qce fun k _ => ?_)
  by_cases e : k = i
  ·subst e; rw [if_pos rfl, if_pos (by omega)]
  ·rw [if_neg e]
   by_cases e2 : k < i
   ·rw [if_pos e2, if_pos (by omega)]
   ·rw [if_neg e2, if_neg (by omega)]
 ·obtain rfl : i = w := by omega
  simp +decide (disch := first | exact D1 h12 | fail) only [go_sem, ↓reduceIte, h12]
  refine Qkc ?_
  simp +decide (disch := first | exact D1 hx1 | fail) only [go_sem, ↓reduceIte, hx1]
  exact ⟨_, rfl, by rw [Qas, Qas], Qce fun k hk => if_pos hk⟩
theorem Qkf {R w x : Nat} {M : MF} {hp : HP} (h : x < 3000000) (h2 : ¬ x = 2000000) : Qhd R w M hp x = hp x := by
 unfold Qhd
 rw [if_neg h2, if_neg (by omega)]
abbrev Qz3 (R n : Nat) : PV := .rag [.int .i64 (n : Nat), .int .i64 (R : Nat), .mso 2000002 0 (n * R)]
abbrev Qz4 (R : Nat) (l : List LF) : PV := .tup [PV.rats (l.map (·.1)), PV.mat l.length R (Qch R l), .int .i64 0]
theorem Qv3 {R K : Nat} {l : List Rat} (hl : l.length = R * R) (hR0 : 0 < R) (hR2 : R <= 40) (hs : ∀ q ∈ l, rs q <= 1048576) (hK : K < 2 ^ 28) (hB : Qr5 K R (2 * R) (Qam l R)) (hsym : Qno (Qam l R) R) :
  Qd Tryz.prog 29 [PV.mat R R l] (· = Qz4 R (Qak R (Qam l R) (2 * R)).2) := by
 refine Qe7 Ql Tryz.func29 rfl Qqz (by simp [c29]) fun C hP => ?_; simp only [c29, Zo, Zg, Zm, Zc, Zf, Zl, Zh, Zs, Zi, Zb, Zk, Zn, Zu, Zq, Zr, Zz]
 simp +decide (disch := first | exact D0 | fail) only [go_sem, ↓reduceIte]
 refine Qa hP (Qfd hl hR2 hR2 hs) rfl rfl rfl ?_
 simp +decide (disch := first | exact D0 | fail) only [go_sem, ↓reduceIte]
 have hfree : ∀ (hp : HP), (∀ x, 5 <= x -> hp x = none) -> ∀ x, nmR R x = true -> hp x = none := fun hp h x hx => h x (by have := Qi0 hx; omega)
 refine Qke hP hl hR0 hR2 hR2 (by omega) (hfree _ (fun x hx => by simp +decide (disch := first | exact D4 (show ¬ x = 1 from by omega) (show ¬ x = 2 from by omega) (show ¬ x = 3 from by omega) (show ¬ x = 4 from by omega) | fail) only [go_sem, ↓reduceIte, show ¬ x = 1 from by omega, show ¬ x = 2 from by omega, show ¬ x = 3 from by omega, show ¬ x = 4 from by omega] <;> rfl)) ?_
 simp +decide (disch := first | omega | rfl | (simp +decide only [go_sem, ↓reduceIte, Qbr, Qeb, Qaz] <;> rfl) | fail) only [go_sem, ↓reduceIte, Qbr, Qeb, Qaz]
 have hB0 := hB 0 (by omega)
 have hx := Qo0 (K := K) (ty := 22) (tyr := 32) hR2 (by omega) hB0.1
 repeat' first
  | refine Qev ?_ ?_
  | refine Qr6 (ys := fun r => Q6 PV.rat (Qam l R r) R) hP (by omega) hx (by simp [Qqw]) T0 (by simp +decide (disch := first | omega | rfl | (simp +decide only [go_sem, ↓reduceIte, Qga] <;> rfl) | fail) only [go_sem, ↓reduceIte, Qga]) (fun r hr => by simp +decide (disch := first | omega | rfl | (simp +decide only [go_sem, ↓reduceIte, Qel] <;> rfl) | fail) only [go_sem, ↓reduceIte, Qel]) ?_
  | simp +decide (disch := first | omega | rfl | (simp +decide only [go_sem, ↓reduceIte, Qbr, Qeb, Qaz] <;> rfl) | fail) only [go_sem, ↓reduceIte, Qbr, Qeb, Qaz]
 rw [show (Qak R (Qam l R) 0).1 = Qam l R from rfl, decide_eq_true hsym]
 simp +decide (disch := first | omega | rfl | (simp +decide only [go_sem, ↓reduceIte, Qbr, Qeb, Qaz] <;> rfl) | fail) only [go_sem, ↓reduceIte, Qbr, Qeb, Qaz]
 refine Qc9 (Qtv 3 2000001 (by simp +decide (disch := first | omega | rfl | (simp +decide only [go_sem, ↓reduceIte, Qkf] <;> rfl) | fail) only [go_sem, ↓reduceIte, Qkf] <;> rfl) (by omega) rfl (by omega)) ?_
 have hmv : rnP (mvN 3 2000001) (.nst 2000000 1 22 (Qai (Qax 3000000 R R id))) = .nst 2000000 1 22 (Qai (Qax 3000000 R R id)) := mv_P (by omega) (by omega) (by omega)
 simp +decide (disch := first | exact D1 hmv | fail) only [go_sem, ↓reduceIte, hmv]
 refine Qc9 (Qvh (γ := 2000001) (e := 3) (ty := 24) (xs := [.agg [.int .i64 0, .int .i64 (R : Nat), .nilS]]) (fz := false) T0 (by simp) (by omega) (fun x hx => by rw [List.mem_singleton.1 hx]; rfl)) ?_
 refine Qc9 (Q7y (γ := 2000001) (e := 3) (ty := 24) (cs := [.int .i64 0, .int .i64 (R : Nat), .nilS]) (cs' := [.int .i64 0, .int .i64 (R : Nat), .mso 2000002 0 0]) 2000002 3 32 T0 (by simp +decide (disch := first | omega | rfl | (simp +decide only [go_sem, ↓reduceIte, Qkf] <;> rfl) | fail) only [go_sem, ↓reduceIte, Qkf] <;> rfl) (by omega) (by omega) rfl (by simp)) ?_
 simp +decide (disch := first | exact D0 | fail) only [go_sem, ↓reduceIte]
 refine Qi6 2 900 3 32 (by omega) T0 ?_
 obtain ⟨M, hM⟩ : ∃ M, Qam l R = M := ⟨_, rfl⟩
 rw [hM] at hB ⊢
 refine Qc6 (by repeat (first | exact Q5 | exact Qq | exact Qr | exact Qt | exact Qu | apply Qp | apply Qz | apply Q9 | apply Qaf | apply Qag | apply Qm | apply Q7)) [(2, 3), (5, 6), (8, 9), (33, 80), (2000000, 2000001)] [8, 46, 47, 52, 900] (fun q J hp => ∃ k, q = 2 * R - k /\ k <= 2 * R /\ J 2 = .ms 900 (Qak R M k).2.length /\ J 3 = .np 2000001 0 0 /\ J 5 = .nso 2000000 0 R /\ J 33 = .int .i64 (k : Nat) /\ J 2000000 = .nst 2000000 1 22 (Qai (Qax 3000000 R R id)) /\ J 2000001 = .nst 2000001 3 24 [Qz3 R (Qak R M k).2.length] /\
   hp 2000000 = some ⟨1, 22, [], false⟩ /\ hp 2000001 = some ⟨3, 24, [], false⟩ /\ hp 2000002 = some ⟨3, 32, (Qch R (Qak R M k).2).map PV.rat, false⟩ /\ hp 900 = some ⟨3, 32, ((Qak R M k).2.map (·.1)).map PV.rat, false⟩ /\
   ∀ r, r < R -> hp (3000000 + r) = some ⟨3, 32, Q6 PV.rat ((Qak R M k).1 r) R, false⟩) (2 * R) ?_ ?_
 ·refine ⟨0, rfl, by omega, ?_⟩
  simp +decide (disch := first | omega | rfl | (simp +decide only [go_sem, ↓reduceIte, Qbr, Qeb, Qaz] <;> rfl) | fail) only [go_sem, ↓reduceIte, Qbr, Qeb, Qaz]
  refine ⟨rfl, rfl, ?_, Qga, rfl, rfl, fun r hr => Qel hr⟩
  simp [Qak]
 rintro _ J h ⟨k, rfl, hk, j2, j3, j5, j33, jg, jb, h0, h1, h2, h9, hrow⟩
 simp +decide (disch := first | exact D1 j33 | fail) only [go_sem, ↓reduceIte, j33]
 refine Qb (fun hc => ?_) (fun hc => ?_)
 ·have hk' : k < 2 * R := by omega
  have hBk := hB k hk
  have hlk := Qkw R M k
  have hfl := Qhc R (Qak R M k).2
  have hn1 : (Qak R M (k + 1)).1 = Qdb (Qak R M k).1 (Qbe (Qak R M k).1 R) := rfl
  have hn2 : (Qak R M (k + 1)).2 = (Qak R M k).2 ++ Qbe (Qak R M k).1 R := rfl
  obtain ⟨E, hE⟩ : ∃ E, Qak R M k = E := ⟨_, rfl⟩
  rw [hE] at hBk hlk hfl hn1 hn2 j2 jb h2 h9 hrow
  obtain ⟨N, fs⟩ := E
  simp only at hBk hlk hfl hn1 hn2 j2 jb h2 h9 hrow
  have hnl := Qnm N R
  have hx2 := Qafo (K := K) (ty := 22) (tyr := 32) hR2 (by omega) hBk.1
  simp +decide (disch := first | exact D5 j2 j3 j5 jg jb | fail) only [go_sem, ↓reduceIte, j2, j3, j5, jg, jb]
  refine Qr6 (ys := fun r => Q6 PV.rat (N r) R) hP (by omega) hx2 (by simp [Qqw]) (T1 jg) h0 hrow ?_
  obtain ⟨L, hL⟩ : ∃ L, Qbe N R = L := ⟨_, rfl⟩
  rw [hL] at hBk hnl hn1 hn2 ⊢
  simp +decide (disch := first | exact D5 j2 j3 j5 jg jb | fail) only [go_sem, ↓reduceIte, j2, j3, j5, jg, jb]
  refine Qc6 (by repeat (first | exact Q5 | exact Qq | exact Qr | exact Qt | exact Qu | apply Qp | apply Qz | apply Q9 | apply Qaf | apply Qag | apply Qm | apply Q7)) [(2, 3), (5, 5), (8, 9), (39, 79), (2000000, 2000001)] [8, 46, 47, 52, 900] (fun q J hp => ∃ i, q = L.length - i /\ i <= L.length /\ J 2 = .ms 900 (fs ++ L.take i).length /\ J 3 = .np 2000001 0 0 /\ J 5 = .nso 2000000 0 R /\ J 39 = .int .i64 (i : Nat) /\ J 2000000 = .nst 2000000 1 22 (Qai (Qax 3000000 R R id)) /\ J 2000001 = .nst 2000001 3 24 [Qz3 R (fs ++ L.take i).length] /\
   hp 2000000 = some ⟨1, 22, [], false⟩ /\ hp 2000001 = some ⟨3, 24, [], false⟩ /\ hp 2000002 = some ⟨3, 32, (Qch R (fs ++ L.take i)).map PV.rat, false⟩ /\ hp 900 = some ⟨3, 32, ((fs ++ L.take i).map (·.1)).map PV.rat, false⟩ /\
   ∀ r, r < R -> hp (3000000 + r) = some ⟨3, 32, Q6 PV.rat (Qdb N (L.take i) r) R, false⟩) L.length ?_ ?_
  ·refine ⟨0, rfl, by omega, ?_⟩
   simp +decide (disch := first | exact D9 j2 j3 j5 jg jb h0 h1 h2 h9 | fail) only [go_sem, ↓reduceIte, j2, j3, j5, jg, jb, h0, h1, h2, h9]
   simp only [List.append_nil]
   exact ⟨trivial, rfl, trivial, trivial, trivial, hrow⟩
  rintro _ J1 g ⟨i, rfl, hi, i2, i3, i5, i39, ig, ib, g0, g1, g2, g9, growr⟩
  simp +decide (disch := first | exact D1 i39 | fail) only [go_sem, ↓reduceIte, i39]
  refine Qb (fun hci => ?_) (fun hci => ?_)
  ·have hi' : i < L.length := by omega
   have htk : L.take (i + 1) = L.take i ++ [L[i]] := List.take_succ_eq_append_getElem hi'
   have hfb := hBk.2.1 _ (List.getElem_mem hi')
   have hMb := hBk.2.2 i hi
   have hll : (fs ++ L.take i).length <= 200 := by
    rw [List.length_append, List.length_take]; omega
   have hfl2 := Qhc R (fs ++ L.take i)
   generalize hf : L[i] = f at *
   have hsn := Qz0 N (L.take i) f
   have hfsn := Qz1 R (fs ++ L.take i) f
   have hTk : fs ++ L.take (i + 1) = (fs ++ L.take i) ++ [f] := by rw [htk, <- List.append_assoc]
   rw [<- htk] at hsn
   generalize hT : fs ++ L.take i = T at *
   generalize hZ : Qdb N (L.take i) = Z at *
   have hTR : T.length * R <= 200 * 40 := Nat.mul_le_mul hll hR2
   have hrl : (Q6 PV.rat f.2 R).length = R := Qas _ _ _
   simp +decide (disch := first | exact D11 i2 i3 i5 i39 ig ib g0 g1 g2 g9 hf | fail) only [go_sem, ↓reduceIte, i2, i3, i5, i39, ig, ib, g0, g1, g2, g9, hf]
   rw [Qcw (f := PV.rat) (y := f.1) (xs := T.map (·.1)) (ty' := 32) (fz := false) (T1 g9) T0 (by omega) (by simp) (by omega) (by omega)]
   simp +decide (disch := first | exact D10 i2 i3 i5 i39 ig ib g0 g1 g2 g9 | fail) only [go_sem, ↓reduceIte, i2, i3, i5, i39, ig, ib, g0, g1, g2, g9]
   rw [Qafl (xs := (Qch R T).map PV.rat) (T1 g2) (by omega) (by rw [List.length_map, hfl2]) (Qr2 hR0) (by rw [hrl]; omega) (by rw [hrl]; omega) (by omega), hrl]
   simp +decide (disch := first | exact D10 i2 i3 i5 i39 ig ib g0 g1 g2 g9 | fail) only [go_sem, ↓reduceIte, i2, i3, i5, i39, ig, ib, g0, g1, g2, g9]
   obtain ⟨g8, hg8⟩ : ∃ g8, g8 = HB.mk 4 109 [PV.form R f] false := ⟨_, rfl⟩
   refine Qc6 (by repeat (first | exact Q5 | exact Qq | exact Qr | exact Qt | exact Qu | apply Qp | apply Qz | apply Q9 | apply Qaf | apply Qag | apply Qm | apply Q7)) [(3, 3), (5, 5), (9, 9), (60, 78), (2000000, 2000001)] [] (fun q J hp => ∃ r, q = R - r /\ r <= R /\ J 3 = .np 2000001 0 0 /\ J 5 = .nso 2000000 0 R /\ J 60 = .int .i64 (r : Nat) /\ J 2000000 = .nst 2000000 1 22 (Qai (Qax 3000000 R R id)) /\ J 2000001 = .nst 2000001 3 24 [Qz3 R (T.length + 1)] /\
    hp 2000000 = some ⟨1, 22, [], false⟩ /\ hp 2000001 = some ⟨3, 24, [], false⟩ /\ hp 2000002 = some ⟨3, 32, (Qch R (T ++ [f])).map PV.rat, false⟩ /\ hp 900 = some ⟨3, 32, ((T ++ [f]).map (·.1)).map PV.rat, false⟩ /\ hp 8 = some g8 /\
    ∀ r', r' < R -> hp (3000000 + r') = some ⟨3, 32, Q6 PV.rat (if r' < r then Qbo Z f r' else Z r') R, false⟩) R ?_ ?_
   ·refine ⟨0, rfl, by omega, ?_⟩
    simp +decide (disch := first | exact D10 i2 i3 i5 i39 ig ib g0 g1 g2 g9 | fail) only [go_sem, ↓reduceIte, i2, i3, i5, i39, ig, ib, g0, g1, g2, g9]
    refine ⟨rfl, ?_, ?_, ?_, hg8.symm, fun r' hr' => ?_⟩
    ·have e1 : T.length * R + R = (T.length + 1) * R := by rw [Nat.add_mul, Nat.one_mul]
     rw [e1]
    ·rw [hfsn, List.map_append, Qpg]
    ·simp
    ·rw [if_neg (by omega)]; exact growr r' hr'
   rintro _ J2 e ⟨r, rfl, hr, k3, k5, k60, kg, kb, e0, e1, e2, e9, e8, erow⟩
   simp +decide (disch := first | exact D1 k60 | fail) only [go_sem, ↓reduceIte, k60]
   refine Qb (fun hcr => ?_) (fun hcr => ?_)
   ·have hr' : r < R := by omega
    have er := erow r hr'
    rw [if_neg (Nat.lt_irrefl r)] at er
    simp +decide (disch := first | omega | rfl | (simp +decide only [go_sem, ↓reduceIte, k3, k5, k60, kg, kb, e0, e1, e2, e9, e8, hg8, er, id] <;> rfl) | fail) only [go_sem, ↓reduceIte, k3, k5, k60, kg, kb, e0, e1, e2, e9, e8, hg8, er, id]
    have hm := Qb0 f.1 (f.2 r)
    have hfr := hfb.2 r hr'
    refine Qa hP (Qh1 (a := f.1) (b := f.2 r) (k := K) hfb.1 hfr (by omega)) rfl rfl rfl ?_
    simp +decide (disch := first | omega | rfl | (simp +decide only [go_sem, ↓reduceIte, k3, k5, k60, kg, kb, e0, e1, e2, e9, e8, hg8, er, id] <;> rfl) | fail) only [go_sem, ↓reduceIte, k3, k5, k60, kg, kb, e0, e1, e2, e9, e8, hg8, er, id]
    have sub := Qw9 (w := R) (x := Z r) (y := f.2) (c := f.1 * f.2 r) (ty1 := 32) (k := 2 * K) hR0 (by omega) (fun c hc => by have := hMb r hr' c hc; omega) (fun c hc => by have := hfb.2 c hc; omega) (by omega) (by omega)
    refine Qach hP sub er rfl (Qr2 hR0) (by simp [isB]; omega) T0 (fun γ hγ => by simpa [PV.refs, PV.sref] using hγ) (by simp) ?_
    rintro _ xs _ ⟨rfl, rfl⟩
    simp +decide (disch := first | exact D1 k60 | fail) only [go_sem, ↓reduceIte, k60]
    refine Qca (R - (r + 1)) (by omega) ⟨r + 1, rfl, by omega, ?_⟩
    simp +decide (disch := first | exact D9 k3 k5 kg kb e0 e1 e2 e9 e8 | fail) only [go_sem, ↓reduceIte, k3, k5, kg, kb, e0, e1, e2, e9, e8]
    refine ⟨hg8, fun r' hr2 => ?_⟩
    by_cases e3 : r' = r
    ·subst e3
     rw [if_pos rfl, if_pos (by omega)]
     rfl
    ·rw [if_neg e3, erow r' hr2]
     by_cases e4 : r' < r
     ·rw [if_pos e4, if_pos (by omega)]
     ·rw [if_neg e4, if_neg (by omega)]
   ·have hrR : r = R := by omega
    subst hrR
    rw [Qda]
    rotate_left
    ·decide
    simp +decide (disch := first | exact D1 i39 | fail) only [go_sem, ↓reduceIte, i39]
    refine Qca (L.length - (i + 1)) (by omega) ⟨i + 1, rfl, by omega, ?_⟩
    rw [hTk, hsn]
    simp +decide (disch := first | exact D9 i2 k3 k5 kg kb e0 e1 e2 e9 | fail) only [go_sem, ↓reduceIte, i2, k3, k5, kg, kb, e0, e1, e2, e9]
    rw [List.length_append]
    exact ⟨rfl, rfl, fun r' hr' => by rw [erow r' hr', if_pos hr']⟩
  ·have hiL : i = L.length := by omega
   subst hiL
   rw [List.take_length] at i2 ib g2 g9 growr
   simp (disch := decide) only [Qda, Qd0, Qdi, Qek]
   simp +decide (disch := first | exact D1 j33 | fail) only [go_sem, ↓reduceIte, j33]
   refine Qca (2 * R - (k + 1)) (by omega) ⟨k + 1, rfl, by omega, ?_⟩
   rw [hn1, hn2]
   simp +decide (disch := first | exact D9 i2 i3 i5 ig ib g0 g1 g2 g9 | fail) only [go_sem, ↓reduceIte, i2, i3, i5, ig, ib, g0, g1, g2, g9]
   exact growr
 ·have hkR : k = 2 * R := by omega
  subst hkR
  simp +decide (disch := first | exact D9 j2 j3 j5 jg jb h0 h1 h2 h9 | fail) only [go_sem, ↓reduceIte, j2, j3, j5, jg, jb, h0, h1, h2, h9]
  have hfl := Qhc R (Qak R M (2 * R)).2
  have hml : (Qch R (Qak R M (2 * R)).2).map PV.rat = (Qch R (Qak R M (2 * R)).2).map PV.rat := rfl
  refine Qacg 82 2 [2000002] (p := Qz3 R (Qak R M (2 * R)).2.length) T0 (D := PV.mat (Qak R M (2 * R)).2.length R (Qch R (Qak R M (2 * R)).2)) ?_ ?_ rfl ?_
  ·intro c hc
   simp only [List.mem_cons, List.not_mem_nil, or_false] at hc
   rcases hc with rfl | rfl | rfl
   ·trivial
   ·trivial
   ·simp only [okD, isY]; simp
  ·show PV.agg [_, _, dsn _ h 2 (.mso 2000002 0 _)] = _
   simp only [dsn, h2, List.drop_zero]
   rw [List.take_of_length_le (by rw [List.length_map, hfl]; omega)]
  simp +decide (disch := first | exact E5 j2 j3 jb h1 h9 | fail) only [go_sem, ↓reduceIte, j2, j3, jb, h1, h9, Qx, List.contains_cons, List.contains_nil, List.flatMap_cons, List.flatMap_nil, List.append_nil]
  refine Qaaq (Qafk (γ := 2000001) (e := 3) (ty := 24) (xs := [PV.mat (Qak R M (2 * R)).2.length R (Qch R (Qak R M (2 * R)).2)]) 3 T0 (Tr1 j3) rfl (fun x hx => by rw [List.mem_singleton.1 hx]; exact ⟨rfl, rfl, fun c hc => by
   simp only [PV.ncells, PV.cells, List.mem_cons, List.not_mem_nil, or_false] at hc
   rcases hc with rfl | rfl | rfl <;> rfl⟩)) ?_
  refine Qqi ?_
  simp +decide (disch := first | exact E1 h9 | fail) only [go_sem, ↓reduceIte, h9, Qx, List.contains_cons, List.contains_nil, List.flatMap_cons, List.flatMap_nil, List.append_nil]
  rw [List.take_of_length_le (by simp)]
  exact Qhm rfl rfl rfl rfl (Qv _) (Qv _) (Qv _)
end Go.Proofs.YtmnkngmmfnncoaaGreat
namespace Go.Proofs.YtmnkngmmfnncoaaGreat
open Go Go.FW
set_option linter.unusedSimpArgs false
set_option linter.unusedVariables false
set_option maxRecDepth 100000
theorem Qq0 {xs : List Int} (hl : xs.length <= 1000) (hx : ∀ x ∈ xs, -9223372036854775808 <= x /\ x <= 9223372036854775807) : Qd Tryz.prog 76 [.sl 1 (Qo8 xs)] (· = PV.rats (xs.map fun x : Int => (x : Rat))) := by
 refine Qg Ql Tryz.func76 rfl Qae2 (by simp [c76]) fun C hP => ?_; simp only [c76, Zo, Zg, Zm, Zc, Zf, Zl, Zh, Zs, Zi, Zb, Zk, Zn, Zu, Zq, Zr, Zz]
 simp +decide (disch := first | exact D0 | fail) only [go_sem, ↓reduceIte]
 refine Qi6 3 900 3 32 (by omega) T0 ?_
 refine Qal (by repeat (first | exact Q5 | exact Qq | exact Qr | exact Qt | exact Qu | apply Qp | apply Qz | apply Q9 | apply Qaf | apply Qag | apply Qm | apply Q7)) [(3, 18)] [17, 18, 900] (fun n J hp => ∃ i, n = xs.length - i /\ i <= xs.length /\ J 3 = .ms 900 i /\ J 4 = .int .i64 (i : Nat) /\ hp 900 = some ⟨3, 32, ((xs.take i).map fun x : Int => (x : Rat)).map PV.rat, false⟩) xs.length ?_ ?_
 ·refine ⟨0, rfl, by omega, ?_⟩
  simp +decide (disch := first | exact D0 | fail) only [go_sem, ↓reduceIte]
  rfl
 rintro _ J h ⟨i, rfl, hi, h3, h4, hh⟩
 simp +decide (disch := first | exact D2 h3 h4 | fail) only [go_sem, ↓reduceIte, h3, h4]
 refine Qb (fun hg => ?_) (fun hg => ?_)
 ·have hi' : i < xs.length := by omega
  have htk : xs.take (i + 1) = xs.take i ++ [xs[i]] := List.take_succ_eq_append_getElem hi'
  have hb := hx _ (List.getElem_mem hi')
  generalize hz : xs[i] = z at *
  simp +decide (disch := first | exact D3 h3 h4 hz | fail) only [go_sem, ↓reduceIte, h3, h4, hz]
  refine Qa hP (Qiz (x := z) hb.1 hb.2) rfl rfl rfl ?_
  simp +decide (disch := first | exact D3 h3 h4 hz | fail) only [go_sem, ↓reduceIte, h3, h4, hz]
  rw [Qcw (f := PV.rat) (y := (z : Rat)) (xs := (xs.take i).map fun x : Int => (x : Rat)) (ty' := 32) (fz := false) (T1 hh) T0 (by omega) (by rw [List.length_map, List.length_take]; omega) (by omega) (by omega)]
  simp +decide (disch := first | exact D2 h3 h4 | fail) only [go_sem, ↓reduceIte, h3, h4]
  refine Qad (xs.length - (i + 1)) (by omega) ⟨i + 1, rfl, by omega, ?_⟩
  simp +decide (disch := first | exact D0 | fail) only [go_sem, ↓reduceIte]
  rw [htk]
  simp
 ·obtain rfl : i = xs.length := by omega
  simp +decide (disch := first | exact E2 h3 hh | fail) only [go_sem, ↓reduceIte, h3, hh, Qx, List.contains_cons, List.contains_nil, List.flatMap_cons, List.flatMap_nil, List.append_nil]
  refine Qc ?_ rfl
  rw [List.take_of_length_le (i := xs.length) (by simp)]; simp [PV.rats]
theorem alD : Qvp 2 (Qam [0, 1, 1, 0] 2) = -1 := by decide +kernel
theorem alE : Qr3 1000 2 2 2 (Qam [0, 1, 1, 0] 2) := by unfold Qr3 MBd; decide +kernel
theorem alR : Qr5 1000 2 4 (Qam [0, 1, 1, 0] 2) := by unfold Qr5 MBd; decide +kernel
theorem alS : Qno (Qam [0, 1, 1, 0] 2) 2 := by decide +kernel
theorem alW : ((Qak 2 (Qam [0, 1, 1, 0] 2) 4).2.map (·.1)) = [((1 : Int) : Rat) / ((2 : Int) : Rat), ((-1 : Int) : Rat) / ((2 : Int) : Rat)] := by decide +kernel
theorem alF : Qch 2 (Qak 2 (Qam [0, 1, 1, 0] 2) 4).2 = (([1, 1, -1, 1] : List Int).map fun x : Int => (x : Rat)) := by decide +kernel
theorem alL : (Qak 2 (Qam [0, 1, 1, 0] 2) 4).2.length = 2 := by decide +kernel
theorem Q3f {k : Nat} {l : List Rat} (h : ∀ q ∈ l, rs q <= k) : RRk k (l.map qR) := RRk.of h
theorem Qnp {l : List Rat} {k : Nat} (h : ∀ q ∈ l, rs q <= k) (hk : k < 2 ^ 34) (ll : l.length < 2 ^ 40) : Qd Tryz.prog 33 [PV.rats l, PV.rats l] (· = .bool true) := by
 have := Qw6 (a := l.map qR) (b := l.map qR) (Q3f h) (Q3f h) hk (by simpa using ll) (by simpa using ll)
 rw [decide_eq_true rfl, <- Qqs] at this
 exact this
theorem Q73 {R m : Nat} {l : List Rat} (hl : l.length = R * m) (hR : R <= 40) (hm : m <= 40) : Qtx R m (l.map qR) = .tup [PV.mat R m l, .int .i64 0] := by
 have h := Qnh hl hR hm
 unfold Qbl at h
 rw [Bool.and_eq_true, decide_eq_true_eq] at h
 unfold Qtx
 rw [if_pos (by omega), if_pos h.1.2.2.2.2, if_pos h.2, Qvo]
theorem Qfz : Qd Tryz.prog 15 [] (· = .bool true) := by
 have n1 := Qq0 (xs := [0, 1, 1, 0]) (by simp) (by simp)
 have n2 := Qq0 (xs := [1, 1, -1, 1]) (by simp) (by simp)
 have s1 : ∀ q ∈ ([0, 1, 1, 0] : List Int).map fun x : Int => (x : Rat), rs q <= 10 := by decide +kernel
 have s2 : ∀ q ∈ ([1, 1, -1, 1] : List Int).map fun x : Int => (x : Rat), rs q <= 10 := by decide +kernel
 have s3 : ∀ q ∈ [((1 : Int) : Rat) / ((2 : Int) : Rat), ((-1 : Int) : Rat) / ((2 : Int) : Rat)], rs q <= 10 := by decide +kernel
 have f1 := Qnk (x := 1) (y := 2) (by omega) (by omega) (by omega)
 have f2 := Qnk (x := -1) (y := 2) (by omega) (by omega) (by omega)
 have o1 := Qiz (x := -1) (by omega) (by omega)
 have hmk := Qafh (r := 2) (c := 2) (l := (([0, 1, 1, 0] : List Int).map fun x : Int => (x : Rat)).map qR) ⟨by simp, RRk.of fun q hq => by have := s1 q hq; omega⟩
 rw [<- Qqs] at hmk
 rw [show (2 : Int) = ((2 : Nat) : Int) from rfl, Q73 (R := 2) (m := 2) rfl (by omega) (by omega)] at hmk
 have hdet := Qags (R := 2) (K := 1000) (l := [0, 1, 1, 0]) rfl (by omega) (fun q hq => by have := s1 q hq; omega) (by omega) alE
 have hred := Qv3 (R := 2) (K := 1000) (l := [0, 1, 1, 0]) rfl (by omega) (by omega) (fun q hq => by have := s1 q hq; omega) (by omega) alR alS
 rw [alD] at hdet
 rw [show 2 * 2 = 4 from rfl, Qz4, alW, alF, alL] at hred
 rw [show ([0, 1, 1, 0] : List Rat) = (([0, 1, 1, 0] : List Int).map fun x : Int => (x : Rat)) from rfl] at hdet hred
 have eq1 := Qzr (a := -1) (b := -1) (k := 10) (by decide +kernel) (by decide +kernel) (by omega)
 have sm1 := Qnp s3 (by omega) (by simp)
 have sm2 := Qnp s2 (by omega) (by simp)
 rw [show ((-1 : Int) : Rat) = -1 from rfl] at o1
 rw [decide_eq_true rfl] at eq1
 obtain ⟨lA, hA⟩ : ∃ l, (([0, 1, 1, 0] : List Int).map fun x : Int => (x : Rat)) = l := ⟨_, rfl⟩
 obtain ⟨lB, hB⟩ : ∃ l, (([1, 1, -1, 1] : List Int).map fun x : Int => (x : Rat)) = l := ⟨_, rfl⟩
 obtain ⟨q1, hq1⟩ : ∃ q, ((1 : Int) : Rat) / ((2 : Int) : Rat) = q := ⟨_, rfl⟩
 obtain ⟨q2, hq2⟩ : ∃ q, ((-1 : Int) : Rat) / ((2 : Int) : Rat) = q := ⟨_, rfl⟩
 obtain ⟨q3, hq3⟩ : ∃ q, (-1 : Rat) = q := ⟨_, rfl⟩
 rw [hA] at n1 hmk hdet hred
 rw [hB] at n2 hred sm2
 rw [hq1] at f1 hred sm1
 rw [hq2] at f2 hred sm1
 rw [hq3] at o1 eq1 hdet
 clear hA hB s1 s2 s3
 refine Qg Ql Tryz.func15 rfl Qae3 (by simp [c15]) fun C hP => ?_; simp only [c15, Zo, Zg, Zm, Zc, Zf, Zl, Zh, Zs, Zi, Zb, Zk, Zn, Zu, Zq, Zr, Zz]
 simp +decide (disch := first | exact D0 | fail) only [go_sem, ↓reduceIte]
 rw [Qn6 (by rfl) (by simp [PV.cells]) (by omega)]
 simp +decide (disch := first | exact E0 | fail) only [go_sem, ↓reduceIte, Qx, List.contains_cons, List.contains_nil, List.flatMap_cons, List.flatMap_nil, List.append_nil]
 refine Qcd hP n1 Ur0 rfl ?_
 simp +decide (disch := first | exact E0 | fail) only [go_sem, ↓reduceIte, Qx, List.contains_cons, List.contains_nil, List.flatMap_cons, List.flatMap_nil, List.append_nil]
 repeat' first
  | refine Qev ?_ ?_
  | rw [Qn6 (by rfl) (by simp [PV.cells]) (by omega)]
  | refine Qa hP hmk rfl rfl rfl ?_
  | refine Qa hP hdet rfl rfl rfl ?_
  | refine Qa hP hred rfl rfl rfl ?_
  | refine Qa hP o1 rfl rfl rfl ?_
  | refine Qa hP eq1 rfl rfl rfl ?_
  | refine Qa hP f1 rfl rfl rfl ?_
  | refine Qa hP f2 rfl rfl rfl ?_
  | refine Qa hP sm2 rfl rfl rfl ?_
  | refine Qcd hP sm1 Ur0 rfl ?_
  | refine Qcd hP n2 Ur0 rfl ?_
  | simp +decide (disch := first | exact E0 | fail) only [go_sem, ↓reduceIte, Qx, List.contains_cons, List.contains_nil, List.flatMap_cons, List.flatMap_nil, List.append_nil]
 all_goals exact Qc rfl rfl
end Go.Proofs.YtmnkngmmfnncoaaGreat
namespace Go.Proofs.YtmnkngmmfnncoaaGreat
open Go Go.FW
set_option linter.unusedSimpArgs false
set_option linter.unusedVariables false
set_option maxRecDepth 100000
end Go.Proofs.YtmnkngmmfnncoaaGreat
namespace Go.Proofs.YtmnkngmmfnncoaaGreat
open Go Go.FW
set_option linter.unusedSimpArgs false
set_option linter.unusedVariables false
set_option maxRecDepth 100000
end Go.Proofs.YtmnkngmmfnncoaaGreat
namespace Go.Proofs.YtmnkngmmfnncoaaGreat
open Go Go.FW
set_option linter.unusedSimpArgs false
set_option linter.unusedVariables false
set_option maxRecDepth 100000
end Go.Proofs.YtmnkngmmfnncoaaGreat
namespace Go.Proofs.YtmnkngmmfnncoaaGreat
open Go Go.FW
set_option linter.unusedSimpArgs false
set_option linter.unusedVariables false
set_option maxRecDepth 100000
end Go.Proofs.YtmnkngmmfnncoaaGreat
namespace Go.Proofs.YtmnkngmmfnncoaaGreat
open Go Go.FW
set_option linter.unusedSimpArgs false
set_option linter.unusedVariables false
set_option maxRecDepth 100000
end Go.Proofs.YtmnkngmmfnncoaaGreat
namespace Go.Proofs.YtmnkngmmfnncoaaGreat
open Go Go.FW
set_option linter.unusedSimpArgs false
set_option linter.unusedVariables false
set_option maxRecDepth 100000
abbrev I64' (x : Int) : Prop := -9223372036854775808 <= x /\ x <= 9223372036854775807
end Go.Proofs.YtmnkngmmfnncoaaGreat
namespace Go.Proofs.YtmnkngmmfnncoaaGreat
open Go Go.FW
set_option linter.unusedSimpArgs false
set_option linter.unusedVariables false
set_option maxRecDepth 100000
theorem Qv4 {l : List RQ} {n : Nat} (hl : Qb7 l) (hs : Qb8 l n = true) : l.length <= n /\ ∀ q ∈ l.map rqV, rs q <= 3 := by
 unfold Qb8 at hs
 rw [Bool.and_eq_true, decide_eq_true_eq, List.all_eq_true] at hs
 refine ⟨hs.1, fun q hq => ?_⟩
 obtain ⟨x, hx, rfl⟩ := List.mem_map.1 hq
 have h1 := hs.2 x hx
 rw [Bool.and_eq_true, decide_eq_true_eq, decide_eq_true_eq] at h1
 have h2 := hl.2 x hx
 exact Q1x (n := 0) h2.la h2.ld h1.1 h1.2 (by omega)
theorem Qln {l : List Rat} {k m r c : Nat} (hk : 1 <= k) (h : ∀ q ∈ l, rs q <= k) : rs (Qam l m r c) <= k := by
 unfold Qam
 rw [List.getD_eq_getElem?_getD]
 cases hq : l[r * m + c]? with
 | none => have := Qru; show rs 0 <= k; omega
 | some q => exact h q (List.mem_of_getElem? hq)
theorem Qx6 {R m : Nat} (h : R * m <= 25) : R <= 5 ∨ m <= 5 := by
 refine Classical.byContradiction fun hn => ?_
 have : 6 * 6 <= R * m := Nat.mul_le_mul (by omega) (by omega)
 omega
end Go.Proofs.YtmnkngmmfnncoaaGreat
namespace Go.Proofs.YtmnkngmmfnncoaaGreat
open Go Go.FW
set_option linter.unusedSimpArgs false
set_option linter.unusedVariables false
set_option maxRecDepth 100000
end Go.Proofs.YtmnkngmmfnncoaaGreat
namespace Go.Proofs.YtmnkngmmfnncoaaGreat
open Go Go.FW
set_option linter.unusedSimpArgs false
set_option linter.unusedVariables false
set_option maxRecDepth 100000
end Go.Proofs.YtmnkngmmfnncoaaGreat
namespace Go.FW
open Go
def Sym (R : Nat) (M : MF) : Prop := ∀ i, i < R -> ∀ k, k < R -> M i k = M k i
def zr (R : Nat) (M : MF) (i : Nat) : Bool := (List.range R).all fun c => decide (M i c = 0)
theorem Qhe {R : Nat} {M : MF} {i : Nat} : zr R M i = true ↔ ∀ c, c < R -> M i c = 0 := by
 unfold zr
 rw [List.all_eq_true]
 exact ⟨fun h c hc => of_decide_eq_true (h c (List.mem_range.2 hc)), fun h c hc => decide_eq_true (h c (List.mem_range.1 hc))⟩
def cnt (p : Nat -> Bool) : Nat -> Nat
 | 0 => 0
 | n + 1 => cnt p n + if p n then 1 else 0
theorem Qq1 (p : Nat -> Bool) : ∀ n, cnt p n <= n
 | 0 => Nat.le_refl _
 | n + 1 => by have := Qq1 p n; simp only [cnt]; split <;> omega
theorem Qv5 {p q : Nat -> Bool} : ∀ n, (∀ i, i < n -> q i = true -> p i = true) -> cnt q n <= cnt p n
 | 0, _ => Nat.le_refl _
 | n + 1, h => by
  have := Qv5 n fun i hi => h i (by omega)
  have h2 := h n (by omega)
  simp only [cnt]
  cases hq : q n
  ·cases p n <;> simp <;> omega
  ·rw [h2 hq]; simp; omega
theorem Qv6 {p q : Nat -> Bool} {a : Nat} (ha : p a = true) (ha' : q a = false) : ∀ n, a < n -> (∀ i, i < n -> q i = true -> p i = true) -> cnt q n + 1 <= cnt p n
 | 0, h, _ => by omega
 | n + 1, h1, h => by
  have h2 := h n (by omega)
  simp only [cnt]
  by_cases e : a = n
  ·subst e
   have := Qv5 a fun i hi => h i (by omega)
   rw [ha, ha']; simp; omega
  ·have := Qv6 ha ha' n (by omega) fun i hi => h i (by omega)
   cases hq : q n
   ·cases p n <;> simp <;> omega
   ·rw [h2 hq]; simp; omega
theorem Qx7 {p q : Nat -> Bool} {a b : Nat} (hab : a < b) (ha : p a = true) (ha' : q a = false) (hb : p b = true) (hb' : q b = false) : ∀ n, b < n -> (∀ i, i < n -> q i = true -> p i = true) -> cnt q n + 2 <= cnt p n
 | 0, h, _ => by omega
 | n + 1, h1, h => by
  have h2 := h n (by omega)
  simp only [cnt]
  by_cases e : b = n
  ·subst e
   have := Qv6 ha ha' b hab fun i hi => h i (by omega)
   rw [hb, hb']; simp; omega
  ·have := Qx7 hab ha ha' hb hb' n (by omega) fun i hi => h i (by omega)
   cases hq : q n
   ·cases p n <;> simp <;> omega
   ·rw [h2 hq]; simp; omega
def nzc (R : Nat) (M : MF) : Nat := cnt (fun i => !zr R M i) R
theorem Qcb {R : Nat} {M : MF} {f : LF} (h : Sym R M) : Sym R (Qbo M f) := fun i hi k hk => by
 unfold Qbo
 rw [h i hi k hk, Rat.mul_assoc, Rat.mul_assoc, Rat.mul_comm (f.2 i)]
theorem Qq2 {p : Nat -> Bool} : ∀ f i, Qgn p f i < i + f -> p (Qgn p f i) = true
 | 0, i, h => by simp [Qgn] at h
 | f + 1, i, h => by
  unfold Qgn at h ⊢
  split
  ·rename_i hp; exact hp
  ·rename_i hp; rw [if_neg hp] at h; exact Qq2 f (i + 1) (by omega)
theorem Qq3 {p : Nat -> Bool} : ∀ f i j, i <= j -> j < Qgn p f i -> p j = false
 | 0, i, j, h1, h2 => by simp [Qgn] at h2; omega
 | f + 1, i, j, h1, h2 => by
  unfold Qgn at h2
  split at h2
  ·omega
  ·rename_i hp
   by_cases e : j = i
   ·subst e; simpa using hp
   ·exact Qq3 f (i + 1) j (by omega) h2
theorem Qv7 {M : MF} {R : Nat} (h : Qdw M R < R) : M (Qdw M R) (Qdw M R) ≠ 0 := by
 have := Qq2 (p := fun i => decide (M i i ≠ 0)) R 0 (by unfold Qdw at h; omega)
 exact of_decide_eq_true this
theorem Qv8 {M : MF} {R : Nat} (h : ¬ Qdw M R < R) : ∀ i, i < R -> M i i = 0 := fun i hi => by
 have := Qq3 (p := fun i => decide (M i i ≠ 0)) R 0 i (Nat.zero_le _) (by unfold Qdw at h; omega)
 have := of_decide_eq_false this
 exact Classical.not_not.1 this
theorem Qx8 {M : MF} {R i : Nat} (h : Qe1 M R i < R) : M i (Qe1 M R i) ≠ 0 := by
 have := Qq2 (p := fun k => decide (M i k ≠ 0)) R 0 (by unfold Qe1 at h; omega)
 exact of_decide_eq_true this
theorem Qacm {M : MF} {R i : Nat} (h : ¬ Qe1 M R i < R) : ∀ k, k < R -> M i k = 0 := fun k hk => by
 have := Qq3 (p := fun k => decide (M i k ≠ 0)) R 0 k (Nat.zero_le _) (by unfold Qe1 at h; omega)
 exact Classical.not_not.1 (of_decide_eq_false this)
theorem Qx9 {M : MF} {R : Nat} (h : Qdo M R < R) : Qe1 M R (Qdo M R) < R := by
 have := Qq2 (p := fun i => decide (Qe1 M R i < R)) R 0 (by unfold Qdo at h; omega)
 exact of_decide_eq_true this
theorem Qo1 {M : MF} {R j : Nat} (h : j < Qdo M R) : ∀ k, k < R -> M j k = 0 := by
 have := Qq3 (p := fun i => decide (Qe1 M R i < R)) R 0 j (Nat.zero_le _) h
 exact Qacm (of_decide_eq_false this)
theorem Q3g {M : MF} {R : Nat} (h : Qbe M R = []) : ∀ i, i < R -> ∀ k, k < R -> M i k = 0 := by
 unfold Qbe at h
 split at h
 ·cases h
 ·split at h
  ·cases h
  ·rename_i h2
   exact fun i hi => Qo1 (by omega)
theorem Qty {M : MF} {f : LF} {i c : Nat} (h : f.2 i = 0) : Qbo M f i c = M i c := by
 unfold Qbo
 rw [h, Rat.mul_zero, Rat.zero_mul, Rat.sub_eq_add_neg, Rat.neg_zero, Rat.add_zero]
theorem Qnq {R B : Nat} {M : MF} (hs : Sym R M) (hB : 3 <= B) (hM : MBd B R R M) (hne : Qbe M R ≠ []) :
  ∃ s, 1 <= s /\ s <= 2 /\ Sym R (Qdb M (Qbe M R)) /\ nzc R (Qdb M (Qbe M R)) + s <= nzc R M /\ (∀ f ∈ Qbe M R, rs f.1 <= 7 * B /\ ∀ c, c < R -> rs (f.2 c) <= 7 * B) /\ ∀ j, MBd (B * 7 ^ s) R R (Qdb M ((Qbe M R).take j)) := by
 have q1 := Qrt
 unfold Qbe at hne ⊢
 by_cases hd : Qdw M R < R
 ·rw [if_pos hd] at hne ⊢
  have h0 := Qv7 hd
  generalize Qdw M R = i at *
  obtain ⟨f, hf⟩ : ∃ f : LF, (M i i, Qea (fun _ => 0) (M i) (1 / M i i)) = f := ⟨_, rfl⟩
  have f1 : f.1 = M i i := by rw [<- hf]
  have f2 : ∀ c, f.2 c = 1 / M i i * M i c := fun c => by rw [<- hf]; exact Rat.zero_add _
  have bi := hM i hd i hd
  have b2 : ∀ c, c < R -> rs (f.2 c) <= 2 * B + 1 := fun c hc => by
   rw [f2]
   have := Qb0 (1 / M i i) (M i c)
   have := Qv1 (a := 1) h0
   have := hM i hd c hc
   omega
  have hone : Qdb M [f] = Qbo M f := rfl
  rw [hf, hone]
  refine ⟨1, Nat.le_refl _, by omega, Qcb hs, ?_, ?_, ?_⟩
  ·refine Qv6 (a := i) ?_ ?_ R hd fun j hj hz => ?_
   ·simp only [Bool.not_eq_true']
    rw [<- Bool.not_eq_true, Qhe]
    exact fun h => h0 (h i hd)
   ·simp only [Bool.not_eq_false']
    rw [Qhe]
    intro c hc
    unfold Qbo
    rw [f1, f2, f2, Rat.div_def, Rat.one_mul, Rat.inv_mul_cancel _ h0, Rat.mul_one, <- Rat.mul_assoc, Rat.mul_inv_cancel _ h0, Rat.one_mul, Rat.sub_self]
   ·simp only [Bool.not_eq_true'] at hz ⊢
    cases hq : zr R M j
    ·rfl
    ·exfalso
     rw [Qhe] at hq
     have : zr R (Qbo M f) j = true := by
      rw [Qhe]
      intro c hc
      rw [Qty (by rw [f2, hs i hd j hj, hq i hd, Rat.mul_zero])]
      exact hq c hc
     rw [this] at hz; cases hz
  ·intro g hg
   rw [List.mem_singleton.1 hg, f1]
   exact ⟨by omega, fun c hc => by have := b2 c hc; omega⟩
  ·intro j
   have hfin : MBd (B * 7 ^ 1) R R (Qbo M f) := fun r hr c hc => by
    unfold Qbo
    have a1 := hM r hr c hc
    have a2 := b2 r hr
    have a3 := b2 c hc
    have a4 := Qb0 f.1 (f.2 r)
    have a5 := Qb0 (f.1 * f.2 r) (f.2 c)
    have a6 := Qnn (M r c) (f.1 * f.2 r * f.2 c)
    rw [f1] at a4 a5 a6 ⊢
    omega
   match j with
   | 0 => exact fun r hr c hc => by have := hM r hr c hc; show rs (M r c) <= _; omega
   | j + 1 => simpa [Qdb] using hfin
 ·rw [if_neg hd] at hne ⊢
  by_cases hr0 : Qdo M R < R
  ·rw [if_pos hr0] at hne ⊢
   have hb0 := Qx9 hr0
   have h0 := Qx8 hb0
   have hbef : ∀ j, j < Qdo M R -> ∀ k, k < R -> M j k = 0 := fun j hj => Qo1 hj
   have hdz := Qv8 hd
   generalize Qdo M R = a at *
   generalize Qe1 M R a = b at *
   have hab : a ≠ b := fun e => h0 (by rw [<- e]; exact hdz a hr0)
   have hlt : a < b := by
    rcases Nat.lt_or_ge a b with h | h
    ·exact h
    ·exact absurd (hbef b (by omega) a hr0) (by rw [<- hs a hr0 b hb0]; exact h0)
   obtain ⟨α, hα⟩ : ∃ α, M a b = α := ⟨_, rfl⟩
   rw [hα] at h0 hne ⊢
   have h2 : α + α ≠ 0 := fun h => h0 (by grind)
   obtain ⟨w, hw⟩ : ∃ w : Rat, 1 / (α + α) = w := ⟨_, rfl⟩
   rw [hw]
   have hwα : w * (α + α) = 1 := by rw [<- hw, Rat.div_def, Rat.one_mul, Rat.inv_mul_cancel _ h2]
   obtain ⟨f, hf⟩ : ∃ f : LF, (w, Qea (M a) (M b) 1) = f := ⟨_, rfl⟩
   obtain ⟨g, hg⟩ : ∃ g : LF, (-w, Qea (M a) (M b) (-1)) = g := ⟨_, rfl⟩
   have f1 : f.1 = w := by rw [<- hf]
   have g1 : g.1 = -w := by rw [<- hg]
   have f2 : ∀ c, f.2 c = M a c + M b c := fun c => by rw [<- hf]; show M a c + 1 * M b c = _; rw [Rat.one_mul]
   have g2 : ∀ c, g.2 c = M a c - M b c := fun c => by rw [<- hg]; show M a c + -1 * M b c = _; rw [Rat.neg_mul, Rat.one_mul, <- Rat.sub_eq_add_neg]
   have bα : rs α <= B := by rw [<- hα]; exact hM a hr0 b hb0
   have bw : rs w <= 2 * B + 2 := by
    rw [<- hw]
    have := Qv1 (a := 1) h2
    have := Qle α α
    omega
   have bf : ∀ c, c < R -> rs (f.2 c) <= 2 * B + 1 := fun c hc => by
    rw [f2]
    have := Qle (M a c) (M b c)
    have := hM a hr0 c hc
    have := hM b hb0 c hc
    omega
   have bg : ∀ c, c < R -> rs (g.2 c) <= 2 * B + 1 := fun c hc => by
    rw [g2]
    have := Qnn (M a c) (M b c)
    have := hM a hr0 c hc
    have := hM b hb0 c hc
    omega
   have Qcg : ∀ r c, Qdb M [f, g] r c = M r c - w * 2 * (M a r * M b c + M b r * M a c) := fun r c => by
    show Qbo (Qbo M f) g r c = _
    unfold Qbo
    rw [f1, g1, f2, f2, g2, g2]
    grind
   have hw2 : w * 2 * α = 1 := by rw [<- hwα]; grind
   rw [hf, hg]
   have hsy : Sym R (Qdb M [f, g]) := Qcb (Qcb hs)
   have hba : M b a = α := by rw [hs b hb0 a hr0, hα]
   refine ⟨2, by omega, Nat.le_refl _, hsy, ?_, ?_, ?_⟩
   ·have nz : ∀ x y, x < R -> y < R -> M x y ≠ 0 -> (!zr R M x) = true := fun x y hx hy h => by
     simp only [Bool.not_eq_true']
     rw [<- Bool.not_eq_true, Qhe]
     exact fun hh => h (hh y hy)
    refine Qx7 (a := a) (b := b) hlt (nz a b hr0 hb0 (by rw [hα]; exact h0)) ?_ (nz b a hb0 hr0 (by rw [hba]; exact h0)) ?_ R hb0 fun j hj hz => ?_
    ·simp only [Bool.not_eq_false']
     rw [Qhe]
     intro c hc
     rw [Qcg, hdz a hr0, hba]
     grind
    ·simp only [Bool.not_eq_false']
     rw [Qhe]
     intro c hc
     rw [Qcg, hdz b hb0, hα]
     grind
    ·simp only [Bool.not_eq_true'] at hz ⊢
     cases hq : zr R M j
     ·rfl
     ·exfalso
      rw [Qhe] at hq
      have : zr R (Qdb M [f, g]) j = true := by
       rw [Qhe]
       intro c hc
       rw [Qcg, hs a hr0 j hj, hs b hb0 j hj, hq a hr0, hq b hb0, hq c hc]
       grind
      rw [this] at hz; cases hz
   ·intro x hx
    simp only [List.mem_cons, List.not_mem_nil, or_false] at hx
    rcases hx with rfl | rfl
    ·rw [f1]; exact ⟨by omega, fun c hc => by have := bf c hc; omega⟩
    ·rw [g1, Qlf]; exact ⟨by omega, fun c hc => by have := bg c hc; omega⟩
   ·have h1 : ∀ r, r < R -> ∀ c, c < R -> rs (Qbo M f r c) <= 7 * B + 5 := fun r hr c hc => by
     unfold Qbo
     have a1 := hM r hr c hc
     have a2 := bf r hr
     have a3 := bf c hc
     have a4 := Qb0 f.1 (f.2 r)
     have a5 := Qb0 (f.1 * f.2 r) (f.2 c)
     have a6 := Qnn (M r c) (f.1 * f.2 r * f.2 c)
     rw [f1] at a4 a5 a6 ⊢
     omega
    have h2 : ∀ r, r < R -> ∀ c, c < R -> rs (Qbo (Qbo M f) g r c) <= 13 * B + 10 := fun r hr c hc => by
     have a1 := h1 r hr c hc
     generalize Qbo M f = N at *
     unfold Qbo
     have a2 := bg r hr
     have a3 := bg c hc
     have a4 := Qb0 g.1 (g.2 r)
     have a5 := Qb0 (g.1 * g.2 r) (g.2 c)
     have a6 := Qnn (N r c) (g.1 * g.2 r * g.2 c)
     rw [g1] at a4 a5 a6 ⊢
     rw [Qlf] at a4
     omega
    intro j r hr c hc
    match j with
    | 0 => have := hM r hr c hc; show rs (M r c) <= _; omega
    | 1 => have := h1 r hr c hc; show rs (Qbo M f r c) <= _; omega
    | j + 2 =>
     have := h2 r hr c hc
     have e : ([f, g] : List LF).take (j + 2) = [f, g] := List.take_of_length_le (by simp)
     rw [e]
     show rs (Qbo (Qbo M f) g r c) <= _
     omega
  ·rw [if_neg hr0] at hne; exact absurd rfl hne
end Go.FW
namespace Go.FW
open Go
theorem Qph {R : Nat} {M : MF} {k : Nat} (h : Qbe (Qak R M k).1 R = []) : ∀ j, Qak R M (k + j) = Qak R M k
 | 0 => rfl
 | j + 1 => by
  have e := Qph h j
  show (Qdb (Qak R M (k + j)).1 (Qbe (Qak R M (k + j)).1 R), (Qak R M (k + j)).2 ++ Qbe (Qak R M (k + j)).1 R) = _
  rw [e, h, List.append_nil]; rfl
theorem Qii {R : Nat} {M : MF} {k : Nat} : Qak R M (k + 1) = (Qdb (Qak R M k).1 (Qbe (Qak R M k).1 R), (Qak R M k).2 ++ Qbe (Qak R M k).1 R) := rfl
theorem Qpi {R b : Nat} {M : MF} (hs : Sym R M) (hb : 3 <= b) (hM : MBd b R R M) : ∀ k, Sym R (Qak R M k).1 /\ MBd (b * 7 ^ (R - nzc R (Qak R M k).1)) R R (Qak R M k).1
 | 0 => ⟨hs, fun r hr c hc => Nat.le_trans (hM r hr c hc) (Nat.le_mul_of_pos_right _ (Nat.pow_pos (by omega)))⟩
 | k + 1 => by
  obtain ⟨h1, h2⟩ := Qpi hs hb hM k
  by_cases hn : Qbe (Qak R M k).1 R = []
  ·rw [Qph hn 1]; exact ⟨h1, h2⟩
  ·have hp : 3 <= b * 7 ^ (R - nzc R (Qak R M k).1) := Nat.le_trans hb (Nat.le_mul_of_pos_right _ (Nat.pow_pos (by omega)))
   obtain ⟨s, s1, s2, s3, s4, s5, s6⟩ := Qnq h1 hp h2 hn
   rw [Qii]
   refine ⟨s3, fun r hr c hc => ?_⟩
   have h3 := s6 (Qbe (Qak R M k).1 R).length r hr c hc
   rw [List.take_length] at h3
   have hle : nzc R (Qak R M k).1 <= R := Qq1 _ _
   rw [Nat.mul_assoc, <- Nat.pow_add] at h3
   exact Nat.le_trans h3 (Nat.mul_le_mul_left _ (Nat.pow_le_pow_right (by omega) (by simp only; omega)))
theorem Qacn {R b n : Nat} {M : MF} (hs : Sym R M) (hb : 3 <= b) (hM : MBd b R R M) : Qr5 (b * 7 ^ R) R n M := fun k _ => by
 obtain ⟨h1, h2⟩ := Qpi hs hb hM k
 have hle : nzc R (Qak R M k).1 <= R := Qq1 _ _
 have hK : b * 7 ^ (R - nzc R (Qak R M k).1) <= b * 7 ^ R := Nat.mul_le_mul_left _ (Nat.pow_le_pow_right (by omega) (by omega))
 have h3 : MBd (b * 7 ^ R) R R (Qak R M k).1 := fun r hr c hc => Nat.le_trans (h2 r hr c hc) hK
 refine ⟨h3, ?_⟩
 by_cases hn : Qbe (Qak R M k).1 R = []
 ·rw [hn]
  exact ⟨(fun f hf => by cases hf), fun j _ => by simpa [Qdb] using h3⟩
 ·have hp : 3 <= b * 7 ^ (R - nzc R (Qak R M k).1) := Nat.le_trans hb (Nat.le_mul_of_pos_right _ (Nat.pow_pos (by omega)))
  obtain ⟨s, s1, s2, s3, s4, s5, s6⟩ := Qnq h1 hp h2 hn
  refine ⟨fun f hf => ?_, fun j _ r hr c hc => ?_⟩
  ·have hk : 7 * (b * 7 ^ (R - nzc R (Qak R M k).1)) <= b * 7 ^ R := by
    have e : 7 * (b * 7 ^ (R - nzc R (Qak R M k).1)) = b * 7 ^ (R - nzc R (Qak R M k).1 + 1) := by rw [Nat.pow_succ]; simp only [Nat.mul_comm, Nat.mul_left_comm]
    rw [e]
    exact Nat.mul_le_mul_left _ (Nat.pow_le_pow_right (by omega) (by omega))
   exact ⟨Nat.le_trans (s5 f hf).1 hk, fun c hc => Nat.le_trans ((s5 f hf).2 c hc) hk⟩
  ·have h4 := s6 j r hr c hc
   rw [Nat.mul_assoc, <- Nat.pow_add] at h4
   exact Nat.le_trans h4 (Nat.mul_le_mul_left _ (Nat.pow_le_pow_right (by omega) (by omega)))
theorem Qya {R b : Nat} {M : MF} (hs : Sym R M) (hb : 3 <= b) (hM : MBd b R R M) : ∀ k, (∀ j, j < k -> Qbe (Qak R M j).1 R ≠ []) -> nzc R (Qak R M k).1 + k <= R
 | 0, _ => Qq1 _ _
 | k + 1, h => by
  have h0 := Qya hs hb hM k fun j hj => h j (by omega)
  obtain ⟨h1, h2⟩ := Qpi hs hb hM k
  have hp : 3 <= b * 7 ^ (R - nzc R (Qak R M k).1) := Nat.le_trans hb (Nat.le_mul_of_pos_right _ (Nat.pow_pos (by omega)))
  obtain ⟨s, s1, s2, s3, s4, s5, s6⟩ := Qnq h1 hp h2 (h k (by omega))
  rw [Qii]
  simp only
  omega
end Go.FW
