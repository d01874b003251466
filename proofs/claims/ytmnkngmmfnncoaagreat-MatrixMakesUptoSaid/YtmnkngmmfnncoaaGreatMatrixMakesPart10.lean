/- Part 10 of the proof of MatrixMakes: A9, FwNJ, FwVB. Own lemmas; no conditions. -/
import Derived.Test.YtmnkngmmfnncoaaGreatMatrixMakesPart9
set_option linter.unusedSimpArgs false
set_option linter.unnecessarySimpa false
set_option linter.unusedVariables false
namespace Go.Proofs.YtmnkngmmfnncoaaGreat
open Go Go.FW
set_option linter.unusedSimpArgs false
set_option linter.unusedVariables false
set_option maxRecDepth 100000
theorem Qabz {M : MF} {R K ty tyr : Nat} (hR2 : R <= 40) (hK : K < 2 ^ 30) (hB : MBd K R R M) :
  Qb3 Tryz.prog 93 [.nso 1500000 0 R] (upd (fun _ => .undef) 1500000 (.nst 1500000 1 ty (Qaa (Qap 1600000 R R id))))
   (fun x => if x = 1500000 then some ⟨1, ty, [], true⟩ else if 1600000 <= x /\ x < 1600000 + R then some ⟨3, tyr, Q8 PV.rat (M (x - 1600000)) R, true⟩ else none) (fun r _ _ => r = .sl 4 ((Qej M R).map (PV.form R))) := by
 refine Qec Qn Tryz.func93 rfl Qabo (by simp [c93]) fun C hP => ?_; simp only [c93]
 simp +decide (disch := first | omega | rfl | (simp +decide only [go_sem, ↓reduceIte] <;> rfl) | fail) only [go_sem, ↓reduceIte]
 refine Qa hP (Qp1 (x := 1) (by omega) (by omega)) rfl rfl rfl ?_
 rw [show ((1 : Int) : Rat) = 1 from rfl]
 obtain ⟨u, hu⟩ : ∃ u : Rat, (1 : Rat) = u := ⟨_, rfl⟩
 rw [hu]
 simp +decide (disch := first | omega | rfl | (simp +decide only [go_sem, ↓reduceIte] <;> rfl) | fail) only [go_sem, ↓reduceIte]
 refine Qcp (by repeat (first | exact Q2 | exact Qu | exact Qv | exact Qw | exact Qx | apply Qt | apply Qz | apply Q7 | apply Qad | apply Qae | apply Qp | apply Q5)) [(0, 0), (2, 2), (4, 7), (16, 47), (1500000, 1500000)] [5, 6, 46] (fun q J hp => ∃ i, q = R - i /\ i <= R /\ J 0 = .nso 1500000 0 R /\ J 16 = .int .i64 (i : Nat) /\ J 1500000 = .nst 1500000 1 ty (Qaa (Qap 1600000 R R id)) /\ hp 1500000 = some ⟨1, ty, [], true⟩ /\ (∀ r, r < R -> hp (1600000 + r) = some ⟨3, tyr, Q8 PV.rat (M r) R, true⟩) /\ hp 3 = some ⟨3, 32, [PV.rat u], false⟩ /\ ∀ j, j < i -> M j j = 0) R ?_ ?_
 ·refine ⟨0, rfl, by omega, ?_⟩
  simp +decide (disch := first | omega | rfl | (simp +decide only [go_sem, ↓reduceIte] <;> rfl) | fail) only [go_sem, ↓reduceIte]
  refine ⟨rfl, fun r hr => ?_, fun j hj => by omega⟩
  rw [if_pos ⟨by omega, by omega⟩, Nat.add_sub_cancel_left]
 rintro _ J h ⟨i, rfl, hi, h0, h16, hg, hh, hr, h3, hz⟩
 simp +decide (disch := first | omega | rfl | (simp +decide only [go_sem, ↓reduceIte, h16] <;> rfl) | fail) only [go_sem, ↓reduceIte, h16]
 refine Qb (fun hc => ?_) (fun hc => ?_)
 ·have hi' : i < R := by omega
  have r1 := hr i hi'
  have b1 := hB i hi' i hi'
  simp +decide (disch := first | omega | rfl | (simp +decide only [go_sem, ↓reduceIte, h0, h16, hg, hh, r1, id] <;> rfl) | fail) only [go_sem, ↓reduceIte, h0, h16, hg, hh, r1, id]
  refine Qa hP (Qly (a := M i i) (by omega)) rfl rfl rfl ?_
  simp +decide (disch := first | omega | rfl | (simp +decide only [go_sem, ↓reduceIte, h0, h16, hg, hh, r1, id] <;> rfl) | fail) only [go_sem, ↓reduceIte, h0, h16, hg, hh, r1, id]
  refine Qb (fun hs => ?_) (fun hs => ?_)
  ·have hne : M i i ≠ 0 := fun e => hs (Qda.2 e)
   simp +decide (disch := first | omega | rfl | (simp +decide only [go_sem, ↓reduceIte, h3] <;> rfl) | fail) only [go_sem, ↓reduceIte, h3]
   refine Qa hP (Qwu (a := u) (b := M i i) (k := K + 1) (by rw [<- hu]; have := Qv8; omega) (by omega) (by omega) hne) rfl rfl rfl ?_
   simp +decide (disch := first | omega | rfl | (simp +decide only [go_sem, ↓reduceIte, h0, h16, hg, hh, r1, id] <;> rfl) | fail) only [go_sem, ↓reduceIte, h0, h16, hg, hh, r1, id]
   refine Qa hP (Q8v (n := R) (by omega)) rfl rfl rfl ?_
   simp +decide (disch := first | omega | rfl | (simp +decide only [go_sem, ↓reduceIte] <;> rfl) | fail) only [go_sem, ↓reduceIte]
   have hbd : rs (u / M i i) <= K + 2 := by
    rw [Rat.div_def]
    have q1 := Qib u (M i i)⁻¹
    have q2 := Q0c (M i i) hne
    have q3 := Qv8
    rw [hu] at q3
    omega
   have cmb := Qum (w := R) (x := fun _ => (0 : Rat)) (y := M i) (c := u / M i i) (ty2 := tyr) (k := K + 2) (by omega) (fun _ _ => by have := rs_0; omega) (fun c hc => by have := hB i hi' c hc; omega) hbd (by omega)
   refine Q8q hP (hb1 := ⟨3, tyr, Q8 PV.rat (M i) R, true⟩) cmb (by simp +decide (disch := first | omega | rfl | (simp +decide only [go_sem, ↓reduceIte] <;> rfl) | fail) only [go_sem, ↓reduceIte]) (γ1 := 1600000 + i) (by simp +decide (disch := first | omega | rfl | (simp +decide only [go_sem, ↓reduceIte, r1] <;> rfl) | fail) only [go_sem, ↓reduceIte, r1]) (by simp +decide (disch := first | omega | rfl | (simp +decide only [go_sem, ↓reduceIte] <;> rfl) | fail) only [go_sem, ↓reduceIte]) (fun γ hγ => by simpa [PV.refs, PV.sref] using hγ) (by simp) ?_
   simp +decide (disch := first | omega | rfl | (simp +decide only [go_sem, ↓reduceIte, h0] <;> rfl) | fail) only [go_sem, ↓reduceIte, h0]
   refine Qdu ?_
   simp +decide (disch := first | omega | rfl | (simp +decide only [go_sem, ↓reduceIte] <;> rfl) | fail) only [go_sem, ↓reduceIte]
   refine Qc ?_ ?_
   ·simp +decide (disch := first | omega | rfl | (simp +decide only [go_sem, ↓reduceIte, Ql, List.contains_cons, List.contains_nil, List.flatMap_cons, List.flatMap_nil, List.append_nil] <;> rfl) | fail) only [go_sem, ↓reduceIte, Ql, List.contains_cons, List.contains_nil, List.flatMap_cons, List.flatMap_nil, List.append_nil]
    have hdi : Qhm M R = i := Qmq (Nat.zero_le _) (by omega) (decide_eq_true hne) fun j _ hj => decide_eq_false (fun h => h (hz j hj))
    unfold Qej
    rw [hdi, if_pos hi', <- hu]
    rfl
   ·simp +decide (disch := first | omega | rfl | (simp +decide only [go_sem, ↓reduceIte, Ql, List.contains_cons, List.contains_nil, List.flatMap_cons, List.flatMap_nil, List.append_nil] <;> rfl) | fail) only [go_sem, ↓reduceIte, Ql, List.contains_cons, List.contains_nil, List.flatMap_cons, List.flatMap_nil, List.append_nil]
  ·simp +decide (disch := first | omega | rfl | (simp +decide only [go_sem, ↓reduceIte, h16] <;> rfl) | fail) only [go_sem, ↓reduceIte, h16]
   refine Qbx (R - (i + 1)) (by omega) ⟨i + 1, rfl, by omega, ?_⟩
   simp +decide (disch := first | omega | rfl | (simp +decide only [go_sem, ↓reduceIte, h0, hg, hh, h3] <;> rfl) | fail) only [go_sem, ↓reduceIte, h0, hg, hh, h3]
   refine ⟨hr, fun j hj => ?_⟩
   by_cases e : j = i
   ·subst e; exact Qda.1 (Classical.not_not.1 hs)
   ·exact hz j (by omega)
 ·obtain rfl : i = R := by omega
  have hnd : ¬ Qhm M i < i := by
   have : Qhm M i = 0 + i := Qj1 fun j _ hj => decide_eq_false (fun h => h (hz j (by omega)))
   omega
  simp +decide (disch := first | omega | rfl | (simp +decide only [go_sem, ↓reduceIte, h0] <;> rfl) | fail) only [go_sem, ↓reduceIte, h0]
  refine Qcp (by repeat (first | exact Q2 | exact Qu | exact Qv | exact Qw | exact Qx | apply Qt | apply Qz | apply Q7 | apply Qad | apply Qae | apply Qp | apply Q5)) [(0, 0), (2, 2), (8, 12), (50, 101), (1500000, 1500000)] [10, 11, 99] (fun q J hp => ∃ a, q = i - a /\ a <= i /\ J 0 = .nso 1500000 0 i /\ J 50 = .int .i64 (a : Nat) /\ J 1500000 = .nst 1500000 1 ty (Qaa (Qap 1600000 i i id)) /\ hp 1500000 = some ⟨1, ty, [], true⟩ /\ (∀ r, r < i -> hp (1600000 + r) = some ⟨3, tyr, Q8 PV.rat (M r) i, true⟩) /\ hp 3 = some ⟨3, 32, [PV.rat u], false⟩ /\ ∀ j, j < a -> ∀ k, k < i -> M j k = 0) i ?_ ?_
  ·refine ⟨0, rfl, by omega, ?_⟩
   simp +decide (disch := first | omega | rfl | (simp +decide only [go_sem, ↓reduceIte, h0, hg, hh, h3] <;> rfl) | fail) only [go_sem, ↓reduceIte, h0, hg, hh, h3]
   exact ⟨rfl, hr, fun j hj => by omega⟩
  rintro _ J1 h1 ⟨a, rfl, ha, a0, a50, ag, ah, ar, a3, az⟩
  simp +decide (disch := first | omega | rfl | (simp +decide only [go_sem, ↓reduceIte, a50] <;> rfl) | fail) only [go_sem, ↓reduceIte, a50]
  refine Qb (fun hca => ?_) (fun hca => ?_)
  ·have ha' : a < i := by omega
   have r1 := ar a ha'
   simp +decide (disch := first | omega | rfl | (simp +decide only [go_sem, ↓reduceIte, a0, a50, ag, ah, r1, id] <;> rfl) | fail) only [go_sem, ↓reduceIte, a0, a50, ag, ah, r1, id]
   refine Qcp (by repeat (first | exact Q2 | exact Qu | exact Qv | exact Qw | exact Qx | apply Qt | apply Qz | apply Q7 | apply Qad | apply Qae | apply Qp | apply Q5)) [(0, 0), (2, 2), (9, 12), (56, 56), (58, 100), (1500000, 1500000)] [10, 11, 99] (fun q J hp => ∃ b, q = i - b /\ b <= i /\ J 0 = .nso 1500000 0 i /\ J 56 = .ms (1600000 + a) i /\ J 58 = .int .i64 (b : Nat) /\ J 1500000 = .nst 1500000 1 ty (Qaa (Qap 1600000 i i id)) /\ hp 1500000 = some ⟨1, ty, [], true⟩ /\ (∀ r, r < i -> hp (1600000 + r) = some ⟨3, tyr, Q8 PV.rat (M r) i, true⟩) /\ hp 3 = some ⟨3, 32, [PV.rat u], false⟩ /\ ∀ k, k < b -> M a k = 0) i ?_ ?_
   ·refine ⟨0, rfl, by omega, ?_⟩
    simp +decide (disch := first | omega | rfl | (simp +decide only [go_sem, ↓reduceIte, a0, ag, ah, a3] <;> rfl) | fail) only [go_sem, ↓reduceIte, a0, ag, ah, a3]
    exact ⟨rfl, ar, fun j hj => by omega⟩
   rintro _ J2 h2 ⟨b, rfl, hb, b0, b56, b58, bg, bh, br, b3, bz⟩
   simp +decide (disch := first | omega | rfl | (simp +decide only [go_sem, ↓reduceIte, b58] <;> rfl) | fail) only [go_sem, ↓reduceIte, b58]
   refine Qb (fun hcb => ?_) (fun hcb => ?_)
   ·have hb' : b < i := by omega
    have s1 := br a ha'
    have s2 := br b hb'
    have b1 := hB a ha' b hb'
    simp +decide (disch := first | omega | rfl | (simp +decide only [go_sem, ↓reduceIte, b0, b56, b58, bg, bh, s1, s2, id] <;> rfl) | fail) only [go_sem, ↓reduceIte, b0, b56, b58, bg, bh, s1, s2, id]
    refine Qa hP (Qly (a := M a b) (by omega)) rfl rfl rfl ?_
    simp +decide (disch := first | omega | rfl | (simp +decide only [go_sem, ↓reduceIte, b0, b56, b58, bg, bh, s1, s2, id] <;> rfl) | fail) only [go_sem, ↓reduceIte, b0, b56, b58, bg, bh, s1, s2, id]
    refine Qb (fun hs => ?_) (fun hs => ?_)
    ·have hne : M a b ≠ 0 := fun e => hs (Qda.2 e)
     have hab : a ≠ b := fun e => hne (by rw [<- e]; exact hz a ha')
     simp +decide (disch := first | omega | rfl | (simp +decide only [go_sem, ↓reduceIte, b0, b56, b58, bg, bh, b3, s1, s2, id] <;> rfl) | fail) only [go_sem, ↓reduceIte, b0, b56, b58, bg, bh, b3, s1, s2, id]
     have q1 := Q91 (M a b) (M a b)
     have hne2 : M a b + M a b ≠ 0 := fun h => hne (by grind)
     have q2 : rs u <= 1 := by rw [<- hu]; exact Qv8
     have c1 := Qwq (a := M a b) (b := M a b) (k := K) b1 b1 (by omega)
     have c2 := Qwu (a := u) (b := M a b + M a b) (k := 2 * K + 1) (by omega) (by omega) (by omega) hne2
     have q3 : rs (u / (M a b + M a b)) <= 2 * K + 2 := by
      rw [Rat.div_def]
      have := Qib u (M a b + M a b)⁻¹
      have := Q0c (M a b + M a b) hne2
      omega
     have c3 := Q44 (a := u / (M a b + M a b)) q3 (by omega)
     have c4 := Qp1 (x := -1) (by omega) (by omega)
     rw [show ((-1 : Int) : Rat) = -1 from rfl] at c4
     obtain ⟨v, hv⟩ : ∃ v : Rat, (-1 : Rat) = v := ⟨_, rfl⟩
     have q4 : rs v <= 1 := by rw [<- hv, Qyw]; exact Qv8
     rw [hv] at c4
     have c5 := Qo2 (w := i) (x := M a) (y := M b) (c := u) (ty1 := tyr) (ty2 := tyr) (k := K + 2) (by omega) (fun c hc => by have := hB a ha' c hc; omega) (fun c hc => by have := hB b hb' c hc; omega) (by omega) (by omega)
     have c6 := Qo2 (w := i) (x := M a) (y := M b) (c := v) (ty1 := tyr) (ty2 := tyr) (k := K + 2) (by omega) (fun c hc => by have := hB a ha' c hc; omega) (fun c hc => by have := hB b hb' c hc; omega) (by omega) (by omega)
     have hci : Qje M i a = b := Qmq (Nat.zero_le _) (by omega) (decide_eq_true hne) fun j _ hj => decide_eq_false (fun h => h (bz j hj))
     have hri : Qfe M i = a := Qmq (Nat.zero_le _) (by omega) (decide_eq_true (by rw [hci]; exact hb')) fun j _ hj => decide_eq_false (fun h => by
      have : Qje M i j = 0 + i := Qj1 fun k _ hk => decide_eq_false (fun h2 => h2 (az j (by omega) k (by omega)))
      omega)
     have hnx : Qej M i = [(u / (M a b + M a b), Qga (M a) (M b) u), (-(u / (M a b + M a b)), Qga (M a) (M b) v)] := by
      unfold Qej
      rw [if_neg hnd, hri, if_pos ha', hci, <- hu, <- hv]
     have hab2 : ¬ 1600000 + b = 1600000 + a := by omega
     repeat' first
      | refine Qe1 ?_ ?_
      | refine Qa hP c1 rfl rfl rfl ?_
      | refine Qa hP c2 rfl rfl rfl ?_
      | simp +decide (disch := first | omega | rfl | (simp +decide only [go_sem, ↓reduceIte, b0, b56, b58, bg, bh, b3, s1, s2, id] <;> rfl) | fail) only [go_sem, ↓reduceIte, b0, b56, b58, bg, bh, b3, s1, s2, id]
     all_goals
      refine Qve hP (hb1 := ⟨3, tyr, Q8 PV.rat (M a) i, true⟩) (hb2 := ⟨3, tyr, Q8 PV.rat (M b) i, true⟩) c5 (by simp +decide (disch := first | omega | rfl | (simp +decide only [go_sem, ↓reduceIte] <;> rfl) | fail) only [go_sem, ↓reduceIte]) (γ1 := 1600000 + a) (γ2 := 1600000 + b) (by simp +decide (disch := first | omega | rfl | (simp +decide only [go_sem, ↓reduceIte, s1] <;> rfl) | fail) only [go_sem, ↓reduceIte, s1]) (by simp +decide (disch := first | omega | rfl | (simp +decide only [go_sem, ↓reduceIte, s2] <;> rfl) | fail) only [go_sem, ↓reduceIte, s2]) (by omega) (by simp +decide (disch := first | omega | rfl | (simp +decide only [go_sem, ↓reduceIte, hab2] <;> rfl) | fail) only [go_sem, ↓reduceIte, hab2]) (fun γ hγ => by simpa [PV.refs, PV.sref] using hγ) (by simp) ?_
      simp +decide (disch := first | omega | rfl | (simp +decide only [go_sem, ↓reduceIte, b0, b56, b58, bg, bh, b3, s1, s2, id] <;> rfl) | fail) only [go_sem, ↓reduceIte, b0, b56, b58, bg, bh, b3, s1, s2, id]
      refine Qa hP c3 rfl rfl rfl ?_
      simp +decide (disch := first | omega | rfl | (simp +decide only [go_sem, ↓reduceIte, b0, b56, b58, bg, bh, b3, s1, s2, id] <;> rfl) | fail) only [go_sem, ↓reduceIte, b0, b56, b58, bg, bh, b3, s1, s2, id]
      refine Qa hP c4 rfl rfl rfl ?_
      simp +decide (disch := first | omega | rfl | (simp +decide only [go_sem, ↓reduceIte, b0, b56, b58, bg, bh, b3, s1, s2, id] <;> rfl) | fail) only [go_sem, ↓reduceIte, b0, b56, b58, bg, bh, b3, s1, s2, id]
      refine Qve hP (hb1 := ⟨3, tyr, Q8 PV.rat (M a) i, true⟩) (hb2 := ⟨3, tyr, Q8 PV.rat (M b) i, true⟩) c6 (by simp +decide (disch := first | omega | rfl | (simp +decide only [go_sem, ↓reduceIte] <;> rfl) | fail) only [go_sem, ↓reduceIte]) (γ1 := 1600000 + a) (γ2 := 1600000 + b) (by simp +decide (disch := first | omega | rfl | (simp +decide only [go_sem, ↓reduceIte, s1] <;> rfl) | fail) only [go_sem, ↓reduceIte, s1]) (by simp +decide (disch := first | omega | rfl | (simp +decide only [go_sem, ↓reduceIte, s2] <;> rfl) | fail) only [go_sem, ↓reduceIte, s2]) (by omega) (by simp +decide (disch := first | omega | rfl | (simp +decide only [go_sem, ↓reduceIte, hab2] <;> rfl) | fail) only [go_sem, ↓reduceIte, hab2]) (fun γ hγ => by simpa [PV.refs, PV.sref] using hγ) (by simp) ?_
      simp +decide (disch := first | omega | rfl | (simp +decide only [go_sem, ↓reduceIte, b0, b56, b58, bg, bh, b3, s1, s2, id] <;> rfl) | fail) only [go_sem, ↓reduceIte, b0, b56, b58, bg, bh, b3, s1, s2, id]
      refine Qdu ?_
      simp +decide (disch := first | omega | rfl | (simp +decide only [go_sem, ↓reduceIte] <;> rfl) | fail) only [go_sem, ↓reduceIte]
      refine Qc ?_ ?_
      ·simp +decide (disch := first | omega | rfl | (simp +decide only [go_sem, ↓reduceIte, Ql, List.contains_cons, List.contains_nil, List.flatMap_cons, List.flatMap_nil, List.append_nil] <;> rfl) | fail) only [go_sem, ↓reduceIte, Ql, List.contains_cons, List.contains_nil, List.flatMap_cons, List.flatMap_nil, List.append_nil]
       rw [hnx]; rfl
      ·simp +decide (disch := first | omega | rfl | (simp +decide only [go_sem, ↓reduceIte, Ql, List.contains_cons, List.contains_nil, List.flatMap_cons, List.flatMap_nil, List.append_nil] <;> rfl) | fail) only [go_sem, ↓reduceIte, Ql, List.contains_cons, List.contains_nil, List.flatMap_cons, List.flatMap_nil, List.append_nil]
    ·simp +decide (disch := first | omega | rfl | (simp +decide only [go_sem, ↓reduceIte, b58] <;> rfl) | fail) only [go_sem, ↓reduceIte, b58]
     refine Qbx (i - (b + 1)) (by omega) ⟨b + 1, rfl, by omega, ?_⟩
     simp +decide (disch := first | omega | rfl | (simp +decide only [go_sem, ↓reduceIte, b0, b56, bg, bh, b3] <;> rfl) | fail) only [go_sem, ↓reduceIte, b0, b56, bg, bh, b3]
     refine ⟨br, fun j hj => ?_⟩
     by_cases e : j = b
     ·subst e; exact Qda.1 (Classical.not_not.1 hs)
     ·exact bz j (by omega)
   ·simp +decide (disch := first | omega | rfl | (simp +decide only [go_sem, ↓reduceIte] <;> rfl) | fail) only [go_sem, ↓reduceIte]
    simp (disch := decide) only [Qcs, Qdb, Qcy, Qdv]
    simp +decide (disch := first | omega | rfl | (simp +decide only [go_sem, ↓reduceIte, a50] <;> rfl) | fail) only [go_sem, ↓reduceIte, a50]
    refine Qbx (i - (a + 1)) (by omega) ⟨a + 1, rfl, by omega, ?_⟩
    simp +decide (disch := first | omega | rfl | (simp +decide only [go_sem, ↓reduceIte, b0, bg, bh, b3] <;> rfl) | fail) only [go_sem, ↓reduceIte, b0, bg, bh, b3]
    refine ⟨br, fun j hj k hk => ?_⟩
    by_cases e : j = a
    ·subst e; exact bz k (by omega)
    ·exact az j (by omega) k hk
  ·simp +decide (disch := first | omega | rfl | (simp +decide only [go_sem, ↓reduceIte] <;> rfl) | fail) only [go_sem, ↓reduceIte]
   refine Qdu ?_
   simp +decide (disch := first | omega | rfl | (simp +decide only [go_sem, ↓reduceIte] <;> rfl) | fail) only [go_sem, ↓reduceIte]
   refine ⟨rfl, .sl 4 [], trivial, ?_⟩
   unfold Qej
   have e1 : ¬ Qfe M i < i := by
    have : Qfe M i = 0 + i := Qj1 fun j _ hj => decide_eq_false (fun h => by
     have : Qje M i j = 0 + i := Qj1 fun k _ hk => decide_eq_false (fun h2 => h2 (az j (by omega) k (by omega)))
     omega)
    omega
   rw [if_neg hnd, if_neg e1]
   rfl
end Go.Proofs.YtmnkngmmfnncoaaGreat
namespace Go.FW
open Go
variable {C C' : Ctx} {ρ ρ' : Nat -> Option Nat} {fr fr' : Fr} {hp hp' : HP} {w : World} {K R : Qd}
theorem Qab0 {γ e ty : Nat} {xs : List PV} (s : Nat) (hfr : fr γ = .nst γ e ty xs) (hsg : fr s = .np γ 0 0) (h2 : isY γ = false) (hd : ∀ x ∈ xs, x.cells = x.ncells /\ x.isData = true /\ ∀ c ∈ x.ncells, c.isRefC = false) :
  Wk fr hp (upd (Qcq γ fr) s (.mp γ 0 0)) (Qi hp γ ⟨e, ty, xs, true⟩) := by
 rintro C tmps w ⟨ρ, hs⟩
 have hsl := hs.slots γ
 rw [hfr] at hsl
 obtain ⟨k0, he, b, hb, cur, cap, k1, k2, k3, k4, k5, k6, k7, k8, k9, k10, k11⟩ := hsl
 obtain ⟨hp', hpE⟩ : ∃ f, f = Qi hp γ ⟨e, ty, xs, true⟩ := ⟨_, rfl⟩
 rw [<- hpE]
 have pγ : hp' γ = some ⟨e, ty, xs, true⟩ := by rw [hpE]; simp [Qi]
 have po : ∀ β, β ≠ γ -> hp' β = hp β := fun β hβ => by rw [hpE]; simp [Qi, hβ]
 have hX : ∀ c, Xof C ρ hp' c -> Xof C ρ hp c := by
  rintro c (hx | ⟨β, hb', g1, g2, g3⟩)
  ·exact .inl hx
  ·by_cases hβ : β = γ
   ·subst hβ; rw [pγ] at g1; cases g1; cases g2
   ·rw [po β hβ] at g1; exact .inr ⟨β, hb', g1, g2, g3⟩
 have hst : Qfx w w (Xof C ρ hp) (Xof C ρ hp') := ⟨fun _ _ _ => rfl, fun c _ hn h => hn (hX c h), Nat.le_refl _⟩
 have c1 : ∀ β, β ≠ γ -> Cnd ρ ρ hp hp' w w β := fun β hβ => ⟨rfl, fun hb hq => ⟨hb, by rw [po β hβ]; exact hq, rfl, Nat.le_refl _, fun _ _ _ h => h, fun h => ⟨h, rfl, fun _ _ => rfl⟩⟩⟩
 have c0 : ∀ β, Qlg ρ ρ hp hp' w w β := fun β => by
  by_cases hβ : β = γ
  ·subst hβ
   refine ⟨rfl, fun hb1 hq => ⟨_, pγ, ?_, ?_, fun _ _ _ h => h⟩⟩
   ·rw [k2] at hq; cases hq; exact k4.symm
   ·rw [k2] at hq; cases hq; rw [k3]; exact Nat.zero_le _
  ·exact (c1 β hβ).weak
 have hown := hs.own γ hb k2
 refine ⟨ρ, hs.sz, hs.ext, hs.keep, fun β hb1 hβ => ?_, fun β δ c g1 g2 g3 g4 => ?_, fun i => ?_⟩
 ·by_cases hq : β = γ
  ·subst hq
   rw [pγ] at hβ; cases hβ
   refine ⟨he, fun i x hx => ?_, ?_, (fun h => by rw [h2] at h; cases h), fun _ => rfl⟩
   ·obtain ⟨d1, d2, _⟩ := hd x (List.mem_of_getElem? hx)
    exact ⟨by rw [d1]; exact k10 i x hx, d2⟩
   ·have hblk := hown.blk
    rw [k1] at hblk ⊢
    refine ⟨hblk.1, hblk.2.1, cur, cap, k6, k7, k8, k9, fun i x hx j y hy => ?_⟩
    obtain ⟨d1, _, d3⟩ := hd x (List.mem_of_getElem? hx)
    rw [d1] at hy
    exact ((k11 i x hx j y hy).toC (d3 y (List.mem_of_getElem? hy))).sub hX
  ·rw [po β hq] at hβ
   obtain ⟨q1, q2, q3, q4, q5⟩ := hs.own β hb1 hβ
   refine ⟨q1, q2, ?_, q4, q5⟩
   cases hr : ρ β with
   | none => rw [hr] at q3; exact q3
   | some c => rw [hr] at q3; exact ⟨q3.1, q3.2.1, q3.2.2.move rfl rfl rfl rfl hst.rc⟩
 ·have f : ∀ β, hp' β ≠ none -> hp β ≠ none := fun β hβ => by
   by_cases hq : β = γ
   ·subst hq; simp [k2]
   ·rwa [po β hq] at hβ
  exact hs.inj β δ c (f β g1) (f δ g2) g3 g4
 ·unfold upd
  split
  ·rename_i hi; subst hi
   have hsl := hs.slots i
   rw [hsg] at hsl
   obtain ⟨_, b', hb', g1, g2, g3⟩ := hsl
   rw [k2] at g2; cases g2
   exact ⟨b', _, g1, pγ, by rw [g3, k4]⟩
  ·have hsl := hs.slots i
   show Qk C ρ hp' w (Qcc γ (fr i)) _
   by_cases hn : ∃ e' ty' ys, fr i = .nst γ e' ty' ys
   ·obtain ⟨e', ty', ys, hq⟩ := hn
    rw [hq]; simp only [Qcc, if_true]; trivial
   ·have e1 : Qcc γ (fr i) = fr i := by
     cases hq : fr i with
     | nst γ' e' ty' ys =>
      simp only [Qcc]
      rw [if_neg]
      intro h; subst h; exact hn ⟨_, _, _, hq⟩
     | _ => rfl
    rw [e1]
    refine hsl.move hst (fun β _ => ⟨rfl, (c0 β).h⟩) (fun β _ => c0 β) (fun γ' e' ty' ys hq => c1 γ' fun h => by subst h; exact hn ⟨_, _, _, hq⟩)
theorem Qab1 {e by_ ty d β n : Nat} {xs ys : List PV} (hb : hp β = some ⟨e, ty, xs, false⟩) (h0 : 0 < e) (hn : n = xs.length) (hy : ys ≠ []) (h1 : (n + ys.length) * by_ <= 140737488355328) (h2 : n + ys.length <= 9223372036854775807) (hB : 2000000 <= β) :
  Qdy e by_ ty (.ms β n) (.sl e ys) d fr hp K = K (upd (Qc2 β fr) d (.ms β (n + ys.length))) (Qi hp β ⟨e, ty, xs ++ ys, false⟩) := by
 subst hn
 have b1 : isB β = true := by simp [isB]; omega
 have b2 : isY β = false := by simp [isY]; omega
 simp [Qdy, Qcx, hb, h0, b1, b2, h1, h2, hy]
theorem Q4l {γ e ty : Nat} {cs cs' : List PV} (δ e' ty' : Nat) (hfr : fr γ = .nst γ e ty [.agg cs]) (h1 : hp δ = none) (h2 : 2000000 <= δ) (h3 : 0 < e') (hl : cs'.length = cs.length) (hc : ∀ p ∈ cs.zip cs', p.2 = p.1 ∨ (p.1 = .nilS /\ p.2 = .mso δ 0 0)) :
  Wk fr hp (upd fr γ (.nst γ e ty [.rag cs'])) (Qi hp δ ⟨e', ty', [], false⟩) := by
 have h := Qs6 (fr := fr) (hp := hp) (γ := γ) (e := e) (ty := ty) (xs := [.agg cs]) (xs' := [.rag cs']) (fun x => if x = δ then some (e', ty') else none) hfr (fun x y h => ?_) rfl (fun i x x' k1 k2 => ?_)
 ·refine cast (congrArg (Wk fr hp (upd fr γ (.nst γ e ty [.rag cs']))) (funext fun x => ?_)) h
  unfold Qi
  by_cases hx : x = δ
  ·subst hx; simp
  ·simp [hx]
 ·split at h
  ·rename_i hx; subst hx; cases h; exact ⟨h1, h2, h3⟩
  ·cases h
 ·cases i with
  | succ i => cases k1
  | zero =>
   cases k1; cases k2
   refine ⟨hl, fun j y y' q1 q2 => ?_⟩
   have hz : (y, y') ∈ cs.zip cs' := by
    refine List.mem_of_getElem? (i := j) ?_
    rw [List.getElem?_zip_eq_some]
    exact ⟨q1, q2⟩
   rcases hc _ hz with h | ⟨h, h'⟩
   ·exact .inl h
   ·exact .inr ⟨h, δ, (e', ty'), by simp, h'⟩
theorem Q8w {sk : List It} {r : RT} (s k : Nat) (l : List Nat) {p D : PV} (h0 : fr s = p) (h1 : Qlv fr k p) (h2 : Qid fr hp k p = D) (h3 : Qpw fr k p = l) (hv : vc C R (.o r :: sk) (upd fr s D) (Q4 hp l)) : vc C R (.o (.wk r) :: sk) fr hp := by
 subst h0
 subst h2
 subst h3
 exact Qdt (Qs7 s k h1) hv
theorem Q8x {P : Program} (hP : C.P = P) {g : FuncId} {args pargs : List PV} {d : Option Nat} {β1 : Nat} {hb1 : HB} {Post : PV -> List PV -> Prop}
  (h : Qb3 P g pargs (fun _ => .undef) (Qi hp0 1000000 hb1) fun r F H => Qet r /\ ∃ xs, H 1000000 = some ⟨hb1.e, hb1.ty, xs, false⟩ /\ xs.length = hb1.xs.length /\ Post r xs) (h1 : hp β1 = some hb1) (f1 : hb1.fz = false) (n1 : hb1.xs ≠ []) (B1 : isB β1 = true)
  (hargs : args.map (rnP fun x => if x = β1 then 1000000 else x) = pargs) (hna : ∀ γ ∈ args.flatMap (fun x => x.refs ++ x.sref), γ = β1) (hpl : pargs.length <= 1000000)
  (hK : ∀ r xs, xs.length = hb1.xs.length -> Post r xs -> K (Qbs fr d r) (Qi hp β1 ⟨hb1.e, hb1.ty, xs, false⟩)) : Qb9 C false (.fn g [] []) args d fr hp K := by
 obtain ⟨gv, hgv⟩ : ∃ f : Nat -> Option Nat, f = fun x => if x = 1000000 then some β1 else none := ⟨_, rfl⟩
 have ga : ∀ β γ, gv β = some γ -> β = 1000000 /\ γ = β1 := fun β γ hq => by
  rw [hgv] at hq; simp only at hq
  split at hq
  ·cases hq; rename_i e; exact ⟨e, rfl⟩
  ·cases hq
 have g0 : gv 1000000 = some β1 := by rw [hgv]; rfl
 have y0 : isY 1000000 = true := by decide
 have r0 : isR 1000000 = false := by decide
 have gn0 : gn gv 1000000 = some β1 := (Qiy r0).trans g0
 have gna : ∀ β γ, gn gv β = some γ -> β = 1000000 /\ γ = β1 := fun β γ hq => ga β γ (Qhs hq).2
 refine Qor hP h gv _ ⟨fun β γ hq => ?_, fun β hq => ?_, fun β β' γ q1 q2 => ?_⟩ (fun β γ hq => ?_) hargs (fun x hx γ hγ => ?_) (fun s _ => .inl rfl) hpl (fun hq => by cases hq) (fun ρ tmps w hs r F H hp0 _ => ?_)
 ·obtain ⟨rfl, rfl⟩ := ga β γ hq
  exact ⟨hb1, h1, by decide, (fun h => by rw [r0] at h; cases h), fun _ => ⟨by simp [Qi], f1, B1, fun h => by rw [y0] at h; cases h⟩⟩
 ·by_cases e2 : β = 1000000
  ·subst e2; exact ⟨_, g0⟩
  ·simp [Qi, FW.hp0, e2] at hq
 ·rw [(ga β γ q1).1, (ga β' γ q2).1]
 ·obtain ⟨rfl, rfl⟩ := ga β γ hq
  simp
 ·rw [hna γ (List.mem_flatMap.2 ⟨x, hx, hγ⟩)]
  exact ⟨_, g0⟩
 ·obtain ⟨⟨⟨p1, p2⟩, p3⟩, xs, k1, k2, k4⟩ := hp0
  obtain ⟨eo, heo⟩ : ∃ f : Nat -> Option Nat, f = fun γ => if γ = β1 then some 1000000 else none := ⟨_, rfl⟩
  have ea : ∀ γ β, eo γ = some β -> γ = β1 /\ β = 1000000 := fun γ β hq => by
   rw [heo] at hq; simp only at hq
   split at hq
   ·cases hq; rename_i e; exact ⟨e, rfl⟩
   ·cases hq
  have eb1 : eo β1 = some 1000000 := by rw [heo]; simp
  refine ⟨eo, fun x => β1, Qbs fr d r, Qi hp β1 ⟨hb1.e, hb1.ty, xs, false⟩, fun γ β hq => ?_, fun β γ hq _ => ?_, fun γ β hq => ?_, fun γ hq hg => ?_, fun γ hq hg => ?_, fun s => ?_, hK r xs k2 k4⟩
  ·obtain ⟨rfl, rfl⟩ := ea γ β hq
   exact ⟨by simp [k1], rfl, B1, .inl ⟨y0, gn0⟩⟩
  ·obtain ⟨rfl, rfl⟩ := gna β γ hq
   exact eb1
  ·obtain ⟨rfl, rfl⟩ := ea γ β hq
   rw [k1]; simp [Qi]
  ·obtain ⟨β, hβ⟩ := hg
   obtain ⟨rfl, rfl⟩ := gna β γ hβ
   rw [eb1] at hq; cases hq
  ·have : γ ≠ β1 := fun e => by subst e; rw [eb1] at hq; cases hq
   simp [Qi, this]
  ·have hsl := hs.slots s
   have hn : ∀ γ e ty xs, fr s = .nst γ e ty xs -> ¬ ∃ β, gn gv β = some γ := fun γ e ty xs e0 ⟨β, hβ⟩ => by
    rw [e0] at hsl
    obtain ⟨_, _, b, hb, _, _, _, l2, l3, _⟩ := hsl
    obtain ⟨rfl, rfl⟩ := gna β γ hβ
    rw [h1] at l2; cases l2; exact n1 l3
   have ho : ∀ γ ∈ (fr s).refs ++ (fr s).sref, (¬ ∃ β, gn gv β = some γ) ∨ ∃ β hb hb', gn gv β = some γ /\ isY β = true /\ hp γ = some hb /\ H β = some hb' /\ hb'.e = hb.e /\ hb.xs.length <= hb'.xs.length := fun γ _ => by
    by_cases e : γ = β1
    ·subst e; exact .inr ⟨_, _, _, gn0, y0, h1, k1, rfl, by simp [k2]⟩
    ·left
     rintro ⟨β, hβ⟩
     exact e (gna β γ hβ).2
   cases d with
   | none => exact .inr (.inl ⟨(by simp), rfl, ho, hn⟩)
   | some d =>
    by_cases e : s = d
    ·subst e
     refine .inr (.inr (.inl ⟨rfl, ?_, fun β hβ => by rw [p1, p2] at hβ; cases hβ⟩))
     rw [p3]
     simp [Qbs, upd]
    ·exact .inr (.inl ⟨by simp; exact fun h => e h.symm, by simp [Qbs, upd, e], ho, hn⟩)
theorem rn_P {τ : Nat -> Nat} {γ γ' ty B B' n w : Nat} (hγ : τ γ = γ') (hB : ∀ r, r < n -> τ (B + r) = B' + r) : rnP τ (.nst γ 1 ty (Qaa (Qap B n w id))) = .nst γ' 1 ty (Qaa (Qap B' n w id)) := by
 simp only [rnP, hγ]
 congr 1
 unfold Qaa Qap
 simp only [List.map_map]
 refine List.map_congr_left fun r hr => ?_
 simp [PV.ncells, PV.cells, rn1, Qcz, hB r (List.mem_range.1 hr)]
theorem Qvf {P : Program} (hP : C.P = P) {pr : Bool} {g : FuncId} {d : Option Nat} {R w ty e' tyr : Nat} {ys : Nat -> List PV} {D : PV} (hR : R <= 1000)
  (h : Qb3 P g [.nso 1500000 0 R] (upd (fun _ => .undef) 1500000 (.nst 1500000 1 ty (Qaa (Qap 1600000 R w id))))
   (fun x => if x = 1500000 then some ⟨1, ty, [], true⟩ else if 1600000 <= x /\ x < 1600000 + R then some ⟨e', tyr, ys (x - 1600000), true⟩ else none) (fun r _ _ => r = D)) (hD : Qet D)
  (hg : fr 2000000 = .nst 2000000 1 ty (Qaa (Qap 3000000 R w id))) (h0 : hp 2000000 = some ⟨1, ty, [], false⟩) (hrow : ∀ r, r < R -> hp (3000000 + r) = some ⟨e', tyr, ys r, false⟩)
  (hK : K (Qbs fr d D) hp) : Qb9 C pr (.fn g [] []) [.nso 2000000 0 R] d fr hp K := by
 obtain ⟨gv, hgv⟩ : ∃ f : Nat -> Option Nat, f = fun x => if x = 1500000 then some 2000000 else if 1600000 <= x /\ x < 1600000 + R then some (3000000 + (x - 1600000)) else none := ⟨_, rfl⟩
 obtain ⟨τ, hτ⟩ : ∃ f : Nat -> Nat, f = fun x => if x = 2000000 then 1500000 else if 3000000 <= x /\ x < 3000000 + R then 1600000 + (x - 3000000) else x := ⟨_, rfl⟩
 have ga : ∀ β γ, gv β = some γ -> (β = 1500000 /\ γ = 2000000) ∨ ∃ r, r < R /\ β = 1600000 + r /\ γ = 3000000 + r := fun β γ hq => by
  rw [hgv] at hq; simp only at hq
  split at hq
  ·cases hq; rename_i e; exact .inl ⟨e, rfl⟩
  ·split at hq
   ·rename_i e; exact .inr ⟨β - 1600000, by omega, by omega, (Option.some.inj hq).symm⟩
   ·cases hq
 have g0 : gv 1500000 = some 2000000 := by rw [hgv]; simp
 have g1 : ∀ r, r < R -> gv (1600000 + r) = some (3000000 + r) := fun r hr => by
  rw [hgv]; simp only
  rw [if_neg (by omega), if_pos ⟨by omega, by omega⟩, Nat.add_sub_cancel_left]
 have t0 : τ 2000000 = 1500000 := by rw [hτ]; simp
 have t1 : ∀ r, r < R -> τ (3000000 + r) = 1600000 + r := fun r hr => by
  rw [hτ]; simp only
  rw [if_neg (by omega), if_pos ⟨by omega, by omega⟩, Nat.add_sub_cancel_left]
 have hnm : ∀ γ ∈ (fr 2000000).refs ++ (fr 2000000).sref, ∃ β, gv β = some γ := fun γ hγ => by
  rw [hg] at hγ
  simp only [PV.refs, PV.sref, List.nil_append, List.mem_cons] at hγ
  rcases hγ with rfl | hγ
  ·exact ⟨_, g0⟩
  ·obtain ⟨r, hr, rfl⟩ := Qot γ hγ
   exact ⟨_, g1 r hr⟩
 refine Qs8 hP h gv τ (fun β γ hq => ?_) (fun β hq => ?_) (fun β β' γ q1 q2 => ?_) (fun β γ hq => ?_) ?_ (fun x hx γ hγ => ?_) (fun s hs => ?_) (by simp) (fun r F H hr => ?_)
 ·rcases ga β γ hq with ⟨rfl, rfl⟩ | ⟨r, hr, rfl, rfl⟩
  ·exact ⟨by decide, _, h0, by simp⟩
  ·refine ⟨by simp [isR]; omega, _, hrow r hr, ?_⟩
   rw [if_neg (by omega), if_pos ⟨by omega, by omega⟩, Nat.add_sub_cancel_left]
 ·by_cases e : β = 1500000
  ·subst e; exact ⟨_, g0⟩
  ·by_cases e2 : 1600000 <= β /\ β < 1600000 + R
   ·obtain ⟨r, rfl⟩ : ∃ r, β = 1600000 + r := ⟨β - 1600000, by omega⟩
    exact ⟨_, g1 r (by omega)⟩
   ·rw [if_neg e, if_neg e2] at hq; exact absurd rfl hq
 ·rcases ga β γ q1 with ⟨rfl, rfl⟩ | ⟨r, hr, rfl, rfl⟩ <;> rcases ga β' _ q2 with ⟨rfl, e⟩ | ⟨r', hr', rfl, e⟩
  ·rfl
  ·omega
  ·omega
  ·omega
 ·rcases ga β γ hq with ⟨rfl, rfl⟩ | ⟨r, hr, rfl, rfl⟩
  ·exact t0
  ·exact t1 r hr
 ·simp [rnP, rn1, t0]
 ·rw [List.mem_singleton.1 hx] at hγ
  simp [PV.refs, PV.sref] at hγ; subst hγ; exact ⟨_, g0⟩
 ·by_cases e : s = 1500000
  ·subst e
   refine .inr ⟨2000000, by omega, ?_, hnm⟩
   rw [hg, rn_P t0 t1]; simp [upd]
  ·left; simp [upd, e]
 ·subst hr; exact ⟨hD, hK⟩
end Go.FW
namespace Go.FW
open Go
abbrev LF := Rat × (Nat -> Rat)
def Qw2 (M : MF) (f : LF) : MF := fun r c => M r c - f.1 * f.2 r * f.2 c
def Qi1 (M : MF) (l : List LF) : MF := l.foldl Qw2 M
theorem Qw3 (M : MF) (l : List LF) (f : LF) : Qi1 M (l ++ [f]) = Qw2 (Qi1 M l) f := by simp [Qi1]
def Qbm (R : Nat) (M : MF) : Nat -> MF × List LF
 | 0 => (M, [])
 | k + 1 => (Qi1 (Qbm R M k).1 (Qej (Qbm R M k).1 R), (Qbm R M k).2 ++ Qej (Qbm R M k).1 R)
def Qd4 (R : Nat) (l : List LF) : List Rat := l.flatMap fun f => (List.range R).map f.2
theorem Qig (R : Nat) (l : List LF) : (Qd4 R l).length = l.length * R := by
 induction l with
 | nil => simp [Qd4]
 | cons f l ih =>
  unfold Qd4 at ih ⊢
  rw [List.flatMap_cons, List.length_append, ih, List.length_cons, Nat.add_mul]
  simp; omega
theorem Qw4 (R : Nat) (l : List LF) (f : LF) : Qd4 R (l ++ [f]) = Qd4 R l ++ (List.range R).map f.2 := by simp [Qd4]
theorem Q4m (f : Nat -> Rat) (w : Nat) : Q8 PV.rat f w = ((List.range w).map f).map PV.rat := by simp [Q8]
theorem Ql4 (M : MF) (R : Nat) : (Qej M R).length <= 2 := by
 unfold Qej; split
 ·simp
 ·split <;> simp
theorem Qnc (R : Nat) (M : MF) : ∀ k, (Qbm R M k).2.length <= 2 * k
 | 0 => by simp [Qbm]
 | k + 1 => by
  have := Qnc R M k
  have := Ql4 (Qbm R M k).1 R
  simp only [Qbm, List.length_append]; omega
def Q4n (K R n : Nat) (M : MF) : Prop := ∀ k, k <= n -> MBd K R R (Qbm R M k).1 /\ (∀ f ∈ Qej (Qbm R M k).1 R, rs f.1 <= K /\ ∀ c, c < R -> rs (f.2 c) <= K) /\ ∀ j, j <= (Qej (Qbm R M k).1 R).length -> MBd K R R (Qi1 (Qbm R M k).1 ((Qej (Qbm R M k).1 R).take j))
end Go.FW
