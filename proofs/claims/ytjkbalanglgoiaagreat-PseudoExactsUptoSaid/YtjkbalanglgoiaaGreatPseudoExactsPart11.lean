/- Part 11 of the proof of PseudoExacts: W9, W10, FwUI, FwUJ. Own lemmas; no conditions. -/
import Derived.Test.YtjkbalanglgoiaaGreatPseudoExactsPart10
set_option linter.unusedSimpArgs false
set_option linter.unnecessarySimpa false
set_option linter.unusedVariables false
namespace Go.Proofs.YtjkbalanglgoiaaGreat
open Go Go.FW
set_option linter.unusedSimpArgs false
set_option linter.unusedVariables false
set_option maxRecDepth 100000
theorem Q5l (v : Nat) : Qjp v = Qgf v 1 := rfl
theorem Qov {v : Nat} (hv : v < 64) : Qd Tryz.prog 45 [.int .i64 v] (· = PV.poly (Qaz v)) := by
  have hset : (List.replicate (v + 1) (0 : Int)).set v 1 = Qgf v 1 := Q4v v 1 rfl
  have hlr : v < (List.replicate (v + 1) (0 : Int)).length := by simp
  have hone := Qx5
  have hxl : (Qgf v 1).length = v + 1 := by simp [Qgf]
  have hadd := (Qou (p := []) (m := Qgf v 1) (K := 1) (E := 1) (k := 4) (PB.nil _ _) trivial (by simp [NZ]) (Qbh (q := ((1 : Int) : Rat)) (k := 4) (by rw [show ((1 : Int) : Rat) = 1 from rfl]; omega)) (by omega) (Q75 hv) (Q1a (by omega)) (by omega) (by omega) (by simp)).le (args' := [.nilS, PV.rat ((1 : Int) : Rat), PV.mono (Qgf v 1)]) ⟨trivial, Qt _, Qt _, trivial⟩
  rw [Qb0] at hadd
  have e : Qc6 [] ((1 : Int) : Rat) (Qgf v 1) = Qaz v := by
    rw [Qc6, Qd2, if_neg (by decide), Qaz, if_neg (by omega), Int.toNat_natCast, Q5l]; rfl
  rw [e] at hadd
  refine Qf Qk Tryz.func45 rfl Qaa6 (by simp [c45]) fun C hP => ?_; simp only [c45]
  simp +decide (disch := first | omega | rfl | (simp +decide only [go_sem, ↓reduceIte] <;> rfl) | fail) only [go_sem, ↓reduceIte]
  refine Qad (fun h => by omega) (fun _ => ?_)
  simp +decide (disch := first | omega | rfl | (simp +decide only [go_sem, ↓reduceIte] <;> rfl) | fail) only [go_sem, ↓reduceIte]
  refine Qb (fun h => by omega) (fun _ => ?_)
  simp +decide (disch := first | omega | rfl | (simp +decide only [go_sem, ↓reduceIte, hset] <;> rfl) | fail) only [go_sem, ↓reduceIte, hset]
  refine Qa hP (Qe9 (x := 1) (by omega) (by omega)) rfl rfl rfl ?_
  generalize ((1 : Int) : Rat) = c at *
  simp +decide (disch := first | omega | rfl | (simp +decide only [go_sem, ↓reduceIte] <;> rfl) | fail) only [go_sem, ↓reduceIte]
  refine Qbi hP hadd (by simp +decide (disch := first | omega | rfl | (simp +decide only [go_sem, ↓reduceIte, Qg, List.contains_cons, List.contains_nil, List.flatMap_cons, List.flatMap_nil, List.append_nil] <;> rfl) | fail) only [go_sem, ↓reduceIte, Qg, List.contains_cons, List.contains_nil, List.flatMap_cons, List.flatMap_nil, List.append_nil]; simp [List.take_of_length_le, hxl]) rfl ?_
  simp +decide (disch := first | omega | rfl | (simp +decide only [go_sem, ↓reduceIte] <;> rfl) | fail) only [go_sem, ↓reduceIte]
  exact Qc rfl rfl
theorem al1 : Qw (Qbq (Qaz 0) (((-1 : Int) : Rat) / ((2 : Int) : Rat))) (Qm3 (((1 : Int) : Rat) / ((3 : Int) : Rat))) = [(mkRat (-1) 2, [1]), (mkRat 1 3, [])] := by decide +kernel
theorem al2 : Qft [(mkRat (-1) 2, [1]), (mkRat 1 3, [])] = ((-6 : Int) : Rat) := by decide +kernel
theorem al3 : Qbq [(mkRat (-1) 2, [1]), (mkRat 1 3, [])] ((-6 : Int) : Rat) = [(((3 : Int) : Rat), [1]), (((-2 : Int) : Rat), [])] := by decide +kernel
theorem al4 : Qfr (Qbz (Qaz 0) (Qaz 0)) (Qbz (Qaz 1) (Qaz 1)) = [(-1, [0, 2]), (1, [2])] := by decide +kernel
theorem al5 : Qfr (Qaz 0) (Qaz 1) = [(-1, [0, 1]), (1, [1])] := by decide +kernel
theorem al6 : exP [(-1, [0, 1]), (1, [1])] [(-1, [0, 2]), (1, [2])] 2 = [] := by decide +kernel
theorem al7 : exQ [(-1, [0, 1]), (1, [1])] [(-1, [0, 2]), (1, [2])] 2 = Qw (Qaz 0) (Qaz 1) := by decide +kernel
theorem al8 : Qw (Qaz 0) (Qaz 1) = [(1, [0, 1]), (1, [1])] := by decide +kernel
theorem Qvj : Qd Tryz.prog 11 [PV.poly [(-1, [0, 2]), (1, [2])], PV.poly [(-1, [0, 1]), (1, [1])]] (· = .tup [PV.poly (Qw (Qaz 0) (Qaz 1)), .bool true]) := by
  have h := Qmg (p := [(-1, [0, 2]), (1, [2])]) (q := [(-1, [0, 1]), (1, [1])]) (K := 5) (E := 2) (L := 2) (k0 := 2) (Qqy (by decide +kernel)) (Qqy (by decide +kernel)) (Qh5 (by decide +kernel)) (by simp) (by simp) (fun k hk => by
    have : k = 0 ∨ k = 1 ∨ k = 2 := by omega
    rcases this with rfl | rfl | rfl <;> exact ⟨Qh5 (by decide +kernel), by decide +kernel⟩) (fun k hk => by
    have : k = 0 ∨ k = 1 := by omega
    rcases this with rfl | rfl <;> exact ⟨by decide +kernel, by decide +kernel⟩) (fun h => h.1 al6) (by omega) (by omega) (by omega) (by omega) (by omega)
  rwa [exR, if_pos al6, al7] at h
theorem Qjz : Qd Tryz.prog 10 [] (· = .bool true) := by
  have b0 := Qw5 0
  have b1 := Qw5 1
  have l0 := Qiu 0
  have l1 := Qiu 1
  have hA := al1
  have hS1 := Qm4 (L := 5) b0 (a := ((-1 : Int) : Rat) / ((2 : Int) : Rat)) (by decide +kernel)
  have hS2 := Qff (Qaz 0) (((-1 : Int) : Rat) / ((2 : Int) : Rat))
  have hC1 : PB 9 1 (Qm3 (((1 : Int) : Rat) / ((3 : Int) : Rat))) := Qh5 (by decide +kernel)
  have hC2 : (Qm3 (((1 : Int) : Rat) / ((3 : Int) : Rat))).length ≤ 1 := by decide +kernel
  have hr1 : rs (((-1 : Int) : Rat) / ((2 : Int) : Rat)) + 1 ≤ 5 := by decide +kernel
  have hr2 : rs (((1 : Int) : Rat) / ((3 : Int) : Rat)) ≤ 5 := by decide +kernel
  have hf1 := Qnd (x := -1) (y := 2) (by omega) (by omega) (by omega)
  have hf2 := Qnd (x := 1) (y := 3) (by omega) (by omega) (by omega)
  have hprim := Qhu (p := [(mkRat (-1) 2, [1]), (mkRat 1 3, [])]) (K := 5) (E := 1) (Qh5 (by decide +kernel)) (Qqy (by decide +kernel)) (by simp) (by simp) (by simp) (by omega)
  rw [al2, al3] at hprim
  have hx := Qvj
  rw [← al5, ← al4] at hx
  have hadd := al8
  have ls : (Qfr (Qaz 0) (Qaz 1)).length ≤ 2 := by decide +kernel
  have bs : PB 20 1 (Qfr (Qaz 0) (Qaz 1)) := Qh5 (by decide +kernel)
  have bm0 : PB 20 2 (Qbz (Qaz 0) (Qaz 0)) := Qh5 (by decide +kernel)
  have bm1 : PB 20 2 (Qbz (Qaz 1) (Qaz 1)) := Qh5 (by decide +kernel)
  have lm0 : (Qbz (Qaz 0) (Qaz 0)).length ≤ 2 := by decide +kernel
  have lm1 : (Qbz (Qaz 1) (Qaz 1)).length ≤ 2 := by decide +kernel
  have bX : PB 20 1 (Qw (Qaz 0) (Qaz 1)) := Qh5 (by decide +kernel)
  have lX : (Qw (Qaz 0) (Qaz 1)).length ≤ 2 := by decide +kernel
  have bN : PB 5 1 [(((3 : Int) : Rat), [1]), (((-2 : Int) : Rat), ([] : List Int))] := Qh5 (by decide +kernel)
  have nN : Nrm [(((3 : Int) : Rat), [1]), (((-2 : Int) : Rat), ([] : List Int))] := Qqy (by decide +kernel)
  have h3 := Qe9 (x := 3) (by omega) (by omega)
  have hm2 := Qe9 (x := -2) (by omega) (by omega)
  have hm6 := Qe9 (x := -6) (by omega) (by omega)
  have r6 : rs ((-6 : Int) : Rat) ≤ 5 := by decide +kernel
  have hmul : ∀ v : Int, min (Qaz v).length (Qaz v).length * (4 + 4) ≤ 1 * 8 := fun v => Nat.mul_le_mul_right _ (by have := Qiu v; omega)
  have hmll : ∀ v : Int, (Qaz v).length * (Qaz v).length ≤ 1 * 1 := fun v => Nat.mul_le_mul (Qiu v) (Qiu v)
  generalize ((3 : Int) : Rat) = c3 at h3 hprim bN nN
  generalize ((-2 : Int) : Rat) = cm2 at hm2 hprim bN nN
  generalize ((-6 : Int) : Rat) = cm6 at hm6 hprim r6
  have hnorm := (Qlv bN nN (by omega) (by omega) (by simp)).slLe (xs := [PV.term (c3, [1]), .agg [.bool (decide (cm2.num < 0)), PV.num cm2.num.natAbs, PV.num cm2.den, .nilS]]) ⟨Qt _, ⟨Qdy _, Qdy _, Qdy _, trivial, trivial⟩, trivial⟩
  have hv0 := Qqk (v := 0) (by omega) (by omega)
  have hv1 := Qqk (v := 1) (by omega) (by omega)
  have hw0 := Qov (v := 0) (by omega)
  have hw1 := Qov (v := 1) (by omega)
  have hq1 := hmul 0
  have hq2 := hmul 1
  have hq3 := hmll 0
  have hq4 := hmll 1
  refine Qf Qk Tryz.func10 rfl Qaa7 (by simp [c10]) fun C hP => ?_; simp only [c10]
  simp +decide (disch := first | omega | rfl | (simp +decide only [go_sem, ↓reduceIte] <;> rfl) | fail) only [go_sem, ↓reduceIte]
  refine Qa hP hv0 rfl rfl rfl ?_
  simp +decide (disch := first | omega | rfl | (simp +decide only [go_sem, ↓reduceIte] <;> rfl) | fail) only [go_sem, ↓reduceIte]
  refine Qa hP hf1 rfl rfl rfl ?_
  generalize ((-1 : Int) : Rat) / ((2 : Int) : Rat) = f1 at *
  simp +decide (disch := first | omega | rfl | (simp +decide only [go_sem, ↓reduceIte] <;> rfl) | fail) only [go_sem, ↓reduceIte]
  refine Qa hP (Qir (K := 5) (E := 1) (b0.mono (by omega) (by omega)) hr1 (by omega) (by omega) (by omega)) rfl rfl rfl ?_
  simp +decide (disch := first | omega | rfl | (simp +decide only [go_sem, ↓reduceIte] <;> rfl) | fail) only [go_sem, ↓reduceIte]
  refine Qa hP hf2 rfl rfl rfl ?_
  generalize ((1 : Int) : Rat) / ((3 : Int) : Rat) = f2 at *
  simp +decide (disch := first | omega | rfl | (simp +decide only [go_sem, ↓reduceIte] <;> rfl) | fail) only [go_sem, ↓reduceIte]
  refine Qa hP (Q04 hr2 (by omega)) rfl rfl rfl ?_
  simp +decide (disch := first | omega | rfl | (simp +decide only [go_sem, ↓reduceIte] <;> rfl) | fail) only [go_sem, ↓reduceIte]
  refine Qa hP (Qlo (K := 9) (E := 1) (hS1.mono (by omega) (by omega)) hC1 (by omega) (by omega) (by omega) (by omega)) rfl rfl rfl ?_
  rw [hA]
  simp +decide (disch := first | omega | rfl | (simp +decide only [go_sem, ↓reduceIte] <;> rfl) | fail) only [go_sem, ↓reduceIte]
  refine Qa hP hprim rfl rfl rfl ?_
  simp +decide (disch := first | omega | rfl | (simp +decide only [go_sem, ↓reduceIte] <;> rfl) | fail) only [go_sem, ↓reduceIte]
  refine Qa hP hv0 rfl rfl rfl ?_
  simp +decide (disch := first | omega | rfl | (simp +decide only [go_sem, ↓reduceIte] <;> rfl) | fail) only [go_sem, ↓reduceIte]
  refine Qa hP hv0 rfl rfl rfl ?_
  simp +decide (disch := first | omega | rfl | (simp +decide only [go_sem, ↓reduceIte] <;> rfl) | fail) only [go_sem, ↓reduceIte]
  refine Qa hP (Qh1 b0 b0 (by omega) (by omega) (by omega) (by omega) (by omega) (by omega)) rfl rfl rfl ?_
  simp +decide (disch := first | omega | rfl | (simp +decide only [go_sem, ↓reduceIte] <;> rfl) | fail) only [go_sem, ↓reduceIte]
  refine Qa hP hv1 rfl rfl rfl ?_
  simp +decide (disch := first | omega | rfl | (simp +decide only [go_sem, ↓reduceIte] <;> rfl) | fail) only [go_sem, ↓reduceIte]
  refine Qa hP hv1 rfl rfl rfl ?_
  simp +decide (disch := first | omega | rfl | (simp +decide only [go_sem, ↓reduceIte] <;> rfl) | fail) only [go_sem, ↓reduceIte]
  refine Qa hP (Qh1 b1 b1 (by omega) (by omega) (by omega) (by omega) (by omega) (by omega)) rfl rfl rfl ?_
  simp +decide (disch := first | omega | rfl | (simp +decide only [go_sem, ↓reduceIte] <;> rfl) | fail) only [go_sem, ↓reduceIte]
  refine Qa hP (Qh2 bm0 bm1 (by omega) (by omega) (by omega) (by omega) (by omega)) rfl rfl rfl ?_
  simp +decide (disch := first | omega | rfl | (simp +decide only [go_sem, ↓reduceIte] <;> rfl) | fail) only [go_sem, ↓reduceIte]
  refine Qa hP hv0 rfl rfl rfl ?_
  simp +decide (disch := first | omega | rfl | (simp +decide only [go_sem, ↓reduceIte] <;> rfl) | fail) only [go_sem, ↓reduceIte]
  refine Qa hP hv1 rfl rfl rfl ?_
  simp +decide (disch := first | omega | rfl | (simp +decide only [go_sem, ↓reduceIte] <;> rfl) | fail) only [go_sem, ↓reduceIte]
  refine Qa hP (Qh2 (K := 4) (E := 1) b0 b1 (by omega) (by omega) (by omega) (by omega) (by omega)) rfl rfl rfl ?_
  simp +decide (disch := first | omega | rfl | (simp +decide only [go_sem, ↓reduceIte] <;> rfl) | fail) only [go_sem, ↓reduceIte]
  refine Qa hP hx rfl rfl rfl ?_
  simp +decide (disch := first | omega | rfl | (simp +decide only [go_sem, ↓reduceIte] <;> rfl) | fail) only [go_sem, ↓reduceIte]
  generalize hXX : Qw (Qaz 0) (Qaz 1) = X at *
  refine Qcr ?_ ?_
  · simp +decide (disch := first | omega | rfl | (simp +decide only [go_sem, ↓reduceIte] <;> rfl) | fail) only [go_sem, ↓reduceIte]
    refine Qa hP h3 rfl rfl rfl ?_
    simp +decide (disch := first | omega | rfl | (simp +decide only [go_sem, ↓reduceIte] <;> rfl) | fail) only [go_sem, ↓reduceIte]
    refine Qcr ?_ ?_
    · simp +decide (disch := first | omega | rfl | (simp +decide only [go_sem, ↓reduceIte] <;> rfl) | fail) only [go_sem, ↓reduceIte]
      rw [Qyl (p := PV.rat c3) (m := 1) (β := 31) (e := 1) (ty := 3) (fz := false) (xs := Qgr [1]) rfl (by simp +decide (disch := first | omega | rfl | (simp +decide only [go_sem, ↓reduceIte] <;> rfl) | fail) only [go_sem, ↓reduceIte] <;> rfl) rfl]
      simp +decide (disch := first | omega | rfl | (simp +decide only [go_sem, ↓reduceIte] <;> rfl) | fail) only [go_sem, ↓reduceIte]
      refine Qa hP hm2 rfl rfl rfl ?_
      simp +decide (disch := first | omega | rfl | (simp +decide only [go_sem, ↓reduceIte] <;> rfl) | fail) only [go_sem, ↓reduceIte]
      refine Qbi hP hnorm (by simp +decide (disch := first | omega | rfl | (simp +decide only [go_sem, ↓reduceIte, Qg, List.contains_cons, List.contains_nil, List.flatMap_cons, List.flatMap_nil, List.append_nil] <;> rfl) | fail) only [go_sem, ↓reduceIte, Qg, List.contains_cons, List.contains_nil, List.flatMap_cons, List.flatMap_nil, List.append_nil] <;> rfl) rfl ?_
      simp +decide (disch := first | omega | rfl | (simp +decide only [go_sem, ↓reduceIte, Qg, List.contains_cons, List.contains_nil, List.flatMap_cons, List.flatMap_nil, List.append_nil] <;> rfl) | fail) only [go_sem, ↓reduceIte, Qg, List.contains_cons, List.contains_nil, List.flatMap_cons, List.flatMap_nil, List.append_nil]
      refine Qa hP (Qci (K := 5) (E := 1) bN bN (by omega) (by omega) (by simp) (by simp)) rfl rfl rfl ?_
      rw [decide_eq_true (p := [(c3, ([1] : List Int)), (cm2, [])] = [(c3, [1]), (cm2, [])]) rfl]
      simp +decide (disch := first | omega | rfl | (simp +decide only [go_sem, ↓reduceIte, Qg, List.contains_cons, List.contains_nil, List.flatMap_cons, List.flatMap_nil, List.append_nil] <;> rfl) | fail) only [go_sem, ↓reduceIte, Qg, List.contains_cons, List.contains_nil, List.flatMap_cons, List.flatMap_nil, List.append_nil]
      refine Qa hP hm6 rfl rfl rfl ?_
      simp +decide (disch := first | omega | rfl | (simp +decide only [go_sem, ↓reduceIte, Qg, List.contains_cons, List.contains_nil, List.flatMap_cons, List.flatMap_nil, List.append_nil] <;> rfl) | fail) only [go_sem, ↓reduceIte, Qg, List.contains_cons, List.contains_nil, List.flatMap_cons, List.flatMap_nil, List.append_nil]
      refine Qa hP (Qlu (a := cm6) (b := cm6) (k := 5) r6 r6 (by omega)) rfl rfl rfl ?_
      rw [decide_eq_true (p := cm6 = cm6) rfl]
      simp +decide (disch := first | omega | rfl | (simp +decide only [go_sem, ↓reduceIte, Qg, List.contains_cons, List.contains_nil, List.flatMap_cons, List.flatMap_nil, List.append_nil] <;> rfl) | fail) only [go_sem, ↓reduceIte, Qg, List.contains_cons, List.contains_nil, List.flatMap_cons, List.flatMap_nil, List.append_nil]
      refine Qa hP hw0 rfl rfl rfl ?_
      simp +decide (disch := first | omega | rfl | (simp +decide only [go_sem, ↓reduceIte, Qg, List.contains_cons, List.contains_nil, List.flatMap_cons, List.flatMap_nil, List.append_nil] <;> rfl) | fail) only [go_sem, ↓reduceIte, Qg, List.contains_cons, List.contains_nil, List.flatMap_cons, List.flatMap_nil, List.append_nil]
      refine Qa hP hw1 rfl rfl rfl ?_
      simp +decide (disch := first | omega | rfl | (simp +decide only [go_sem, ↓reduceIte, Qg, List.contains_cons, List.contains_nil, List.flatMap_cons, List.flatMap_nil, List.append_nil] <;> rfl) | fail) only [go_sem, ↓reduceIte, Qg, List.contains_cons, List.contains_nil, List.flatMap_cons, List.flatMap_nil, List.append_nil]
      refine Qa hP (Qdl (K := 4) (E := 1) b0 b1 (by omega) (by omega) (by omega) (by omega)) rfl rfl rfl ?_
      rw [hXX]
      simp +decide (disch := first | omega | rfl | (simp +decide only [go_sem, ↓reduceIte, Qg, List.contains_cons, List.contains_nil, List.flatMap_cons, List.flatMap_nil, List.append_nil] <;> rfl) | fail) only [go_sem, ↓reduceIte, Qg, List.contains_cons, List.contains_nil, List.flatMap_cons, List.flatMap_nil, List.append_nil]
      refine Qa hP (Qci (K := 20) (E := 1) bX bX (by omega) (by omega) (by omega) (by omega)) rfl rfl rfl ?_
      rw [decide_eq_true (p := X = X) rfl]
      simp +decide (disch := first | omega | rfl | (simp +decide only [go_sem, ↓reduceIte, Qg, List.contains_cons, List.contains_nil, List.flatMap_cons, List.flatMap_nil, List.append_nil] <;> rfl) | fail) only [go_sem, ↓reduceIte, Qg, List.contains_cons, List.contains_nil, List.flatMap_cons, List.flatMap_nil, List.append_nil]
      exact Qc rfl rfl
    · simp +decide (disch := first | omega | rfl | (simp +decide only [go_sem, ↓reduceIte] <;> rfl) | fail) only [go_sem, ↓reduceIte]
      refine Qa hP hm2 rfl rfl rfl ?_
      simp +decide (disch := first | omega | rfl | (simp +decide only [go_sem, ↓reduceIte] <;> rfl) | fail) only [go_sem, ↓reduceIte]
      rw [Qyl (p := PV.rat c3) (m := 1) (β := 31) (e := 1) (ty := 3) (fz := false) (xs := Qgr [1]) rfl (by simp +decide (disch := first | omega | rfl | (simp +decide only [go_sem, ↓reduceIte] <;> rfl) | fail) only [go_sem, ↓reduceIte] <;> rfl) rfl]
      simp +decide (disch := first | omega | rfl | (simp +decide only [go_sem, ↓reduceIte] <;> rfl) | fail) only [go_sem, ↓reduceIte]
      refine Qbi hP hnorm (by simp +decide (disch := first | omega | rfl | (simp +decide only [go_sem, ↓reduceIte, Qg, List.contains_cons, List.contains_nil, List.flatMap_cons, List.flatMap_nil, List.append_nil] <;> rfl) | fail) only [go_sem, ↓reduceIte, Qg, List.contains_cons, List.contains_nil, List.flatMap_cons, List.flatMap_nil, List.append_nil] <;> rfl) rfl ?_
      simp +decide (disch := first | omega | rfl | (simp +decide only [go_sem, ↓reduceIte, Qg, List.contains_cons, List.contains_nil, List.flatMap_cons, List.flatMap_nil, List.append_nil] <;> rfl) | fail) only [go_sem, ↓reduceIte, Qg, List.contains_cons, List.contains_nil, List.flatMap_cons, List.flatMap_nil, List.append_nil]
      refine Qa hP (Qci (K := 5) (E := 1) bN bN (by omega) (by omega) (by simp) (by simp)) rfl rfl rfl ?_
      rw [decide_eq_true (p := [(c3, ([1] : List Int)), (cm2, [])] = [(c3, [1]), (cm2, [])]) rfl]
      simp +decide (disch := first | omega | rfl | (simp +decide only [go_sem, ↓reduceIte, Qg, List.contains_cons, List.contains_nil, List.flatMap_cons, List.flatMap_nil, List.append_nil] <;> rfl) | fail) only [go_sem, ↓reduceIte, Qg, List.contains_cons, List.contains_nil, List.flatMap_cons, List.flatMap_nil, List.append_nil]
      refine Qa hP hm6 rfl rfl rfl ?_
      simp +decide (disch := first | omega | rfl | (simp +decide only [go_sem, ↓reduceIte, Qg, List.contains_cons, List.contains_nil, List.flatMap_cons, List.flatMap_nil, List.append_nil] <;> rfl) | fail) only [go_sem, ↓reduceIte, Qg, List.contains_cons, List.contains_nil, List.flatMap_cons, List.flatMap_nil, List.append_nil]
      refine Qa hP (Qlu (a := cm6) (b := cm6) (k := 5) r6 r6 (by omega)) rfl rfl rfl ?_
      rw [decide_eq_true (p := cm6 = cm6) rfl]
      simp +decide (disch := first | omega | rfl | (simp +decide only [go_sem, ↓reduceIte, Qg, List.contains_cons, List.contains_nil, List.flatMap_cons, List.flatMap_nil, List.append_nil] <;> rfl) | fail) only [go_sem, ↓reduceIte, Qg, List.contains_cons, List.contains_nil, List.flatMap_cons, List.flatMap_nil, List.append_nil]
      refine Qa hP hw0 rfl rfl rfl ?_
      simp +decide (disch := first | omega | rfl | (simp +decide only [go_sem, ↓reduceIte, Qg, List.contains_cons, List.contains_nil, List.flatMap_cons, List.flatMap_nil, List.append_nil] <;> rfl) | fail) only [go_sem, ↓reduceIte, Qg, List.contains_cons, List.contains_nil, List.flatMap_cons, List.flatMap_nil, List.append_nil]
      refine Qa hP hw1 rfl rfl rfl ?_
      simp +decide (disch := first | omega | rfl | (simp +decide only [go_sem, ↓reduceIte, Qg, List.contains_cons, List.contains_nil, List.flatMap_cons, List.flatMap_nil, List.append_nil] <;> rfl) | fail) only [go_sem, ↓reduceIte, Qg, List.contains_cons, List.contains_nil, List.flatMap_cons, List.flatMap_nil, List.append_nil]
      refine Qa hP (Qdl (K := 4) (E := 1) b0 b1 (by omega) (by omega) (by omega) (by omega)) rfl rfl rfl ?_
      rw [hXX]
      simp +decide (disch := first | omega | rfl | (simp +decide only [go_sem, ↓reduceIte, Qg, List.contains_cons, List.contains_nil, List.flatMap_cons, List.flatMap_nil, List.append_nil] <;> rfl) | fail) only [go_sem, ↓reduceIte, Qg, List.contains_cons, List.contains_nil, List.flatMap_cons, List.flatMap_nil, List.append_nil]
      refine Qa hP (Qci (K := 20) (E := 1) bX bX (by omega) (by omega) (by omega) (by omega)) rfl rfl rfl ?_
      rw [decide_eq_true (p := X = X) rfl]
      simp +decide (disch := first | omega | rfl | (simp +decide only [go_sem, ↓reduceIte, Qg, List.contains_cons, List.contains_nil, List.flatMap_cons, List.flatMap_nil, List.append_nil] <;> rfl) | fail) only [go_sem, ↓reduceIte, Qg, List.contains_cons, List.contains_nil, List.flatMap_cons, List.flatMap_nil, List.append_nil]
      exact Qc rfl rfl
  · simp +decide (disch := first | omega | rfl | (simp +decide only [go_sem, ↓reduceIte] <;> rfl) | fail) only [go_sem, ↓reduceIte]
    refine Qa hP h3 rfl rfl rfl ?_
    simp +decide (disch := first | omega | rfl | (simp +decide only [go_sem, ↓reduceIte] <;> rfl) | fail) only [go_sem, ↓reduceIte]
    rw [Qyl (p := PV.rat c3) (m := 1) (β := 31) (e := 1) (ty := 3) (fz := false) (xs := Qgr [1]) rfl (by simp +decide (disch := first | omega | rfl | (simp +decide only [go_sem, ↓reduceIte] <;> rfl) | fail) only [go_sem, ↓reduceIte] <;> rfl) rfl]
    simp +decide (disch := first | omega | rfl | (simp +decide only [go_sem, ↓reduceIte] <;> rfl) | fail) only [go_sem, ↓reduceIte]
    refine Qa hP hm2 rfl rfl rfl ?_
    simp +decide (disch := first | omega | rfl | (simp +decide only [go_sem, ↓reduceIte] <;> rfl) | fail) only [go_sem, ↓reduceIte]
    refine Qbi hP hnorm (by simp +decide (disch := first | omega | rfl | (simp +decide only [go_sem, ↓reduceIte, Qg, List.contains_cons, List.contains_nil, List.flatMap_cons, List.flatMap_nil, List.append_nil] <;> rfl) | fail) only [go_sem, ↓reduceIte, Qg, List.contains_cons, List.contains_nil, List.flatMap_cons, List.flatMap_nil, List.append_nil] <;> rfl) rfl ?_
    simp +decide (disch := first | omega | rfl | (simp +decide only [go_sem, ↓reduceIte, Qg, List.contains_cons, List.contains_nil, List.flatMap_cons, List.flatMap_nil, List.append_nil] <;> rfl) | fail) only [go_sem, ↓reduceIte, Qg, List.contains_cons, List.contains_nil, List.flatMap_cons, List.flatMap_nil, List.append_nil]
    refine Qa hP (Qci (K := 5) (E := 1) bN bN (by omega) (by omega) (by simp) (by simp)) rfl rfl rfl ?_
    rw [decide_eq_true (p := [(c3, ([1] : List Int)), (cm2, [])] = [(c3, [1]), (cm2, [])]) rfl]
    simp +decide (disch := first | omega | rfl | (simp +decide only [go_sem, ↓reduceIte, Qg, List.contains_cons, List.contains_nil, List.flatMap_cons, List.flatMap_nil, List.append_nil] <;> rfl) | fail) only [go_sem, ↓reduceIte, Qg, List.contains_cons, List.contains_nil, List.flatMap_cons, List.flatMap_nil, List.append_nil]
    refine Qa hP hm6 rfl rfl rfl ?_
    simp +decide (disch := first | omega | rfl | (simp +decide only [go_sem, ↓reduceIte, Qg, List.contains_cons, List.contains_nil, List.flatMap_cons, List.flatMap_nil, List.append_nil] <;> rfl) | fail) only [go_sem, ↓reduceIte, Qg, List.contains_cons, List.contains_nil, List.flatMap_cons, List.flatMap_nil, List.append_nil]
    refine Qa hP (Qlu (a := cm6) (b := cm6) (k := 5) r6 r6 (by omega)) rfl rfl rfl ?_
    rw [decide_eq_true (p := cm6 = cm6) rfl]
    simp +decide (disch := first | omega | rfl | (simp +decide only [go_sem, ↓reduceIte, Qg, List.contains_cons, List.contains_nil, List.flatMap_cons, List.flatMap_nil, List.append_nil] <;> rfl) | fail) only [go_sem, ↓reduceIte, Qg, List.contains_cons, List.contains_nil, List.flatMap_cons, List.flatMap_nil, List.append_nil]
    refine Qa hP hw0 rfl rfl rfl ?_
    simp +decide (disch := first | omega | rfl | (simp +decide only [go_sem, ↓reduceIte, Qg, List.contains_cons, List.contains_nil, List.flatMap_cons, List.flatMap_nil, List.append_nil] <;> rfl) | fail) only [go_sem, ↓reduceIte, Qg, List.contains_cons, List.contains_nil, List.flatMap_cons, List.flatMap_nil, List.append_nil]
    refine Qa hP hw1 rfl rfl rfl ?_
    simp +decide (disch := first | omega | rfl | (simp +decide only [go_sem, ↓reduceIte, Qg, List.contains_cons, List.contains_nil, List.flatMap_cons, List.flatMap_nil, List.append_nil] <;> rfl) | fail) only [go_sem, ↓reduceIte, Qg, List.contains_cons, List.contains_nil, List.flatMap_cons, List.flatMap_nil, List.append_nil]
    refine Qa hP (Qdl (K := 4) (E := 1) b0 b1 (by omega) (by omega) (by omega) (by omega)) rfl rfl rfl ?_
    rw [hXX]
    simp +decide (disch := first | omega | rfl | (simp +decide only [go_sem, ↓reduceIte, Qg, List.contains_cons, List.contains_nil, List.flatMap_cons, List.flatMap_nil, List.append_nil] <;> rfl) | fail) only [go_sem, ↓reduceIte, Qg, List.contains_cons, List.contains_nil, List.flatMap_cons, List.flatMap_nil, List.append_nil]
    refine Qa hP (Qci (K := 20) (E := 1) bX bX (by omega) (by omega) (by omega) (by omega)) rfl rfl rfl ?_
    rw [decide_eq_true (p := X = X) rfl]
    simp +decide (disch := first | omega | rfl | (simp +decide only [go_sem, ↓reduceIte, Qg, List.contains_cons, List.contains_nil, List.flatMap_cons, List.flatMap_nil, List.append_nil] <;> rfl) | fail) only [go_sem, ↓reduceIte, Qg, List.contains_cons, List.contains_nil, List.flatMap_cons, List.flatMap_nil, List.append_nil]
    exact Qc rfl rfl
end Go.Proofs.YtjkbalanglgoiaaGreat
namespace Go.Proofs.YtjkbalanglgoiaaGreat
open Go Go.FW
set_option linter.unusedSimpArgs false
set_option linter.unusedVariables false
set_option maxRecDepth 100000
end Go.Proofs.YtjkbalanglgoiaaGreat
namespace Go.FW
open Go
def Qbs (c : Rat) : Rat := if c < 0 then -c else c
theorem Qeh (c : Rat) : 0 ≤ Qbs c := by unfold Qbs; grind
theorem Q5m (a b : Rat) : Qbs (a + b) ≤ Qbs a + Qbs b := by unfold Qbs; grind
theorem Ql2 (a b : Rat) : Qbs (a * b) = Qbs a * Qbs b := by
  have pos : ∀ x : Rat, 0 ≤ x → Qbs x = x := fun x h => by unfold Qbs; grind
  have neg : ∀ x : Rat, x ≤ 0 → Qbs x = -x := fun x h => by unfold Qbs; grind
  rcases Decidable.em (0 ≤ a) with ha | ha <;> rcases Decidable.em (0 ≤ b) with hb | hb
  · rw [pos _ (Rat.mul_nonneg ha hb), pos _ ha, pos _ hb]
  · have h := Rat.mul_nonneg ha (show 0 ≤ -b by grind)
    rw [neg (a * b) (by grind), pos _ ha, neg b (by grind)]; grind
  · have h := Rat.mul_nonneg (show 0 ≤ -a by grind) hb
    rw [neg (a * b) (by grind), neg a (by grind), pos _ hb]; grind
  · have h := Rat.mul_nonneg (show 0 ≤ -a by grind) (show 0 ≤ -b by grind)
    rw [pos (a * b) (by grind), neg a (by grind), neg b (by grind)]; grind
theorem Ql3 (z : Int) : Qbs (z : Rat) = ((z.natAbs : Nat) : Rat) := by
  rw [← Rat.intCast_natCast]
  unfold Qbs
  split
  · rename_i h
    have h' : z < 0 := by have := (Rat.intCast_lt_intCast (a := z) (b := 0)).1 (by simpa using h); exact this
    rw [← Rat.intCast_neg]; congr 1; omega
  · rename_i h
    have h' : ¬ z < 0 := fun hz => h (by have := (Rat.intCast_lt_intCast (a := z) (b := 0)).2 hz; simpa using this)
    congr 1; omega
def psi (m : List Int) : Nat := (eN m 3).toNat * 729 + (eN m 2).toNat * 81 + (eN m 1).toNat * 9 + (eN m 0).toNat
theorem Qnz {a b : List Int} (ha : ∀ i, 0 ≤ eN a i) (hb : ∀ i, 0 ≤ eN b i) : psi (Qav a b) = psi a + psi b := by
  have a0 := ha 0; have a1 := ha 1; have a2 := ha 2; have a3 := ha 3
  have b0 := hb 0; have b1 := hb 1; have b2 := hb 2; have b3 := hb 3
  simp only [psi, Qee]
  omega
theorem Qxa : psi [] = 0 := rfl
theorem Qsl {a b : List Int} (h : Q9 a b = 0) : psi a = psi b := by
  have key : ∀ i, eN a i = eN b i := fun i => by
    by_cases hi : i < max a.length b.length
    · exact (Qhi a b _).1 h i hi
    · rw [Qcf (by omega), Qcf (by omega)]
  simp only [psi, key]
theorem cmp4 {a b : List Int} (ha : a.length ≤ 4) (hb : b.length ≤ 4) : Q9 a b = Qbp a b 4 := (Qgw (by omega)).symm
theorem Qxb {a b : List Int} (ha : a.length ≤ 4) (hb : b.length ≤ 4) (h : Q9 a b < 0) :
    eN a 3 < eN b 3 ∨ (eN a 3 = eN b 3 ∧ (eN a 2 < eN b 2 ∨ (eN a 2 = eN b 2 ∧ (eN a 1 < eN b 1 ∨ (eN a 1 = eN b 1 ∧ eN a 0 < eN b 0))))) := by
  rw [cmp4 ha hb] at h
  simp only [Qbp] at h
  have z3 := Qia (x := eN a 3) (y := eN b 3)
  have z2 := Qia (x := eN a 2) (y := eN b 2)
  have z1 := Qia (x := eN a 1) (y := eN b 1)
  have z0 := Qia (x := eN a 0) (y := eN b 0)
  by_cases e3 : eN a 3 = eN b 3
  · rw [if_pos e3] at h
    refine .inr ⟨e3, ?_⟩
    by_cases e2 : eN a 2 = eN b 2
    · rw [if_pos e2] at h
      refine .inr ⟨e2, ?_⟩
      by_cases e1 : eN a 1 = eN b 1
      · rw [if_pos e1] at h
        refine .inr ⟨e1, ?_⟩
        by_cases e0 : eN a 0 = eN b 0
        · rw [if_pos e0] at h; omega
        · rw [if_neg e0] at h; exact z0.1 h
      · rw [if_neg e1] at h; exact .inl (z1.1 h)
    · rw [if_neg e2] at h; exact .inl (z2.1 h)
  · rw [if_neg e3] at h; exact .inl (z3.1 h)
theorem Qabw {a b : List Int} (ha : MB 8 a) (hb : MB 8 b) (la : a.length ≤ 4) (lb : b.length ≤ 4) (h : Q9 a b < 0) : psi a < psi b := by
  have a0 := ha.eN 0; have a1 := ha.eN 1; have a2 := ha.eN 2; have a3 := ha.eN 3
  have b0 := hb.eN 0; have b1 := hb.eN 1; have b2 := hb.eN 2; have b3 := hb.eN 3
  have := Qxb la lb h
  simp only [psi]
  omega
def nW (W : Rat) : List Tm → Rat
  | [] => 0
  | t :: p => Qbs t.1 * W ^ psi t.2 + nW W p
theorem Qg1 (W : Rat) (m : Nat) : ∀ n : Nat, W ^ (m + n) = W ^ m * W ^ n
  | 0 => by rw [Nat.add_zero, Rat.pow_zero, Rat.mul_one]
  | n + 1 => by rw [← Nat.add_assoc, Rat.pow_succ, Qg1 W m n, Rat.pow_succ, Rat.mul_assoc]
theorem Qd7 {W : Rat} (h : 0 ≤ W) : ∀ n : Nat, 0 ≤ W ^ n
  | 0 => by rw [Rat.pow_zero]; decide
  | n + 1 => by rw [Rat.pow_succ]; exact Rat.mul_nonneg (Qd7 h n) h
theorem Ql4 {W : Rat} (h : 1 ≤ W) : ∀ n : Nat, 1 ≤ W ^ n
  | 0 => by rw [Rat.pow_zero]; decide
  | n + 1 => by
    rw [Rat.pow_succ]
    have h1 := Ql4 h n
    have := Rat.mul_le_mul_of_nonneg_right h1 (show (0 : Rat) ≤ W by grind)
    grind
theorem Q5n {W : Rat} (h : 1 ≤ W) {m n : Nat} (hm : m ≤ n) : W ^ m ≤ W ^ n := by
  obtain ⟨k, rfl⟩ : ∃ k, n = m + k := ⟨n - m, by omega⟩
  rw [Qg1]
  have h1 := Ql4 h k
  have h2 := Qd7 (show (0 : Rat) ≤ W by grind) m
  have := Rat.mul_le_mul_of_nonneg_left h1 h2
  grind
theorem Qei {W : Rat} (h : 0 ≤ W) (c : Rat) (m : List Int) : 0 ≤ Qbs c * W ^ psi m := Rat.mul_nonneg (Qeh c) (Qd7 h _)
theorem Qsm {W : Rat} (h : 0 ≤ W) : ∀ p, 0 ≤ nW W p
  | [] => by simp only [nW]; decide
  | t :: p => by
    have h1 := Qei h t.1 t.2
    have h2 := Qsm h p
    simp only [nW]; grind
theorem Q8q {W : Rat} (h : 0 ≤ W) (p q : List Tm) : nW W (Qw p q) ≤ nW W p + nW W q := by
  induction p, q using Qw.induct with
  | case1 q => rw [Qd2]; simp only [nW]; grind
  | case2 p hp => rw [Qbx]; simp only [nW]; grind
  | case3 c m p d l q h1 ih => rw [Qw, if_pos h1]; simp only [nW] at ih ⊢; grind
  | case4 c m p d l q h1 h2 ih => rw [Qw, if_neg h1, if_pos h2]; simp only [nW] at ih ⊢; grind
  | case5 c m p d l q h1 h2 h3 ih =>
    rw [Qw, if_neg h1, if_neg h2, if_pos h3]
    have g1 := Qei h c m
    have g2 := Qei h d l
    simp only [nW] at ih ⊢; grind
  | case6 c m p d l q h1 h2 h3 ih =>
    rw [Qw, if_neg h1, if_neg h2, if_neg h3]
    have e : psi m = psi l := Qsl (by omega)
    have g := Rat.mul_le_mul_of_nonneg_right (Q5m c d) (Qd7 h (psi m))
    simp only [nW] at ih ⊢
    rw [← e]
    grind
def Pos (p : List Tm) : Prop := ∀ t ∈ p, ∀ i, 0 ≤ eN t.2 i
theorem Qnf {W : Rat} (h : 0 ≤ W) {t : Tm} (ht : ∀ i, 0 ≤ eN t.2 i) : ∀ {p : List Tm}, Pos p → nW W (Qx p t) ≤ Qbs t.1 * W ^ psi t.2 * nW W p
  | [], _ => by simp only [Qx, List.filterMap_nil, nW]; grind
  | x :: p, hp => by
    have ih := Qnf h ht (p := p) (fun s hs => hp s (by simp [hs]))
    have hx := hp x (by simp)
    have e1 : nW W (Qx (x :: p) t) ≤ Qbs (x.1 * t.1) * W ^ psi (Qav x.2 t.2) + nW W (Qx p t) := by
      have g := Qei h (x.1 * t.1) (Qav x.2 t.2)
      unfold Qx
      rw [List.filterMap_cons]
      by_cases hz : x.1 * t.1 = 0
      · rw [if_pos hz]; grind
      · rw [if_neg hz]; simp only [nW]; grind
    rw [Qnz hx ht, Ql2, Qg1] at e1
    simp only [nW]
    grind
def IsI (c : Rat) : Prop := ∃ z : Int, c = (z : Rat)
theorem IsI.add {a b : Rat} : IsI a → IsI b → IsI (a + b) := fun ⟨x, hx⟩ ⟨y, hy⟩ => ⟨x + y, by rw [hx, hy, Rat.intCast_add]⟩
theorem IsI.mul {a b : Rat} : IsI a → IsI b → IsI (a * b) := fun ⟨x, hx⟩ ⟨y, hy⟩ => ⟨x * y, by rw [hx, hy, Rat.intCast_mul]⟩
theorem IsI.neg {a : Rat} : IsI a → IsI (-a) := fun ⟨x, hx⟩ => ⟨-x, by rw [hx, Rat.intCast_neg]⟩
theorem IsI.nat (n : Nat) : IsI (n : Rat) := ⟨n, (Rat.intCast_natCast n).symm⟩
theorem IsI.pow {a : Rat} (h : IsI a) : ∀ n : Nat, IsI (a ^ n)
  | 0 => ⟨1, by rw [Rat.pow_zero]; rfl⟩
  | n + 1 => by rw [Rat.pow_succ]; exact (IsI.pow h n).mul h
def IW (D F : Rat) (N : Nat) (p : List Tm) : Prop := ∀ t ∈ p, psi t.2 ≤ N ∧ IsI (t.1 * (D * F ^ (N - psi t.2)))
theorem IW.cons {D F : Rat} {N : Nat} {t : Tm} {p : List Tm} : IW D F N (t :: p) ↔ (psi t.2 ≤ N ∧ IsI (t.1 * (D * F ^ (N - psi t.2)))) ∧ IW D F N p := by simp [IW]
theorem Q8r {D F : Rat} {N : Nat} (p q : List Tm) : IW D F N p → IW D F N q → IW D F N (Qw p q) := by
  induction p, q using Qw.induct with
  | case1 q => intro _ h; rwa [Qd2]
  | case2 p hp => intro h _; rwa [Qbx]
  | case3 c m p d l q h1 ih => intro hp hq; rw [Qw, if_pos h1, IW.cons]; rw [IW.cons] at hp; exact ⟨hp.1, ih hp.2 hq⟩
  | case4 c m p d l q h1 h2 ih => intro hp hq; rw [Qw, if_neg h1, if_pos h2, IW.cons]; have hq' := IW.cons.1 hq; exact ⟨hq'.1, ih hp hq'.2⟩
  | case5 c m p d l q h1 h2 h3 ih => intro hp hq; rw [Qw, if_neg h1, if_neg h2, if_pos h3]; exact ih (IW.cons.1 hp).2 (IW.cons.1 hq).2
  | case6 c m p d l q h1 h2 h3 ih =>
    intro hp hq
    rw [Qw, if_neg h1, if_neg h2, if_neg h3, IW.cons]
    have e : psi m = psi l := Qsl (by omega)
    obtain ⟨⟨a1, a2⟩, a3⟩ := IW.cons.1 hp
    obtain ⟨⟨b1, b2⟩, b3⟩ := IW.cons.1 hq
    refine ⟨⟨a1, ?_⟩, ih a3 b3⟩
    simp only at a2 b2 ⊢
    rw [← e] at b2
    rw [Rat.add_mul]
    exact a2.add b2
theorem Qsn {D F : Rat} {N : Nat} {t : Tm} {p : List Tm} (h : ∀ s ∈ p, psi (Qav s.2 t.2) ≤ N ∧ IsI (s.1 * t.1 * (D * F ^ (N - psi (Qav s.2 t.2))))) : IW D F N (Qx p t) := by
  intro x hx
  simp only [Qx, List.mem_filterMap] at hx
  obtain ⟨s, hs, e⟩ := hx
  split at e
  · cases e
  · obtain rfl : (s.1 * t.1, Qav s.2 t.2) = x := by simpa using e
    exact h s hs
theorem Qrs (t : Tm) (q : List Tm) : Qbz [t] q = Qx q t := by
  unfold Qbz
  split
  · rename_i h
    have : q = [] := by simpa using h
    subst this
    simp [Qfe, Qby, Qx]
  · simp [Qfe, Qby]
theorem Qyr (p : List Tm) : Qjo p = Qx p (-1, []) := by rw [Qjo, Qbq, if_neg (by decide)]
theorem Q5o {x y : Tm} {p q : List Tm} {K E : Nat} (bp : PB K E (x :: p)) (bq : PB K E (y :: q)) (np : Nrm (x :: p)) (nq : Nrm (y :: q)) (hd : Qdm y.2 x.2 = true) :
    exN (y :: q) (x :: p) = Qfr p (Qbz [(x.1 / y.1, Qbr x.2 y.2)] q) := by
  have hy := nq.z y (by simp)
  have hm : Qav (Qbr x.2 y.2) y.2 = x.2 := Qiv (bp x (by simp)).m (bq y (by simp)).m (bp x (by simp)).l hd
  have nT : Nrm (Qbz [(x.1 / y.1, Qbr x.2 y.2)] q) := Qfs (Qjy _) nq.tail.s
  refine Qkh (Qny np nq) (Qux np.tail nT) fun φ => ?_
  rw [Qw8 np nq, Quw φ np.tail.c nT, Qmf]
  show pev φ (x :: p) - x.1 / y.1 * pev (fun m => φ (Qav (Qbr x.2 y.2) m)) (y :: q) = pev φ p - x.1 / y.1 * pev (fun m => φ (Qav (Qbr x.2 y.2) m)) q
  rw [Qah, Qah, hm]
  generalize φ x.2 = a
  generalize pev φ p = b
  generalize pev (fun m => φ (Qav (Qbr x.2 y.2) m)) q = c
  grind
structure QOk (F W : Rat) (y : Tm) (q : List Tm) : Prop where
  w : 1 ≤ W
  f : IsI F
  lt : ∀ s ∈ q, psi s.2 < psi y.2
  i : ∀ s ∈ q, IsI (s.1 / y.1 * F)
  n : nW W q ≤ Qbs y.1 * W ^ psi y.2
  pos : Pos (y :: q)
  ml : ML 4 (y :: q)
theorem Q5p {k l : Nat} {a b : List Int} (ha : MB k a) (hb : MB l b) (h : Qdm b a = true) : ∀ i, 0 ≤ eN (Qbr a b) i := fun i => by
  rw [Qnx]; have := (Qpd ha).1 h i; omega
theorem Qabx {D F W : Rat} {N : Nat} {x y : Tm} {p q : List Tm} {K E : Nat} (hQ : QOk F W y q) (bp : PB K E (x :: p)) (bq : PB K E (y :: q)) (np : Nrm (x :: p)) (nq : Nrm (y :: q)) (hd : Qdm y.2 x.2 = true)
    (hI : IW D F N (x :: p)) (hP : Pos (x :: p)) (hM : ML 4 (x :: p)) :
    IW D F N (exN (y :: q) (x :: p)) ∧ nW W (exN (y :: q) (x :: p)) ≤ nW W (x :: p) ∧ Pos (exN (y :: q) (x :: p)) ∧ ML 4 (exN (y :: q) (x :: p)) := by
  have hW0 : 0 ≤ W := by have := hQ.w; grind
  have hy0 := nq.z y (by simp)
  have hxm := (bp x (by simp)).m
  have hym := (bq y (by simp)).m
  have hm : Qav (Qbr x.2 y.2) y.2 = x.2 := Qiv hxm hym (bp x (by simp)).l hd
  have htp := Q5p hxm hym hd
  have hpsi : psi x.2 = psi (Qbr x.2 y.2) + psi y.2 := by
    conv => lhs; rw [← hm]
    exact Qnz htp (hQ.pos y (by simp))
  have hql : (Qbr x.2 y.2).length ≤ 4 := by
    have h1 := Qew (Qdq (· - ·) x.2 y.2)
    rw [Qbc] at h1
    have := hM x (by simp)
    have := hQ.ml y (by simp)
    unfold Qbr; omega
  have hqP : Pos q := fun s hs => hQ.pos s (by simp [hs])
  obtain ⟨⟨i1, i2⟩, i3⟩ := IW.cons.1 hI
  have hn1 : ∀ i, 0 ≤ eN ((-1 : Rat), ([] : List Int)).2 i := fun i => by rw [Qm0]; omega
  have posT : Pos (Qx q (x.1 / y.1, Qbr x.2 y.2)) := fun t ht i => by
    obtain ⟨s, hs, e⟩ := Qe8 ht
    rw [e, Qee]
    have := hqP s hs i
    have := htp i
    simp only; omega
  rw [Q5o bp bq np nq hd, Qfr, Qrs, Qyr]
  refine ⟨?_, ?_, ?_, ?_⟩
  · refine Q8r _ _ i3 (Qsn fun u hu => ?_)
    obtain ⟨a1, a2⟩ := (Qsn (D := D) (F := F) (N := N) (t := (x.1 / y.1, Qbr x.2 y.2)) (p := q) fun s hs => by
      have hlt := hQ.lt s hs
      have e := Qnz (hqP s hs) htp
      refine ⟨by simp only; omega, ?_⟩
      simp only
      rw [e, show N - (psi s.2 + psi (Qbr x.2 y.2)) = (N - psi x.2) + (1 + (psi y.2 - psi s.2 - 1)) by omega, Qg1, Qg1, show F ^ 1 = F by rw [Rat.pow_succ, Rat.pow_zero, Rat.one_mul]]
      have := (i2.mul (hQ.i s hs)).mul (hQ.f.pow (psi y.2 - psi s.2 - 1))
      have e2 : s.1 * (x.1 / y.1) * (D * (F ^ (N - psi x.2) * (F * F ^ (psi y.2 - psi s.2 - 1)))) = x.1 * (D * F ^ (N - psi x.2)) * (s.1 / y.1 * F) * F ^ (psi y.2 - psi s.2 - 1) := by
        generalize F ^ (N - psi x.2) = A
        generalize F ^ (psi y.2 - psi s.2 - 1) = B
        grind
      rw [e2]; exact this) u hu
    have e := Qnz (posT u hu) hn1
    rw [Qxa, Nat.add_zero] at e
    rw [e]
    refine ⟨a1, ?_⟩
    have := a2.neg
    have e2 : u.1 * -1 * (D * F ^ (N - psi u.2)) = -(u.1 * (D * F ^ (N - psi u.2))) := by grind
    rw [e2]; exact this
  · have h1 := Q8q hW0 p (Qx (Qx q (x.1 / y.1, Qbr x.2 y.2)) (-1, []))
    have h2 := Qnf hW0 (t := (-1, [])) hn1 posT
    have h3 := Qnf hW0 (t := (x.1 / y.1, Qbr x.2 y.2)) htp hqP
    have h4 : Qbs (-1) * W ^ psi ([] : List Int) = 1 := by rw [Qxa, Rat.pow_zero]; decide +kernel
    simp only at h2 h3
    rw [h4, Rat.one_mul] at h2
    have h5 := Rat.mul_le_mul_of_nonneg_left hQ.n (Rat.mul_nonneg (Qeh (x.1 / y.1)) (Qd7 hW0 (psi (Qbr x.2 y.2))))
    have h6 : Qbs (x.1 / y.1) * W ^ psi (Qbr x.2 y.2) * (Qbs y.1 * W ^ psi y.2) = Qbs x.1 * W ^ psi x.2 := by
      rw [hpsi, Qg1]
      have : Qbs x.1 = Qbs (x.1 / y.1) * Qbs y.1 := by rw [← Ql2]; congr 1; grind
      rw [this]
      grind
    rw [h6] at h5
    simp only [nW]
    grind
  · intro t ht i
    rcases Qex ht with h | ⟨s, hs, e⟩
    · obtain ⟨s, hs, e⟩ := h
      rw [← e]; exact hP s (by simp [hs]) i
    · obtain ⟨u, hu, e2⟩ := Qe8 hs
      rw [← e, e2, Qee, Qm0]
      have := posT u hu i
      omega
  · intro t ht
    rcases Qex ht with h | ⟨s, hs, e⟩
    · obtain ⟨s, hs, e⟩ := h
      rw [← e]; exact hM s (by simp [hs])
    · obtain ⟨u, hu, e2⟩ := Qe8 hs
      obtain ⟨r, hr, e3⟩ := Qe8 hu
      rw [← e, e2]
      have l1 := Qu1 u.2 ((-1 : Rat), ([] : List Int)).2
      have l2 := Qu1 r.2 (x.1 / y.1, Qbr x.2 y.2).2
      rw [e3] at l1 ⊢
      have := hQ.ml r (by simp [hr])
      simp only [List.length_nil] at l1 l2 ⊢
      omega
end Go.FW
namespace Go.FW
open Go
def c4 (m : List Int) : Nat := (((eN m 3).toNat * 81 + (eN m 2).toNat) * 729 + (eN m 1).toNat) * 6561 + (eN m 0).toNat
theorem Q5y {a b : List Int} (ha : ∀ i, 0 ≤ eN a i) (hb : ∀ i, 0 ≤ eN b i) (la : a.length ≤ 4) (lb : b.length ≤ 4) (pa : psi a ≤ 6560) (pb : psi b ≤ 6560) (h : Q9 a b < 0) : c4 a < c4 b := by
  have a0 := ha 0; have a1 := ha 1; have a2 := ha 2; have a3 := ha 3
  have b0 := hb 0; have b1 := hb 1; have b2 := hb 2; have b3 := hb 3
  have := Qxb la lb h
  simp only [psi] at pa pb
  simp only [c4]
  omega
theorem Q5z {a : List Int} (pa : psi a ≤ 6560) : c4 a < 2 ^ 32 := by
  simp only [psi] at pa
  simp only [c4]
  omega
structure ExI (D F W N0 : Rat) (p : List Tm) : Prop where
  i : IW D F 6560 p
  n : nW W p ≤ N0
  pos : Pos p
  ml : ML 4 p
  nrm : Nrm p
theorem Qys {p : List Tm} : (∀ t ∈ p, psi t.2 ≤ 6560) → Pos p → ML 4 p → Qa1 p → p ≠ [] → p.length ≤ c4 (hdT p).2 + 1 := by
  induction p with
  | nil => intro _ _ _ _ h; exact absurd rfl h
  | cons t p ih =>
    intro hp hP hM hs _
    cases p with
    | nil => simp
    | cons s p =>
      have h1 := ih (fun x hx => hp x (by simp [hx])) (fun x hx => hP x (by simp [hx])) (fun x hx => hM x (by simp [hx])) hs.2 (by simp)
      have h2 := hs.1 s (by simp)
      have h3 := Qc3 t.2 s.2
      have h4 := Q5y (hP s (by simp)) (hP t (by simp)) (hM s (by simp)) (hM t (by simp)) (hp s (by simp)) (hp t (by simp)) (by omega)
      simp only [hdT, List.headD_cons, List.length_cons] at h1 ⊢
      omega
theorem ExI.len {D F W N0 : Rat} {p : List Tm} (h : ExI D F W N0 p) : p.length ≤ 2 ^ 32 := by
  by_cases h0 : p = []
  · subst h0; simp
  · have h1 := Qys (fun t ht => (h.i t ht).1) h.pos h.ml h.nrm.s h0
    have := Q5z (h.i _ (Qaw h0)).1
    omega
theorem Q1m {W : Rat} (h : 1 ≤ W) : ∀ {p : List Tm} {t : Tm}, t ∈ p → Qbs t.1 ≤ nW W p
  | s :: p, t, ht => by
    have h0 : (0 : Rat) ≤ W := by grind
    have h1 := Qsm h0 p
    have h2 := Qei h0 s.1 s.2
    simp only [nW]
    rcases List.mem_cons.1 ht with rfl | ht
    · have h3 := Rat.mul_le_mul_of_nonneg_left (Ql4 h (psi t.2)) (Qeh t.1)
      grind
    · have := Q1m h ht
      grind
theorem Qvk (x : Nat) : ∀ n : Nat, nl (x ^ n) ≤ n * nl x + 1
  | 0 => by rw [Nat.pow_zero, Qev]; omega
  | n + 1 => by
    rw [Nat.pow_succ, Nat.succ_mul]
    have := Qb1 (x ^ n) x
    have := Qvk x n
    omega
theorem ExI.PB {d f w n0 L : Nat} {p : List Tm} (h : ExI d f w n0 p) (hd : 0 < d) (hf : 0 < f) (hw : 0 < w) (hn0 : 0 < n0) (hL : nl (n0 * (d * f ^ 6560)) < L) : PB L 6560 p := by
  intro t ht
  obtain ⟨h1, z, hz⟩ := h.i t ht
  have hw1 : (1 : Rat) ≤ (w : Rat) := by
    rw [← Rat.intCast_natCast, show (1 : Rat) = ((1 : Int) : Rat) from rfl, Rat.intCast_le_intCast]; omega
  have hN : Qbs t.1 ≤ (n0 : Rat) := by have := Q1m hw1 ht; have := h.n; grind
  have hX : (d : Rat) * (f : Rat) ^ (6560 - psi t.2) = ((d * f ^ (6560 - psi t.2) : Nat) : Rat) := by
    rw [Rat.natCast_mul, Rat.natCast_pow]
  have hkey : ∀ N k : Nat, k ≤ N → d * f ^ k ≤ d * f ^ N := fun N k h => Nat.mul_le_mul_left _ (Nat.pow_le_pow_right hf h)
  have hXl := hkey 6560 (6560 - psi t.2) (Nat.sub_le _ _)
  have hX0 : 0 < d * f ^ (6560 - psi t.2) := Nat.mul_pos hd (Nat.pow_pos hf)
  rw [hX] at hz
  generalize d * f ^ (6560 - psi t.2) = X at *
  generalize d * f ^ 6560 = Y at *
  have hXr : ((X : Int) : Rat) ≠ 0 := by rw [Ne, Rat.intCast_eq_zero_iff]; omega
  have e : t.1 = (z : Rat) / ((X : Int) : Rat) := by rw [← hz, Rat.intCast_natCast]; rw [Rat.intCast_natCast] at hXr; grind
  have hzl : z.natAbs ≤ n0 * Y := by
    have h2 : Qbs (z : Rat) = Qbs t.1 * (X : Rat) := by
      rw [← hz, Ql2]; congr 1
      rw [← Rat.intCast_natCast, Ql3, Int.natAbs_natCast, Rat.intCast_natCast]
    rw [Ql3] at h2
    have h3 : (0 : Rat) ≤ (X : Rat) := by rw [← Rat.intCast_natCast, show (0 : Rat) = ((0 : Int) : Rat) from rfl, Rat.intCast_le_intCast]; omega
    have h4 := Rat.mul_le_mul_of_nonneg_right hN h3
    rw [← h2, ← Rat.natCast_mul, ← Rat.intCast_natCast, ← Rat.intCast_natCast, Rat.intCast_le_intCast] at h4
    have h5 := Nat.mul_le_mul_left n0 hXl
    omega
  have hr := Qvc z (X : Int) (by omega)
  rw [← e, Int.natAbs_natCast] at hr
  have g1 := Qa7 hzl
  have g2 : nl X ≤ nl (n0 * Y) := by
    exact Qa7 (Nat.le_trans hXl (Nat.le_mul_of_pos_left _ hn0))
  have g3 : 1 ≤ nl X := by
    apply Decidable.byContradiction; intro hc
    have := Qf7.1 (show nl X = 0 by omega)
    omega
  refine ⟨by omega, ⟨by have := h.ml t ht; omega, fun x hx => ?_, fun x hx => ?_⟩, h.nrm.c t ht⟩
  all_goals
    obtain ⟨i, hi, rfl⟩ := List.getElem_of_mem hx
    have hp := h.pos t ht i
    rw [Qca hi] at hp
  · exact hp
  · have hl := h.ml t ht
    simp only [psi] at h1
    rw [← Qca hi]
    rw [← Qca hi] at hp
    have : i = 0 ∨ i = 1 ∨ i = 2 ∨ i = 3 := by omega
    rcases this with rfl | rfl | rfl | rfl <;> omega
theorem ExI.step {D F W N0 : Rat} {p q : List Tm} {y : Tm} {K E K' E' : Nat} (h : ExI D F W N0 p) (hQ : QOk F W y q) (bp : FW.PB K E p) (bq : FW.PB K' E' (y :: q)) (nq : Nrm (y :: q)) (hg : Qdr (y :: q) p) : ExI D F W N0 (exN (y :: q) p) := by
  cases p with
  | nil => exact absurd rfl hg.1
  | cons x p =>
    obtain ⟨h1, h2, h3, h4⟩ := Qabx (K := max K K') (E := max E E') hQ (bp.mono (by omega) (by omega)) (bq.mono (by omega) (by omega)) h.nrm nq hg.2 h.i h.pos h.ml
    exact ⟨h1, by have := h.n; grind, h3, h4, Qny h.nrm nq⟩
def Qg2 (p : List Tm) : Nat := (p.map fun t => t.1.den).foldr (· * ·) 1
def Qds (p : List Tm) : Nat := (p.map fun t => t.1.num.natAbs).foldr (· + ·) 0
theorem Qvl (p : List Tm) : 0 < Qg2 p := by
  induction p with
  | nil => simp [Qg2]
  | cons t p ih => exact Nat.mul_pos (Nat.pos_of_ne_zero t.1.den_nz) ih
theorem Qpg : ∀ {p : List Tm} {t : Tm}, t ∈ p → t.1.den ∣ Qg2 p
  | s :: p, t, ht => by
    rcases List.mem_cons.1 ht with rfl | ht
    · exact Nat.dvd_mul_right _ _
    · exact Nat.dvd_trans (Qpg ht) (Nat.dvd_mul_left _ _)
theorem Qxc {p : List Tm} {K E : Nat} (hp : FW.PB K E p) : nl (Qg2 p) ≤ p.length * K + 1 := by
  induction p with
  | nil => simp [Qg2, Qev]
  | cons t p ih =>
    have h1 := ih (PB.cons.1 hp).2
    have h2 := (PB.cons.1 hp).1.c
    have h3 := Qb1 t.1.den (Qg2 p)
    unfold rs at h2
    rw [List.length_cons, Nat.succ_mul]
    have e : Qg2 (t :: p) = t.1.den * Qg2 p := rfl
    rw [e]; omega
theorem Qxd {p : List Tm} {K E : Nat} (hp : FW.PB K E p) : nl (Qds p) ≤ p.length + K := by
  induction p with
  | nil => simp [Qds, Qh7]
  | cons t p ih =>
    have h1 := ih (PB.cons.1 hp).2
    have h2 := (PB.cons.1 hp).1.c
    have h3 := Qmu t.1.num.natAbs (Qds p)
    unfold rs at h2
    have e : Qds (t :: p) = t.1.num.natAbs + Qds p := rfl
    rw [e, List.length_cons]; omega
theorem Qxe {c : Rat} {L : Nat} (h : c.den ∣ L) : IsI (c * (L : Rat)) := by
  obtain ⟨k, rfl⟩ := h
  refine ⟨c.num * (k : Int), ?_⟩
  have hd0 := c.den_nz
  have d1 : c = (c.num : Rat) / ((c.den : Int) : Rat) := by
    conv => lhs; rw [← Rat.mkRat_self c]
    rw [Rat.mkRat_eq_div, Rat.intCast_natCast]
  have k1 : ((c.den : Int) : Rat) ≠ 0 := by rw [Ne, Rat.intCast_eq_zero_iff]; omega
  rw [Rat.natCast_mul, Rat.intCast_mul, Rat.intCast_natCast, ← Rat.intCast_natCast c.den]
  generalize ((c.den : Int) : Rat) = D at *
  generalize (c.num : Rat) = N at *
  rw [d1]
  grind
theorem Qph (c : Rat) : Qbs c * (c.den : Rat) = ((c.num.natAbs : Nat) : Rat) := by
  have d1 : c * (c.den : Rat) = (c.num : Rat) := by
    have e : c = (c.num : Rat) / ((c.den : Int) : Rat) := by
      conv => lhs; rw [← Rat.mkRat_self c]
      rw [Rat.mkRat_eq_div, Rat.intCast_natCast]
    have k1 : ((c.den : Int) : Rat) ≠ 0 := by rw [Ne, Rat.intCast_eq_zero_iff]; have := c.den_nz; omega
    rw [← Rat.intCast_natCast]
    generalize ((c.den : Int) : Rat) = D at *
    generalize (c.num : Rat) = N at *
    rw [e]; grind
  rw [← Ql3, ← d1, Ql2]
  congr 1
  rw [← Rat.intCast_natCast, Ql3, Int.natAbs_natCast, Rat.intCast_natCast]
theorem Qej {a b : Nat} (h : a ≤ b) : (a : Rat) ≤ (b : Rat) := by
  rw [← Rat.intCast_natCast, ← Rat.intCast_natCast, Rat.intCast_le_intCast]; omega
theorem Qwg (c : Rat) : Qbs c ≤ ((c.num.natAbs : Nat) : Rat) := by
  have h := Qph c
  have h1 : (1 : Rat) ≤ (c.den : Rat) := Qej (a := 1) (Nat.pos_of_ne_zero c.den_nz)
  have := Rat.mul_le_mul_of_nonneg_left h1 (Qeh c)
  grind
theorem Qyt {w : Nat} (hw : 0 < w) {N : Nat} : ∀ {p : List Tm}, (∀ t ∈ p, psi t.2 ≤ N) → nW w p ≤ ((Qds p * w ^ N : Nat) : Rat)
  | [], _ => by
    have e : Qds [] = 0 := rfl
    rw [e, Nat.zero_mul]; exact Rat.le_refl
  | t :: p, h => by
    have hw1 : (1 : Rat) ≤ (w : Rat) := Qej (a := 1) hw
    have h1 := Qyt hw (p := p) (fun s hs => h s (by simp [hs]))
    have h2 := Q5n hw1 (h t (by simp))
    have h3 := Rat.mul_le_mul_of_nonneg_left h2 (Qeh t.1)
    have h4 := Rat.mul_le_mul_of_nonneg_right (Qwg t.1) (Qd7 (show (0 : Rat) ≤ (w : Rat) by grind) N)
    have e : Qds (t :: p) = t.1.num.natAbs + Qds p := rfl
    rw [e, Nat.add_mul, Rat.natCast_add, Rat.natCast_mul, Rat.natCast_pow]
    simp only [nW]
    grind
def exW (y : Tm) (q : List Tm) : Nat := Qds q * y.1.den + 1
def exF (y : Tm) (q : List Tm) : Nat := Qg2 q * y.1.num.natAbs
theorem qok {y : Tm} {q : List Tm} {K : Nat} (bq : FW.PB K 8 (y :: q)) (nq : Nrm (y :: q)) (hm : ML 4 (y :: q)) : QOk (exF y q : Nat) (exW y q : Nat) y q := by
  have hy0 := nq.z y (by simp)
  have hw1 : (1 : Rat) ≤ ((exW y q : Nat) : Rat) := Qej (a := 1) (by unfold exW; omega)
  have hlt : ∀ s ∈ q, psi s.2 < psi y.2 := fun s hs => by
    have h1 := nq.s.1 s hs
    have h2 := Qc3 y.2 s.2
    exact Qabw (bq s (by simp [hs])).m (bq y (by simp)).m (hm s (by simp [hs])) (hm y (by simp)) (by omega)
  refine ⟨hw1, IsI.nat _, hlt, fun s hs => ?_, ?_, fun t ht i => ((bq t ht).m.eN i).1, hm⟩
  · have h1 := Qxe (Qpg hs)
    have h2 : IsI (((y.1.num.natAbs : Nat) : Rat) / y.1) := by
      have h3 := Qph y.1
      have h4 : ((y.1.num.natAbs : Nat) : Rat) / y.1 = (y.1.den : Rat) ∨ ((y.1.num.natAbs : Nat) : Rat) / y.1 = -(y.1.den : Rat) := by
        rw [← h3]; unfold Qbs; grind
      rcases h4 with h4 | h4 <;> rw [h4]
      · exact IsI.nat _
      · exact (IsI.nat _).neg
    have h5 := h1.mul h2
    have e : s.1 / y.1 * ((exF y q : Nat) : Rat) = s.1 * (Qg2 q : Rat) * (((y.1.num.natAbs : Nat) : Rat) / y.1) := by
      unfold exF; rw [Rat.natCast_mul]; grind
    rw [e]; exact h5
  · cases q with
    | nil =>
      have := Qei (W := ((exW y [] : Nat) : Rat)) (by grind) y.1 y.2
      simp only [nW]; exact this
    | cons s q =>
      have hp0 : 0 < psi y.2 := by have := hlt s (by simp); omega
      obtain ⟨n, hn⟩ : ∃ n, psi y.2 = n + 1 := ⟨psi y.2 - 1, by omega⟩
      have h1 := Qyt (w := exW y (s :: q)) (by unfold exW; omega) (N := n) (p := s :: q) (fun t ht => by have := hlt t ht; omega)
      rw [Rat.natCast_mul, Rat.natCast_pow] at h1
      have h2 : ((Qds (s :: q) : Nat) : Rat) ≤ Qbs y.1 * ((exW y (s :: q) : Nat) : Rat) := by
        have h3 := Qph y.1
        have h4 : (1 : Rat) ≤ ((y.1.num.natAbs : Nat) : Rat) := Qej (a := 1) (by
          have : y.1.num ≠ 0 := fun e => hy0 (Rat.num_eq_zero.1 e)
          omega)
        have h5 := Rat.mul_le_mul_of_nonneg_left h4 (show (0 : Rat) ≤ ((Qds (s :: q) : Nat) : Rat) from Qej (a := 0) (by omega))
        unfold exW
        rw [Rat.natCast_add, Rat.natCast_mul]
        have h6 := Qeh y.1
        have h7 : ((1 : Nat) : Rat) = 1 := rfl
        rw [h7]
        generalize ((Qds (s :: q) : Nat) : Rat) = S at *
        grind
      have h8 := Rat.mul_le_mul_of_nonneg_right h2 (Qd7 (show (0 : Rat) ≤ ((exW y (s :: q) : Nat) : Rat) by grind) n)
      rw [hn, Rat.pow_succ]
      grind
theorem Q5q {p q : List Tm} (np : Nrm p) (nq : Nrm q) (bp : FW.PB 5 8 p) (bq : FW.PB 5 8 q) (mp : ML 4 p) (mq : ML 4 q) (lp : p.length ≤ 25) (lq : q.length ≤ 25) (hq : q ≠ []) :
    ∃ k0, k0 ≤ 2 ^ 33 ∧ (∀ k, k ≤ k0 → FW.PB (2 ^ 20) 6560 (exP q p k) ∧ (exP q p k).length ≤ 2 ^ 32) ∧ (∀ k, k < k0 → Qdr q (exP q p k)) ∧ ¬ Qdr q (exP q p k0) := by
  obtain ⟨y, q, rfl⟩ : ∃ y q', q = y :: q' := by
    cases q with
    | nil => exact absurd rfl hq
    | cons y q => exact ⟨y, q, rfl⟩
  have hQ := qok bq nq mq
  have hy0 := nq.z y (by simp)
  obtain ⟨w, hw⟩ : ∃ w, w = exW y q := ⟨_, rfl⟩
  obtain ⟨f, hf⟩ : ∃ f, f = exF y q := ⟨_, rfl⟩
  obtain ⟨d, hd⟩ : ∃ d, d = Qg2 p := ⟨_, rfl⟩
  obtain ⟨n0, hn0⟩ : ∃ n0, n0 = Qds p * w ^ 6560 + 1 := ⟨_, rfl⟩
  have hw0 : 0 < w := by rw [hw]; unfold exW; omega
  have hd0 : 0 < d := hd ▸ Qvl p
  have hf0 : 0 < f := by
    rw [hf]; unfold exF
    refine Nat.mul_pos (Qvl q) ?_
    have : y.1.num ≠ 0 := fun e => hy0 (Rat.num_eq_zero.1 e)
    omega
  rw [← hw, ← hf] at hQ
  have hsz : nl (n0 * (d * f ^ 6560)) < 2 ^ 20 := by
    have a1 := Qxc bp
    have a2 := Qxd bp
    have a3 := Qxc (PB.cons.1 bq).2
    have a4 := Qxd (PB.cons.1 bq).2
    have a5 := (PB.cons.1 bq).1.c
    unfold rs at a5
    rw [List.length_cons] at lq
    have b1 := Qb1 (Qg2 q) y.1.num.natAbs
    have b2 := Qb1 (Qds q) y.1.den
    have b3 := Qmu (Qds q * y.1.den) 1
    have b4 := Qvk w 6560
    have b5 := Qvk f 6560
    generalize w ^ 6560 = W6 at *
    generalize f ^ 6560 = F6 at *
    have b6 := Qb1 (Qds p) W6
    have b7 := Qmu (Qds p * W6) 1
    have b8 := Qb1 d F6
    have b9 := Qb1 n0 (d * F6)
    rw [Qev] at b3 b7
    have e1 : nl w = nl (Qds q * y.1.den + 1) := by rw [hw]; rfl
    have e2 : nl f = nl (Qg2 q * y.1.num.natAbs) := by rw [hf]; rfl
    rw [← hd] at a1
    rw [← hn0] at b7
    omega
  have h0 : ExI d f w n0 p := by
    have hps : ∀ t ∈ p, psi t.2 ≤ 6560 := fun t ht => by
      have c0 := (bp t ht).m.eN 0; have c1 := (bp t ht).m.eN 1; have c2 := (bp t ht).m.eN 2; have c3 := (bp t ht).m.eN 3
      simp only [psi]; omega
    refine ⟨fun t ht => ⟨hps t ht, ?_⟩, ?_, fun t ht i => ((bp t ht).m.eN i).1, mp, np⟩
    · have h1 := (Qxe (Qpg ht)).mul ((IsI.nat f).pow (6560 - psi t.2))
      rw [← hd] at h1
      rw [← Rat.mul_assoc]; exact h1
    · have h1 := Qyt hw0 hps
      have h2 : ((Qds p * w ^ 6560 : Nat) : Rat) ≤ (n0 : Rat) := Qej (by omega)
      exact Rat.le_trans h1 h2
  have hPB : ∀ {r : List Tm}, ExI d f w n0 r → FW.PB (2 ^ 20) 6560 r := fun h => h.PB hd0 hf0 hw0 (by omega) hsz
  have hinv : ∀ k, (∀ j, j < k → Qdr (y :: q) (exP (y :: q) p j)) → ExI d f w n0 (exP (y :: q) p k) := by
    intro k
    induction k with
    | zero => intro _; exact h0
    | succ k ih =>
      intro hg
      have h1 := ih (fun j hj => hg j (by omega))
      exact h1.step hQ (hPB h1) bq nq (hg k (by omega))
  have hdec : ∀ k, (∀ j, j < k → Qdr (y :: q) (exP (y :: q) p j)) → Qdr (y :: q) (exP (y :: q) p k) → c4 (hdT (exP (y :: q) p k)).2 + k ≤ c4 (hdT p).2 := by
    intro k
    induction k with
    | zero => intro _ _; simp only [exP, Nat.add_zero, Nat.le_refl]
    | succ k ih =>
      intro hg hgk
      have i1 := hinv k (fun j hj => hg j (by omega))
      have i2 := hinv (k + 1) hg
      have h1 := ih (fun j hj => hg j (by omega)) (hg k (by omega))
      have h2 := Qve (hPB i1) (bq.mono (by omega) (by omega)) i1.nrm nq (by simp) (hg k (by omega)) _ (Qaw hgk.1)
      have m1 := Qaw (hg k (by omega)).1
      have m2 := Qaw hgk.1
      have h3 := Q5y (i2.pos _ m2) (i1.pos _ m1) (i2.ml _ m2) (i1.ml _ m1) (i2.i _ m2).1 (i1.i _ m1).1 h2
      omega
  have hex : ∀ n, (∃ k0, k0 ≤ n ∧ (∀ k, k < k0 → Qdr (y :: q) (exP (y :: q) p k)) ∧ ¬ Qdr (y :: q) (exP (y :: q) p k0)) ∨ ∀ k, k ≤ n → Qdr (y :: q) (exP (y :: q) p k) := by
    intro n
    induction n with
    | zero =>
      by_cases h : Qdr (y :: q) (exP (y :: q) p 0)
      · exact .inr fun k hk => by obtain rfl : k = 0 := by omega
                                  exact h
      · exact .inl ⟨0, by omega, fun k hk => by omega, h⟩
    | succ n ih =>
      rcases ih with ⟨k0, h1, h2, h3⟩ | h
      · exact .inl ⟨k0, by omega, h2, h3⟩
      · by_cases hn : Qdr (y :: q) (exP (y :: q) p (n + 1))
        · refine .inr fun k hk => ?_
          rcases Nat.lt_or_eq_of_le hk with h4 | h4
          · exact h k (by omega)
          · rw [h4]; exact hn
        · exact .inl ⟨n + 1, Nat.le_refl _, fun k hk => h k (by omega), hn⟩
  rcases hex (2 ^ 33) with ⟨k0, h1, h2, h3⟩ | h
  · exact ⟨k0, h1, fun k hk => ⟨hPB (hinv k fun j hj => h2 j (by omega)), (hinv k fun j hj => h2 j (by omega)).len⟩, h2, h3⟩
  · exfalso
    have hg := h 0 (by omega)
    have h1 := hdec (2 ^ 33) (fun j hj => h j (by omega)) (h _ (Nat.le_refl _))
    have h2 := Q5z (h0.i _ (Qaw hg.1)).1
    omega
end Go.FW
