/- Part 12 of the proof of PseudoDivides: W9, W10, FwUH. Own lemmas; no conditions. -/
import Derived.Test.YtjkbalanglgoiaaGreatPseudoDividesPart11
set_option linter.unusedSimpArgs false
set_option linter.unnecessarySimpa false
set_option linter.unusedVariables false
namespace Go.Proofs.YtjkbalanglgoiaaGreat
open Go Go.FW
set_option linter.unusedSimpArgs false
set_option linter.unusedVariables false
set_option maxRecDepth 100000
theorem Q1p {ls : List (List RTm)} {k : Nat} (hb : ∀ l ∈ ls, (∀ t ∈ l, RB k t) ∧ l.length < 2 ^ 40) (hk1 : 1 ≤ k) (hk : k < 2 ^ 36) (hll : ls.length < 2 ^ 40) :
    Qe Tryz.prog 17 [.sl 1 (ls.map PV.rpoly)] (· = .bool (ls.all (Qd1 5 4 4))) := by
  refine Qg Ql Tryz.func17 rfl Qabn (by simp [c17]) fun C hP => ?_; simp only [c17]
  simp +decide (disch := first | omega | rfl | (simp +decide only [go_sem, ↓reduceIte] <;> rfl) | fail) only [go_sem, ↓reduceIte]
  refine Qx (by repeat (first | exact Qt | exact Qp | exact Qq | apply Qo | apply Qs | apply Qy | apply Q5 | apply Q6 | apply Qm | apply Q4)) [(2, 15)] [] (fun m J hp => ∃ i, m = ls.length - i ∧ i ≤ ls.length ∧ (∀ j (h : j < ls.length), j < i → Qd1 5 4 4 ls[j] = true) ∧ J 3 = .int .i64 (i : Nat)) ls.length ?_ ?_
  · refine ⟨0, rfl, by omega, by omega, ?_⟩
    simp +decide (disch := first | omega | rfl | (simp +decide only [go_sem, ↓reduceIte] <;> rfl) | fail) only [go_sem, ↓reduceIte]
    rfl
  rintro _ J h ⟨i, rfl, hi, h1, h3⟩
  simp +decide (disch := first | omega | rfl | (simp +decide only [go_sem, ↓reduceIte, h3] <;> rfl) | fail) only [go_sem, ↓reduceIte, h3]
  refine Qb (fun hg => ?_) (fun hg => ?_)
  · have hi' : i < ls.length := by omega
    have hbt := hb _ (List.getElem_mem hi')
    have hmem := List.getElem_mem hi'
    have hadd : Qd1 5 4 4 ls[i] = true → ∀ j (h : j < ls.length), j < i + 1 → Qd1 5 4 4 ls[j] = true := fun h j hj hji => by
      by_cases e : j = i
      · subst e; exact h
      · exact h1 j hj (by omega)
    generalize hx : ls[i] = x at *
    simp +decide (disch := first | omega | rfl | (simp +decide only [go_sem, ↓reduceIte, h3, hx] <;> rfl) | fail) only [go_sem, ↓reduceIte, h3, hx]
    refine Qa hP (Qs9 (n := 5) (v := 4) (e := 4) hbt.1 hk1 hk hbt.2) rfl rfl rfl ?_
    simp +decide (disch := first | omega | rfl | (simp +decide only [go_sem, ↓reduceIte, h3] <;> rfl) | fail) only [go_sem, ↓reduceIte, h3]
    cases hs : Qd1 5 4 4 x
    · simp +decide (disch := first | omega | rfl | (simp +decide only [go_sem, ↓reduceIte, h3, hs] <;> rfl) | fail) only [go_sem, ↓reduceIte, h3, hs]
      refine Qc ?_ rfl
      congr 1
      symm
      rw [List.all_eq_false]; exact ⟨x, hmem, by simp [hs]⟩
    · simp +decide (disch := first | omega | rfl | (simp +decide only [go_sem, ↓reduceIte, h3, hs] <;> rfl) | fail) only [go_sem, ↓reduceIte, h3, hs]
      refine Qk (ls.length - (i + 1)) (by omega) ⟨i + 1, rfl, by omega, hadd hs, ?_⟩
      simp +decide (disch := first | omega | rfl | (simp +decide only [go_sem, ↓reduceIte] <;> rfl) | fail) only [go_sem, ↓reduceIte]
  · obtain rfl : i = ls.length := by omega
    simp +decide (disch := first | omega | rfl | (simp +decide only [go_sem, ↓reduceIte] <;> rfl) | fail) only [go_sem, ↓reduceIte]
    refine Qc ?_ rfl
    congr 1
    symm
    rw [List.all_eq_true]
    intro t ht
    obtain ⟨j, hj, rfl⟩ := List.getElem_of_mem ht
    exact h1 j hj hj
theorem Q5p (v : Nat) : Qj1 v = Qa6 v 1 := rfl
theorem Qov {v : Nat} (hv : v < 64) : Qe Tryz.prog 45 [.int .i64 v] (· = PV.poly (Qa4 v)) := by
  have hset : (List.replicate (v + 1) (0 : Int)).set v 1 = Qa6 v 1 := Qpg v 1 rfl
  have hlr : v < (List.replicate (v + 1) (0 : Int)).length := by simp
  have hone := Qpa
  have hxl : (Qa6 v 1).length = v + 1 := by simp [Qa6]
  have hadd := (Qka (p := []) (m := Qa6 v 1) (K := 1) (E := 1) (k := 4) (PB.nil _ _) trivial (by simp [NZ]) (Qb4 (q := ((1 : Int) : Rat)) (k := 4) (by rw [show ((1 : Int) : Rat) = 1 from rfl]; omega)) (by omega) (Qrq hv) (Qjs (by omega)) (by omega) (by omega) (by simp)).le (args' := [.nilS, PV.rat ((1 : Int) : Rat), PV.mono (Qa6 v 1)]) ⟨trivial, Qn _, Qn _, trivial⟩
  rw [Qcl] at hadd
  have e : Qcx [] ((1 : Int) : Rat) (Qa6 v 1) = Qa4 v := by
    rw [Qcx, Qfa, if_neg (by decide), Qa4, if_neg (by omega), Int.toNat_natCast, Q5p]; rfl
  rw [e] at hadd
  refine Qg Ql Tryz.func45 rfl Qabl (by simp [c45]) fun C hP => ?_; simp only [c45]
  simp +decide (disch := first | omega | rfl | (simp +decide only [go_sem, ↓reduceIte] <;> rfl) | fail) only [go_sem, ↓reduceIte]
  refine Q2 (fun h => by omega) (fun _ => ?_)
  simp +decide (disch := first | omega | rfl | (simp +decide only [go_sem, ↓reduceIte] <;> rfl) | fail) only [go_sem, ↓reduceIte]
  refine Qb (fun h => by omega) (fun _ => ?_)
  simp +decide (disch := first | omega | rfl | (simp +decide only [go_sem, ↓reduceIte, hset] <;> rfl) | fail) only [go_sem, ↓reduceIte, hset]
  refine Qa hP (Qen (x := 1) (by omega) (by omega)) rfl rfl rfl ?_
  generalize ((1 : Int) : Rat) = c at *
  simp +decide (disch := first | omega | rfl | (simp +decide only [go_sem, ↓reduceIte] <;> rfl) | fail) only [go_sem, ↓reduceIte]
  refine Qbg hP hadd (by simp +decide (disch := first | omega | rfl | (simp +decide only [go_sem, ↓reduceIte, Qd, List.contains_cons, List.contains_nil, List.flatMap_cons, List.flatMap_nil, List.append_nil] <;> rfl) | fail) only [go_sem, ↓reduceIte, Qd, List.contains_cons, List.contains_nil, List.flatMap_cons, List.flatMap_nil, List.append_nil]; simp [List.take_of_length_le, hxl]) rfl ?_
  simp +decide (disch := first | omega | rfl | (simp +decide only [go_sem, ↓reduceIte] <;> rfl) | fail) only [go_sem, ↓reduceIte]
  exact Qc rfl rfl
theorem al1 : Q3 (Qbt (Qa4 0) (((-1 : Int) : Rat) / ((2 : Int) : Rat))) (Qix (((1 : Int) : Rat) / ((3 : Int) : Rat))) = [(mkRat (-1) 2, [1]), (mkRat 1 3, [])] := by decide +kernel
theorem al2 : Qng [(mkRat (-1) 2, [1]), (mkRat 1 3, [])] = ((-6 : Int) : Rat) := by decide +kernel
theorem al3 : Qbt [(mkRat (-1) 2, [1]), (mkRat 1 3, [])] ((-6 : Int) : Rat) = [(((3 : Int) : Rat), [1]), (((-2 : Int) : Rat), [])] := by decide +kernel
theorem al4 : Qfz (Qay (Qa4 0) (Qa4 0)) (Qay (Qa4 1) (Qa4 1)) = [(-1, [0, 2]), (1, [2])] := by decide +kernel
theorem al5 : Qfz (Qa4 0) (Qa4 1) = [(-1, [0, 1]), (1, [1])] := by decide +kernel
theorem al6 : exP [(-1, [0, 1]), (1, [1])] [(-1, [0, 2]), (1, [2])] 2 = [] := by decide +kernel
theorem al7 : exQ [(-1, [0, 1]), (1, [1])] [(-1, [0, 2]), (1, [2])] 2 = Q3 (Qa4 0) (Qa4 1) := by decide +kernel
theorem al8 : Q3 (Qa4 0) (Qa4 1) = [(1, [0, 1]), (1, [1])] := by decide +kernel
theorem Qvr : Qe Tryz.prog 11 [PV.poly [(-1, [0, 2]), (1, [2])], PV.poly [(-1, [0, 1]), (1, [1])]] (· = .tup [PV.poly (Q3 (Qa4 0) (Qa4 1)), .bool true]) := by
  have h := Qte (p := [(-1, [0, 2]), (1, [2])]) (q := [(-1, [0, 1]), (1, [1])]) (K := 5) (E := 2) (L := 2) (k0 := 2) (Qqy (by decide +kernel)) (Qqy (by decide +kernel)) (Qif (by decide +kernel)) (by simp) (by simp) (fun k hk => by
    have : k = 0 ∨ k = 1 ∨ k = 2 := by omega
    rcases this with rfl | rfl | rfl <;> exact ⟨Qif (by decide +kernel), by decide +kernel⟩) (fun k hk => by
    have : k = 0 ∨ k = 1 := by omega
    rcases this with rfl | rfl <;> exact ⟨by decide +kernel, by decide +kernel⟩) (fun h => h.1 al6) (by omega) (by omega) (by omega) (by omega) (by omega)
  rwa [exR, if_pos al6, al7] at h
theorem Qow : Qe Tryz.prog 10 [] (· = .bool true) := by
  have b0 := Qxd 0
  have b1 := Qxd 1
  have l0 := Qi5 0
  have l1 := Qi5 1
  have hA := al1
  have hS1 := Qsd (L := 5) b0 (a := ((-1 : Int) : Rat) / ((2 : Int) : Rat)) (by decide +kernel)
  have hS2 := Qdj (Qa4 0) (((-1 : Int) : Rat) / ((2 : Int) : Rat))
  have hC1 : PB 9 1 (Qix (((1 : Int) : Rat) / ((3 : Int) : Rat))) := Qif (by decide +kernel)
  have hC2 : (Qix (((1 : Int) : Rat) / ((3 : Int) : Rat))).length ≤ 1 := by decide +kernel
  have hr1 : rs (((-1 : Int) : Rat) / ((2 : Int) : Rat)) + 1 ≤ 5 := by decide +kernel
  have hr2 : rs (((1 : Int) : Rat) / ((3 : Int) : Rat)) ≤ 5 := by decide +kernel
  have hf1 := Qnd (x := -1) (y := 2) (by omega) (by omega) (by omega)
  have hf2 := Qnd (x := 1) (y := 3) (by omega) (by omega) (by omega)
  have hprim := Qn3 (p := [(mkRat (-1) 2, [1]), (mkRat 1 3, [])]) (K := 5) (E := 1) (Qif (by decide +kernel)) (Qqy (by decide +kernel)) (by simp) (by simp) (by simp) (by omega)
  rw [al2, al3] at hprim
  have hx := Qvr
  rw [← al5, ← al4] at hx
  have hadd := al8
  have ls : (Qfz (Qa4 0) (Qa4 1)).length ≤ 2 := by decide +kernel
  have bs : PB 20 1 (Qfz (Qa4 0) (Qa4 1)) := Qif (by decide +kernel)
  have bm0 : PB 20 2 (Qay (Qa4 0) (Qa4 0)) := Qif (by decide +kernel)
  have bm1 : PB 20 2 (Qay (Qa4 1) (Qa4 1)) := Qif (by decide +kernel)
  have lm0 : (Qay (Qa4 0) (Qa4 0)).length ≤ 2 := by decide +kernel
  have lm1 : (Qay (Qa4 1) (Qa4 1)).length ≤ 2 := by decide +kernel
  have bX : PB 20 1 (Q3 (Qa4 0) (Qa4 1)) := Qif (by decide +kernel)
  have lX : (Q3 (Qa4 0) (Qa4 1)).length ≤ 2 := by decide +kernel
  have bN : PB 5 1 [(((3 : Int) : Rat), [1]), (((-2 : Int) : Rat), ([] : List Int))] := Qif (by decide +kernel)
  have nN : Nrm [(((3 : Int) : Rat), [1]), (((-2 : Int) : Rat), ([] : List Int))] := Qqy (by decide +kernel)
  have h3 := Qen (x := 3) (by omega) (by omega)
  have hm2 := Qen (x := -2) (by omega) (by omega)
  have hm6 := Qen (x := -6) (by omega) (by omega)
  have r6 : rs ((-6 : Int) : Rat) ≤ 5 := by decide +kernel
  have hmul : ∀ v : Int, min (Qa4 v).length (Qa4 v).length * (4 + 4) ≤ 1 * 8 := fun v => Nat.mul_le_mul_right _ (by have := Qi5 v; omega)
  have hmll : ∀ v : Int, (Qa4 v).length * (Qa4 v).length ≤ 1 * 1 := fun v => Nat.mul_le_mul (Qi5 v) (Qi5 v)
  generalize ((3 : Int) : Rat) = c3 at h3 hprim bN nN
  generalize ((-2 : Int) : Rat) = cm2 at hm2 hprim bN nN
  generalize ((-6 : Int) : Rat) = cm6 at hm6 hprim r6
  have hnorm := (Ql5 bN nN (by omega) (by omega) (by simp)).slLe (xs := [PV.term (c3, [1]), .agg [.bool (decide (cm2.num < 0)), PV.num cm2.num.natAbs, PV.num cm2.den, .nilS]]) ⟨Qn _, ⟨Qee _, Qee _, Qee _, trivial, trivial⟩, trivial⟩
  have hv0 := Qqj (v := 0) (by omega) (by omega)
  have hv1 := Qqj (v := 1) (by omega) (by omega)
  have hw0 := Qov (v := 0) (by omega)
  have hw1 := Qov (v := 1) (by omega)
  have hq1 := hmul 0
  have hq2 := hmul 1
  have hq3 := hmll 0
  have hq4 := hmll 1
  refine Qg Ql Tryz.func10 rfl Qabm (by simp [c10]) fun C hP => ?_; simp only [c10]
  simp +decide (disch := first | omega | rfl | (simp +decide only [go_sem, ↓reduceIte] <;> rfl) | fail) only [go_sem, ↓reduceIte]
  refine Qa hP hv0 rfl rfl rfl ?_
  simp +decide (disch := first | omega | rfl | (simp +decide only [go_sem, ↓reduceIte] <;> rfl) | fail) only [go_sem, ↓reduceIte]
  refine Qa hP hf1 rfl rfl rfl ?_
  generalize ((-1 : Int) : Rat) / ((2 : Int) : Rat) = f1 at *
  simp +decide (disch := first | omega | rfl | (simp +decide only [go_sem, ↓reduceIte] <;> rfl) | fail) only [go_sem, ↓reduceIte]
  refine Qa hP (Qi1 (K := 5) (E := 1) (b0.mono (by omega) (by omega)) hr1 (by omega) (by omega) (by omega)) rfl rfl rfl ?_
  simp +decide (disch := first | omega | rfl | (simp +decide only [go_sem, ↓reduceIte] <;> rfl) | fail) only [go_sem, ↓reduceIte]
  refine Qa hP hf2 rfl rfl rfl ?_
  generalize ((1 : Int) : Rat) / ((3 : Int) : Rat) = f2 at *
  simp +decide (disch := first | omega | rfl | (simp +decide only [go_sem, ↓reduceIte] <;> rfl) | fail) only [go_sem, ↓reduceIte]
  refine Qa hP (Q09 hr2 (by omega)) rfl rfl rfl ?_
  simp +decide (disch := first | omega | rfl | (simp +decide only [go_sem, ↓reduceIte] <;> rfl) | fail) only [go_sem, ↓reduceIte]
  refine Qa hP (Qib (K := 9) (E := 1) (hS1.mono (by omega) (by omega)) hC1 (by omega) (by omega) (by omega) (by omega)) rfl rfl rfl ?_
  rw [hA]
  simp +decide (disch := first | omega | rfl | (simp +decide only [go_sem, ↓reduceIte] <;> rfl) | fail) only [go_sem, ↓reduceIte]
  refine Qa hP hprim rfl rfl rfl ?_
  simp +decide (disch := first | omega | rfl | (simp +decide only [go_sem, ↓reduceIte] <;> rfl) | fail) only [go_sem, ↓reduceIte]
  refine Qa hP hv0 rfl rfl rfl ?_
  simp +decide (disch := first | omega | rfl | (simp +decide only [go_sem, ↓reduceIte] <;> rfl) | fail) only [go_sem, ↓reduceIte]
  refine Qa hP hv0 rfl rfl rfl ?_
  simp +decide (disch := first | omega | rfl | (simp +decide only [go_sem, ↓reduceIte] <;> rfl) | fail) only [go_sem, ↓reduceIte]
  refine Qa hP (Qdp b0 b0 (by omega) (by omega) (by omega) (by omega) (by omega) (by omega)) rfl rfl rfl ?_
  simp +decide (disch := first | omega | rfl | (simp +decide only [go_sem, ↓reduceIte] <;> rfl) | fail) only [go_sem, ↓reduceIte]
  refine Qa hP hv1 rfl rfl rfl ?_
  simp +decide (disch := first | omega | rfl | (simp +decide only [go_sem, ↓reduceIte] <;> rfl) | fail) only [go_sem, ↓reduceIte]
  refine Qa hP hv1 rfl rfl rfl ?_
  simp +decide (disch := first | omega | rfl | (simp +decide only [go_sem, ↓reduceIte] <;> rfl) | fail) only [go_sem, ↓reduceIte]
  refine Qa hP (Qdp b1 b1 (by omega) (by omega) (by omega) (by omega) (by omega) (by omega)) rfl rfl rfl ?_
  simp +decide (disch := first | omega | rfl | (simp +decide only [go_sem, ↓reduceIte] <;> rfl) | fail) only [go_sem, ↓reduceIte]
  refine Qa hP (Qgj bm0 bm1 (by omega) (by omega) (by omega) (by omega) (by omega)) rfl rfl rfl ?_
  simp +decide (disch := first | omega | rfl | (simp +decide only [go_sem, ↓reduceIte] <;> rfl) | fail) only [go_sem, ↓reduceIte]
  refine Qa hP hv0 rfl rfl rfl ?_
  simp +decide (disch := first | omega | rfl | (simp +decide only [go_sem, ↓reduceIte] <;> rfl) | fail) only [go_sem, ↓reduceIte]
  refine Qa hP hv1 rfl rfl rfl ?_
  simp +decide (disch := first | omega | rfl | (simp +decide only [go_sem, ↓reduceIte] <;> rfl) | fail) only [go_sem, ↓reduceIte]
  refine Qa hP (Qgj (K := 4) (E := 1) b0 b1 (by omega) (by omega) (by omega) (by omega) (by omega)) rfl rfl rfl ?_
  simp +decide (disch := first | omega | rfl | (simp +decide only [go_sem, ↓reduceIte] <;> rfl) | fail) only [go_sem, ↓reduceIte]
  refine Qa hP hx rfl rfl rfl ?_
  simp +decide (disch := first | omega | rfl | (simp +decide only [go_sem, ↓reduceIte] <;> rfl) | fail) only [go_sem, ↓reduceIte]
  generalize hXX : Q3 (Qa4 0) (Qa4 1) = X at *
  refine Qeh ?_ ?_
  · simp +decide (disch := first | omega | rfl | (simp +decide only [go_sem, ↓reduceIte] <;> rfl) | fail) only [go_sem, ↓reduceIte]
    refine Qa hP h3 rfl rfl rfl ?_
    simp +decide (disch := first | omega | rfl | (simp +decide only [go_sem, ↓reduceIte] <;> rfl) | fail) only [go_sem, ↓reduceIte]
    refine Qeh ?_ ?_
    · simp +decide (disch := first | omega | rfl | (simp +decide only [go_sem, ↓reduceIte] <;> rfl) | fail) only [go_sem, ↓reduceIte]
      rw [Qqq (p := PV.rat c3) (m := 1) (β := 31) (e := 1) (ty := 3) (fz := false) (xs := Qd4 [1]) rfl (by simp +decide (disch := first | omega | rfl | (simp +decide only [go_sem, ↓reduceIte] <;> rfl) | fail) only [go_sem, ↓reduceIte] <;> rfl) rfl]
      simp +decide (disch := first | omega | rfl | (simp +decide only [go_sem, ↓reduceIte] <;> rfl) | fail) only [go_sem, ↓reduceIte]
      refine Qa hP hm2 rfl rfl rfl ?_
      simp +decide (disch := first | omega | rfl | (simp +decide only [go_sem, ↓reduceIte] <;> rfl) | fail) only [go_sem, ↓reduceIte]
      refine Qbg hP hnorm (by simp +decide (disch := first | omega | rfl | (simp +decide only [go_sem, ↓reduceIte, Qd, List.contains_cons, List.contains_nil, List.flatMap_cons, List.flatMap_nil, List.append_nil] <;> rfl) | fail) only [go_sem, ↓reduceIte, Qd, List.contains_cons, List.contains_nil, List.flatMap_cons, List.flatMap_nil, List.append_nil] <;> rfl) rfl ?_
      simp +decide (disch := first | omega | rfl | (simp +decide only [go_sem, ↓reduceIte, Qd, List.contains_cons, List.contains_nil, List.flatMap_cons, List.flatMap_nil, List.append_nil] <;> rfl) | fail) only [go_sem, ↓reduceIte, Qd, List.contains_cons, List.contains_nil, List.flatMap_cons, List.flatMap_nil, List.append_nil]
      refine Qa hP (Qcq (K := 5) (E := 1) bN bN (by omega) (by omega) (by simp) (by simp)) rfl rfl rfl ?_
      rw [decide_eq_true (p := [(c3, ([1] : List Int)), (cm2, [])] = [(c3, [1]), (cm2, [])]) rfl]
      simp +decide (disch := first | omega | rfl | (simp +decide only [go_sem, ↓reduceIte, Qd, List.contains_cons, List.contains_nil, List.flatMap_cons, List.flatMap_nil, List.append_nil] <;> rfl) | fail) only [go_sem, ↓reduceIte, Qd, List.contains_cons, List.contains_nil, List.flatMap_cons, List.flatMap_nil, List.append_nil]
      refine Qa hP hm6 rfl rfl rfl ?_
      simp +decide (disch := first | omega | rfl | (simp +decide only [go_sem, ↓reduceIte, Qd, List.contains_cons, List.contains_nil, List.flatMap_cons, List.flatMap_nil, List.append_nil] <;> rfl) | fail) only [go_sem, ↓reduceIte, Qd, List.contains_cons, List.contains_nil, List.flatMap_cons, List.flatMap_nil, List.append_nil]
      refine Qa hP (Ql4 (a := cm6) (b := cm6) (k := 5) r6 r6 (by omega)) rfl rfl rfl ?_
      rw [decide_eq_true (p := cm6 = cm6) rfl]
      simp +decide (disch := first | omega | rfl | (simp +decide only [go_sem, ↓reduceIte, Qd, List.contains_cons, List.contains_nil, List.flatMap_cons, List.flatMap_nil, List.append_nil] <;> rfl) | fail) only [go_sem, ↓reduceIte, Qd, List.contains_cons, List.contains_nil, List.flatMap_cons, List.flatMap_nil, List.append_nil]
      refine Qa hP hw0 rfl rfl rfl ?_
      simp +decide (disch := first | omega | rfl | (simp +decide only [go_sem, ↓reduceIte, Qd, List.contains_cons, List.contains_nil, List.flatMap_cons, List.flatMap_nil, List.append_nil] <;> rfl) | fail) only [go_sem, ↓reduceIte, Qd, List.contains_cons, List.contains_nil, List.flatMap_cons, List.flatMap_nil, List.append_nil]
      refine Qa hP hw1 rfl rfl rfl ?_
      simp +decide (disch := first | omega | rfl | (simp +decide only [go_sem, ↓reduceIte, Qd, List.contains_cons, List.contains_nil, List.flatMap_cons, List.flatMap_nil, List.append_nil] <;> rfl) | fail) only [go_sem, ↓reduceIte, Qd, List.contains_cons, List.contains_nil, List.flatMap_cons, List.flatMap_nil, List.append_nil]
      refine Qa hP (Qex (K := 4) (E := 1) b0 b1 (by omega) (by omega) (by omega) (by omega)) rfl rfl rfl ?_
      rw [hXX]
      simp +decide (disch := first | omega | rfl | (simp +decide only [go_sem, ↓reduceIte, Qd, List.contains_cons, List.contains_nil, List.flatMap_cons, List.flatMap_nil, List.append_nil] <;> rfl) | fail) only [go_sem, ↓reduceIte, Qd, List.contains_cons, List.contains_nil, List.flatMap_cons, List.flatMap_nil, List.append_nil]
      refine Qa hP (Qcq (K := 20) (E := 1) bX bX (by omega) (by omega) (by omega) (by omega)) rfl rfl rfl ?_
      rw [decide_eq_true (p := X = X) rfl]
      simp +decide (disch := first | omega | rfl | (simp +decide only [go_sem, ↓reduceIte, Qd, List.contains_cons, List.contains_nil, List.flatMap_cons, List.flatMap_nil, List.append_nil] <;> rfl) | fail) only [go_sem, ↓reduceIte, Qd, List.contains_cons, List.contains_nil, List.flatMap_cons, List.flatMap_nil, List.append_nil]
      exact Qc rfl rfl
    · simp +decide (disch := first | omega | rfl | (simp +decide only [go_sem, ↓reduceIte] <;> rfl) | fail) only [go_sem, ↓reduceIte]
      refine Qa hP hm2 rfl rfl rfl ?_
      simp +decide (disch := first | omega | rfl | (simp +decide only [go_sem, ↓reduceIte] <;> rfl) | fail) only [go_sem, ↓reduceIte]
      rw [Qqq (p := PV.rat c3) (m := 1) (β := 31) (e := 1) (ty := 3) (fz := false) (xs := Qd4 [1]) rfl (by simp +decide (disch := first | omega | rfl | (simp +decide only [go_sem, ↓reduceIte] <;> rfl) | fail) only [go_sem, ↓reduceIte] <;> rfl) rfl]
      simp +decide (disch := first | omega | rfl | (simp +decide only [go_sem, ↓reduceIte] <;> rfl) | fail) only [go_sem, ↓reduceIte]
      refine Qbg hP hnorm (by simp +decide (disch := first | omega | rfl | (simp +decide only [go_sem, ↓reduceIte, Qd, List.contains_cons, List.contains_nil, List.flatMap_cons, List.flatMap_nil, List.append_nil] <;> rfl) | fail) only [go_sem, ↓reduceIte, Qd, List.contains_cons, List.contains_nil, List.flatMap_cons, List.flatMap_nil, List.append_nil] <;> rfl) rfl ?_
      simp +decide (disch := first | omega | rfl | (simp +decide only [go_sem, ↓reduceIte, Qd, List.contains_cons, List.contains_nil, List.flatMap_cons, List.flatMap_nil, List.append_nil] <;> rfl) | fail) only [go_sem, ↓reduceIte, Qd, List.contains_cons, List.contains_nil, List.flatMap_cons, List.flatMap_nil, List.append_nil]
      refine Qa hP (Qcq (K := 5) (E := 1) bN bN (by omega) (by omega) (by simp) (by simp)) rfl rfl rfl ?_
      rw [decide_eq_true (p := [(c3, ([1] : List Int)), (cm2, [])] = [(c3, [1]), (cm2, [])]) rfl]
      simp +decide (disch := first | omega | rfl | (simp +decide only [go_sem, ↓reduceIte, Qd, List.contains_cons, List.contains_nil, List.flatMap_cons, List.flatMap_nil, List.append_nil] <;> rfl) | fail) only [go_sem, ↓reduceIte, Qd, List.contains_cons, List.contains_nil, List.flatMap_cons, List.flatMap_nil, List.append_nil]
      refine Qa hP hm6 rfl rfl rfl ?_
      simp +decide (disch := first | omega | rfl | (simp +decide only [go_sem, ↓reduceIte, Qd, List.contains_cons, List.contains_nil, List.flatMap_cons, List.flatMap_nil, List.append_nil] <;> rfl) | fail) only [go_sem, ↓reduceIte, Qd, List.contains_cons, List.contains_nil, List.flatMap_cons, List.flatMap_nil, List.append_nil]
      refine Qa hP (Ql4 (a := cm6) (b := cm6) (k := 5) r6 r6 (by omega)) rfl rfl rfl ?_
      rw [decide_eq_true (p := cm6 = cm6) rfl]
      simp +decide (disch := first | omega | rfl | (simp +decide only [go_sem, ↓reduceIte, Qd, List.contains_cons, List.contains_nil, List.flatMap_cons, List.flatMap_nil, List.append_nil] <;> rfl) | fail) only [go_sem, ↓reduceIte, Qd, List.contains_cons, List.contains_nil, List.flatMap_cons, List.flatMap_nil, List.append_nil]
      refine Qa hP hw0 rfl rfl rfl ?_
      simp +decide (disch := first | omega | rfl | (simp +decide only [go_sem, ↓reduceIte, Qd, List.contains_cons, List.contains_nil, List.flatMap_cons, List.flatMap_nil, List.append_nil] <;> rfl) | fail) only [go_sem, ↓reduceIte, Qd, List.contains_cons, List.contains_nil, List.flatMap_cons, List.flatMap_nil, List.append_nil]
      refine Qa hP hw1 rfl rfl rfl ?_
      simp +decide (disch := first | omega | rfl | (simp +decide only [go_sem, ↓reduceIte, Qd, List.contains_cons, List.contains_nil, List.flatMap_cons, List.flatMap_nil, List.append_nil] <;> rfl) | fail) only [go_sem, ↓reduceIte, Qd, List.contains_cons, List.contains_nil, List.flatMap_cons, List.flatMap_nil, List.append_nil]
      refine Qa hP (Qex (K := 4) (E := 1) b0 b1 (by omega) (by omega) (by omega) (by omega)) rfl rfl rfl ?_
      rw [hXX]
      simp +decide (disch := first | omega | rfl | (simp +decide only [go_sem, ↓reduceIte, Qd, List.contains_cons, List.contains_nil, List.flatMap_cons, List.flatMap_nil, List.append_nil] <;> rfl) | fail) only [go_sem, ↓reduceIte, Qd, List.contains_cons, List.contains_nil, List.flatMap_cons, List.flatMap_nil, List.append_nil]
      refine Qa hP (Qcq (K := 20) (E := 1) bX bX (by omega) (by omega) (by omega) (by omega)) rfl rfl rfl ?_
      rw [decide_eq_true (p := X = X) rfl]
      simp +decide (disch := first | omega | rfl | (simp +decide only [go_sem, ↓reduceIte, Qd, List.contains_cons, List.contains_nil, List.flatMap_cons, List.flatMap_nil, List.append_nil] <;> rfl) | fail) only [go_sem, ↓reduceIte, Qd, List.contains_cons, List.contains_nil, List.flatMap_cons, List.flatMap_nil, List.append_nil]
      exact Qc rfl rfl
  · simp +decide (disch := first | omega | rfl | (simp +decide only [go_sem, ↓reduceIte] <;> rfl) | fail) only [go_sem, ↓reduceIte]
    refine Qa hP h3 rfl rfl rfl ?_
    simp +decide (disch := first | omega | rfl | (simp +decide only [go_sem, ↓reduceIte] <;> rfl) | fail) only [go_sem, ↓reduceIte]
    rw [Qqq (p := PV.rat c3) (m := 1) (β := 31) (e := 1) (ty := 3) (fz := false) (xs := Qd4 [1]) rfl (by simp +decide (disch := first | omega | rfl | (simp +decide only [go_sem, ↓reduceIte] <;> rfl) | fail) only [go_sem, ↓reduceIte] <;> rfl) rfl]
    simp +decide (disch := first | omega | rfl | (simp +decide only [go_sem, ↓reduceIte] <;> rfl) | fail) only [go_sem, ↓reduceIte]
    refine Qa hP hm2 rfl rfl rfl ?_
    simp +decide (disch := first | omega | rfl | (simp +decide only [go_sem, ↓reduceIte] <;> rfl) | fail) only [go_sem, ↓reduceIte]
    refine Qbg hP hnorm (by simp +decide (disch := first | omega | rfl | (simp +decide only [go_sem, ↓reduceIte, Qd, List.contains_cons, List.contains_nil, List.flatMap_cons, List.flatMap_nil, List.append_nil] <;> rfl) | fail) only [go_sem, ↓reduceIte, Qd, List.contains_cons, List.contains_nil, List.flatMap_cons, List.flatMap_nil, List.append_nil] <;> rfl) rfl ?_
    simp +decide (disch := first | omega | rfl | (simp +decide only [go_sem, ↓reduceIte, Qd, List.contains_cons, List.contains_nil, List.flatMap_cons, List.flatMap_nil, List.append_nil] <;> rfl) | fail) only [go_sem, ↓reduceIte, Qd, List.contains_cons, List.contains_nil, List.flatMap_cons, List.flatMap_nil, List.append_nil]
    refine Qa hP (Qcq (K := 5) (E := 1) bN bN (by omega) (by omega) (by simp) (by simp)) rfl rfl rfl ?_
    rw [decide_eq_true (p := [(c3, ([1] : List Int)), (cm2, [])] = [(c3, [1]), (cm2, [])]) rfl]
    simp +decide (disch := first | omega | rfl | (simp +decide only [go_sem, ↓reduceIte, Qd, List.contains_cons, List.contains_nil, List.flatMap_cons, List.flatMap_nil, List.append_nil] <;> rfl) | fail) only [go_sem, ↓reduceIte, Qd, List.contains_cons, List.contains_nil, List.flatMap_cons, List.flatMap_nil, List.append_nil]
    refine Qa hP hm6 rfl rfl rfl ?_
    simp +decide (disch := first | omega | rfl | (simp +decide only [go_sem, ↓reduceIte, Qd, List.contains_cons, List.contains_nil, List.flatMap_cons, List.flatMap_nil, List.append_nil] <;> rfl) | fail) only [go_sem, ↓reduceIte, Qd, List.contains_cons, List.contains_nil, List.flatMap_cons, List.flatMap_nil, List.append_nil]
    refine Qa hP (Ql4 (a := cm6) (b := cm6) (k := 5) r6 r6 (by omega)) rfl rfl rfl ?_
    rw [decide_eq_true (p := cm6 = cm6) rfl]
    simp +decide (disch := first | omega | rfl | (simp +decide only [go_sem, ↓reduceIte, Qd, List.contains_cons, List.contains_nil, List.flatMap_cons, List.flatMap_nil, List.append_nil] <;> rfl) | fail) only [go_sem, ↓reduceIte, Qd, List.contains_cons, List.contains_nil, List.flatMap_cons, List.flatMap_nil, List.append_nil]
    refine Qa hP hw0 rfl rfl rfl ?_
    simp +decide (disch := first | omega | rfl | (simp +decide only [go_sem, ↓reduceIte, Qd, List.contains_cons, List.contains_nil, List.flatMap_cons, List.flatMap_nil, List.append_nil] <;> rfl) | fail) only [go_sem, ↓reduceIte, Qd, List.contains_cons, List.contains_nil, List.flatMap_cons, List.flatMap_nil, List.append_nil]
    refine Qa hP hw1 rfl rfl rfl ?_
    simp +decide (disch := first | omega | rfl | (simp +decide only [go_sem, ↓reduceIte, Qd, List.contains_cons, List.contains_nil, List.flatMap_cons, List.flatMap_nil, List.append_nil] <;> rfl) | fail) only [go_sem, ↓reduceIte, Qd, List.contains_cons, List.contains_nil, List.flatMap_cons, List.flatMap_nil, List.append_nil]
    refine Qa hP (Qex (K := 4) (E := 1) b0 b1 (by omega) (by omega) (by omega) (by omega)) rfl rfl rfl ?_
    rw [hXX]
    simp +decide (disch := first | omega | rfl | (simp +decide only [go_sem, ↓reduceIte, Qd, List.contains_cons, List.contains_nil, List.flatMap_cons, List.flatMap_nil, List.append_nil] <;> rfl) | fail) only [go_sem, ↓reduceIte, Qd, List.contains_cons, List.contains_nil, List.flatMap_cons, List.flatMap_nil, List.append_nil]
    refine Qa hP (Qcq (K := 20) (E := 1) bX bX (by omega) (by omega) (by omega) (by omega)) rfl rfl rfl ?_
    rw [decide_eq_true (p := X = X) rfl]
    simp +decide (disch := first | omega | rfl | (simp +decide only [go_sem, ↓reduceIte, Qd, List.contains_cons, List.contains_nil, List.flatMap_cons, List.flatMap_nil, List.append_nil] <;> rfl) | fail) only [go_sem, ↓reduceIte, Qd, List.contains_cons, List.contains_nil, List.flatMap_cons, List.flatMap_nil, List.append_nil]
    exact Qc rfl rfl
end Go.Proofs.YtjkbalanglgoiaaGreat
namespace Go.Proofs.YtjkbalanglgoiaaGreat
open Go Go.FW
set_option linter.unusedSimpArgs false
set_option linter.unusedVariables false
set_option maxRecDepth 100000
end Go.Proofs.YtjkbalanglgoiaaGreat
namespace Go.FW
open Go
theorem Q1q {q r g : List Tm} {v n d K E Kg Eg M : Nat} (hq : PB K E q) (hr : PB K E r) (hg : PB Kg Eg g) (hM : g.length ≤ M) (hv : v < 64) (hn : n ≤ E) (hE : Eg ≤ E) :
    PB (M * (Kg + K) + (K + 2)) (E + E) (dvQ q r g v n d) ∧ PB (M * (Kg + K) + (M * (K + 2 + Kg) + 2)) (E + E + E) (dvR r g v n d) ∧
    (dvQ q r g v n d).length ≤ M * q.length + r.length ∧ (dvR r g v n d).length ≤ M * r.length + r.length * M := by
  have hcl : (Qae g v d).length ≤ M := Nat.le_trans (Qbu _ _ _) hM
  have hcb := Qel hg v (d : Int)
  obtain ⟨b1, b2⟩ := Qmd (n := n - d) (Qel hr v (n : Int)) hv
  have b2' : (dvB r v n d).length ≤ r.length := Nat.le_trans b2 (Qbu _ _ _)
  have b1' : PB (K + 2) (E + E) (dvB r v n d) := b1.mono (Nat.le_refl _) (by omega)
  obtain ⟨m1, m2⟩ := Qdo hcb hq
  obtain ⟨m3, m4⟩ := Qdo hcb hr
  obtain ⟨m5, m6⟩ := Qdo b1' hg
  have e1 := Nat.mul_le_mul_right (Kg + K) (show min (Qae g v d).length q.length ≤ M by omega)
  have e2 := Nat.mul_le_mul_right (Kg + K) (show min (Qae g v d).length r.length ≤ M by omega)
  have e3 := Nat.mul_le_mul_right (K + 2 + Kg) (show min (dvB r v n d).length g.length ≤ M by omega)
  have e4 := Nat.mul_le_mul_right q.length hcl
  have e5 := Nat.mul_le_mul_right r.length hcl
  have e6 := Nat.mul_le_mul b2' hM
  have hneg : (Qiw (Qay (dvB r v n d) g)).length ≤ (Qay (dvB r v n d) g).length := Qdj _ _
  refine ⟨Qf3 _ _ (m1.mono e1 (by omega)) b1', Qf3 _ _ (m3.mono e2 (by omega)) (Qkq (m5.mono e3 (by omega))), Nat.le_trans (Qc7 _ _) (by omega), Nat.le_trans (Qc7 _ _) (by omega)⟩
def dK : Nat → Nat
  | 0 => 5
  | k + 1 => 10 * dK k + 62
def dE : Nat → Nat
  | 0 => 4
  | k + 1 => 3 * dE k
def dL : Nat → Nat
  | 0 => 5
  | k + 1 => 10 * dL k
theorem Ql7 {f g : List Tm} {v d : Nat} (bf : PB 5 4 f) (bg : PB 5 4 g) (lf : f.length ≤ 5) (lg : g.length ≤ 5) (hv : v < 64) : ∀ k,
    4 ≤ dE k ∧ PB (dK k) (dE k) (dvS g v d f k).1 ∧ PB (dK k) (dE k) (dvS g v d f k).2 ∧ (dvS g v d f k).1.length ≤ dL k ∧ (dvS g v d f k).2.length ≤ dL k
  | 0 => ⟨Nat.le_refl _, PB.nil _ _, bf, by simp [dvS], lf⟩
  | k + 1 => by
    obtain ⟨h0, h1, h2, h3, h4⟩ := Ql7 (d := d) bf bg lf lg hv k
    have hn : (Qaj (dvS g v d f k).2 v).toNat ≤ dE k := by
      obtain ⟨_, _, h | ⟨t, ht, e⟩⟩ := Qhw (dvS g v d f k).2 v
      · omega
      · have := (h2 t ht).m.eN v; omega
    obtain ⟨c1, c2, c3, c4⟩ := Q1q (d := d) h1 h2 bg lg hv hn h0
    refine ⟨by rw [dE]; omega, c1.mono ?_ ?_, c2.mono ?_ ?_, Nat.le_trans c3 ?_, Nat.le_trans c4 ?_⟩ <;> simp only [dK, dE, dL] <;> omega
theorem d5 {k : Nat} (h : k ≤ 5) : dK k ≤ 1188882 ∧ dE k ≤ 972 ∧ dL k ≤ 500000 ∧ (k < 5 → dK k ≤ 118882) := by
  have : k = 0 ∨ k = 1 ∨ k = 2 ∨ k = 3 ∨ k = 4 ∨ k = 5 := by omega
  rcases this with rfl | rfl | rfl | rfl | rfl | rfl <;> decide
theorem Qsu {g : List Tm} {v d : Nat} {f : List Tm} : ∀ (fuel k : Nat),
    Qcy g v d fuel (dvS g v d f k).1 (dvS g v d f k).2 k = .tup [PV.poly [], PV.poly [], .int .i64 0, .int .i64 4] ∨
    ∃ j, k ≤ j ∧ j ≤ k + fuel ∧ (j < k + fuel → (dvS g v d f j).2 = [] ∨ Qaj (dvS g v d f j).2 v < d) ∧
      Qcy g v d fuel (dvS g v d f k).1 (dvS g v d f k).2 k = .tup [PV.poly (dvS g v d f j).1, PV.poly (dvS g v d f j).2, .int .i64 j, .int .i64 0]
  | 0, k => .inr ⟨k, Nat.le_refl _, by omega, fun h => by omega, rfl⟩
  | fuel + 1, k => by
    by_cases h : (dvS g v d f k).2 = [] ∨ Qaj (dvS g v d f k).2 v < d
    · exact .inr ⟨k, Nat.le_refl _, by omega, fun _ => h, Qgl h _⟩
    · by_cases h2 : Qa2 (dvQ (dvS g v d f k).1 (dvS g v d f k).2 g v (Qaj (dvS g v d f k).2 v).toNat d) = true ∨ Qa2 (dvR (dvS g v d f k).2 g v (Qaj (dvS g v d f k).2 v).toNat d) = true
      · exact .inl (Qj7 h h2)
      · rw [Ql2 h h2]
        rcases Qsu (g := g) (v := v) (d := d) (f := f) fuel (k + 1) with e | ⟨j, j1, j2, j3, e⟩
        · exact .inl e
        · exact .inr ⟨j, by omega, by omega, fun h => j3 (by omega), e⟩
end Go.FW
