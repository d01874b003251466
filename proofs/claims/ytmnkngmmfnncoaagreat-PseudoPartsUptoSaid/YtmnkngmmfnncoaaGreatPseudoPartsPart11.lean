/- Part 11 of the proof of PseudoParts: W9, W10, FwUI, FwUJ. Own lemmas; no conditions. -/
import Derived.Test.YtmnkngmmfnncoaaGreatPseudoPartsPart10
set_option linter.unusedSimpArgs false
set_option linter.unnecessarySimpa false
set_option linter.unusedVariables false
namespace Go.Proofs.YtmnkngmmfnncoaaGreat
open Go Go.FW
set_option linter.unusedSimpArgs false
set_option linter.unusedVariables false
set_option maxRecDepth 100000
theorem Q6u (v : Nat) : Qjx v = Qf7 v 1 := rfl
theorem Qoj {v : Nat} (hv : v < 64) : Qe Tryz.prog 127 [.int .i64 v] (· = PV.poly (Qa0 v)) := by
  have hset : (List.replicate (v + 1) (0 : Int)).set v 1 = Qf7 v 1 := Q5x v 1 rfl
  have hlr : v < (List.replicate (v + 1) (0 : Int)).length := by simp
  have hone := Q3b
  have hxl : (Qf7 v 1).length = v + 1 := by simp [Qf7]
  have hadd := (Qoh (p := []) (m := Qf7 v 1) (K := 1) (E := 1) (k := 4) (PB.nil _ _) trivial (by simp [NZ]) (Qcd (q := ((1 : Int) : Rat)) (k := 4) (by rw [show ((1 : Int) : Rat) = 1 from rfl]; omega)) (by omega) (Qaac hv) (Q02 (by omega)) (by omega) (by omega) (by simp)).le (args' := [.nilS, PV.rat ((1 : Int) : Rat), PV.mono (Qf7 v 1)]) ⟨trivial, Q3 _, Q3 _, trivial⟩
  rw [Qcq] at hadd
  have e : Qdb [] ((1 : Int) : Rat) (Qf7 v 1) = Qa0 v := by
    rw [Qdb, Qfo, if_neg (by decide), Qa0, if_neg (by omega), Int.toNat_natCast, Q6u]; rfl
  rw [e] at hadd
  refine Qf Qk Tryz.func127 rfl Qaab (by simp [Q5p]) fun C hP => ?_; simp only [Q5p]
  simp +decide (disch := first | omega | rfl | (simp +decide only [go_sem, ↓reduceIte] <;> rfl) | fail) only [go_sem, ↓reduceIte]
  refine Qad (fun h => by omega) (fun _ => ?_)
  simp +decide (disch := first | omega | rfl | (simp +decide only [go_sem, ↓reduceIte] <;> rfl) | fail) only [go_sem, ↓reduceIte]
  refine Qb (fun h => by omega) (fun _ => ?_)
  simp +decide (disch := first | omega | rfl | (simp +decide only [go_sem, ↓reduceIte, hset] <;> rfl) | fail) only [go_sem, ↓reduceIte, hset]
  refine Qa hP (Qh1 (x := 1) (by omega) (by omega)) rfl rfl rfl ?_
  generalize ((1 : Int) : Rat) = c at *
  simp +decide (disch := first | omega | rfl | (simp +decide only [go_sem, ↓reduceIte] <;> rfl) | fail) only [go_sem, ↓reduceIte]
  refine Qbr hP hadd (by simp +decide (disch := first | omega | rfl | (simp +decide only [go_sem, ↓reduceIte, Qg, List.contains_cons, List.contains_nil, List.flatMap_cons, List.flatMap_nil, List.append_nil] <;> rfl) | fail) only [go_sem, ↓reduceIte, Qg, List.contains_cons, List.contains_nil, List.flatMap_cons, List.flatMap_nil, List.append_nil]; simp [List.take_of_length_le, hxl]) rfl ?_
  simp +decide (disch := first | omega | rfl | (simp +decide only [go_sem, ↓reduceIte] <;> rfl) | fail) only [go_sem, ↓reduceIte]
  exact Qc rfl rfl
theorem al1 : Q4 (Qcp (Qa0 0) (((-1 : Int) : Rat) / ((2 : Int) : Rat))) (Qmo (((1 : Int) : Rat) / ((3 : Int) : Rat))) = [(mkRat (-1) 2, [1]), (mkRat 1 3, [])] := by decide +kernel
theorem al2 : Qm2 [(mkRat (-1) 2, [1]), (mkRat 1 3, [])] = ((-6 : Int) : Rat) := by decide +kernel
theorem al3 : Qcp [(mkRat (-1) 2, [1]), (mkRat 1 3, [])] ((-6 : Int) : Rat) = [(((3 : Int) : Rat), [1]), (((-2 : Int) : Rat), [])] := by decide +kernel
theorem al4 : Qiq (Qco (Qa0 0) (Qa0 0)) (Qco (Qa0 1) (Qa0 1)) = [(-1, [0, 2]), (1, [2])] := by decide +kernel
theorem al5 : Qiq (Qa0 0) (Qa0 1) = [(-1, [0, 1]), (1, [1])] := by decide +kernel
theorem al6 : exP [(-1, [0, 1]), (1, [1])] [(-1, [0, 2]), (1, [2])] 2 = [] := by decide +kernel
theorem al7 : exQ [(-1, [0, 1]), (1, [1])] [(-1, [0, 2]), (1, [2])] 2 = Q4 (Qa0 0) (Qa0 1) := by decide +kernel
theorem al8 : Q4 (Qa0 0) (Qa0 1) = [(1, [0, 1]), (1, [1])] := by decide +kernel
theorem Qu6 : Qe Tryz.prog 67 [PV.poly [(-1, [0, 2]), (1, [2])], PV.poly [(-1, [0, 1]), (1, [1])]] (· = .tup [PV.poly (Q4 (Qa0 0) (Qa0 1)), .bool true]) := by
  have h := Qsv (p := [(-1, [0, 2]), (1, [2])]) (q := [(-1, [0, 1]), (1, [1])]) (K := 5) (E := 2) (L := 2) (k0 := 2) (Qqo (by decide +kernel)) (Qqo (by decide +kernel)) (Qh3 (by decide +kernel)) (by simp) (by simp) (fun k hk => by
    have : k = 0 ∨ k = 1 ∨ k = 2 := by omega
    rcases this with rfl | rfl | rfl <;> exact ⟨Qh3 (by decide +kernel), by decide +kernel⟩) (fun k hk => by
    have : k = 0 ∨ k = 1 := by omega
    rcases this with rfl | rfl <;> exact ⟨by decide +kernel, by decide +kernel⟩) (fun h => h.1 al6) (by omega) (by omega) (by omega) (by omega) (by omega)
  rwa [exR, if_pos al6, al7] at h
theorem Qok : Qe Tryz.prog 53 [] (· = .bool true) := by
  have b0 := Qww 0
  have b1 := Qww 1
  have l0 := Qiw 0
  have l1 := Qiw 1
  have hA := al1
  have hS1 := Qry (L := 5) b0 (a := ((-1 : Int) : Rat) / ((2 : Int) : Rat)) (by decide +kernel)
  have hS2 := Qly (Qa0 0) (((-1 : Int) : Rat) / ((2 : Int) : Rat))
  have hC1 : PB 9 1 (Qmo (((1 : Int) : Rat) / ((3 : Int) : Rat))) := Qh3 (by decide +kernel)
  have hC2 : (Qmo (((1 : Int) : Rat) / ((3 : Int) : Rat))).length ≤ 1 := by decide +kernel
  have hr1 : rs (((-1 : Int) : Rat) / ((2 : Int) : Rat)) + 1 ≤ 5 := by decide +kernel
  have hr2 : rs (((1 : Int) : Rat) / ((3 : Int) : Rat)) ≤ 5 := by decide +kernel
  have hf1 := Qmz (x := -1) (y := 2) (by omega) (by omega) (by omega)
  have hf2 := Qmz (x := 1) (y := 3) (by omega) (by omega) (by omega)
  have hprim := Qnu (p := [(mkRat (-1) 2, [1]), (mkRat 1 3, [])]) (K := 5) (E := 1) (Qh3 (by decide +kernel)) (Qqo (by decide +kernel)) (by simp) (by simp) (by simp) (by omega)
  rw [al2, al3] at hprim
  have hx := Qu6
  rw [← al5, ← al4] at hx
  have hadd := al8
  have ls : (Qiq (Qa0 0) (Qa0 1)).length ≤ 2 := by decide +kernel
  have bs : PB 20 1 (Qiq (Qa0 0) (Qa0 1)) := Qh3 (by decide +kernel)
  have bm0 : PB 20 2 (Qco (Qa0 0) (Qa0 0)) := Qh3 (by decide +kernel)
  have bm1 : PB 20 2 (Qco (Qa0 1) (Qa0 1)) := Qh3 (by decide +kernel)
  have lm0 : (Qco (Qa0 0) (Qa0 0)).length ≤ 2 := by decide +kernel
  have lm1 : (Qco (Qa0 1) (Qa0 1)).length ≤ 2 := by decide +kernel
  have bX : PB 20 1 (Q4 (Qa0 0) (Qa0 1)) := Qh3 (by decide +kernel)
  have lX : (Q4 (Qa0 0) (Qa0 1)).length ≤ 2 := by decide +kernel
  have bN : PB 5 1 [(((3 : Int) : Rat), [1]), (((-2 : Int) : Rat), ([] : List Int))] := Qh3 (by decide +kernel)
  have nN : Nrm [(((3 : Int) : Rat), [1]), (((-2 : Int) : Rat), ([] : List Int))] := Qqo (by decide +kernel)
  have h3 := Qh1 (x := 3) (by omega) (by omega)
  have hm2 := Qh1 (x := -2) (by omega) (by omega)
  have hm6 := Qh1 (x := -6) (by omega) (by omega)
  have r6 : rs ((-6 : Int) : Rat) ≤ 5 := by decide +kernel
  have hmul : ∀ v : Int, min (Qa0 v).length (Qa0 v).length * (4 + 4) ≤ 1 * 8 := fun v => Nat.mul_le_mul_right _ (by have := Qiw v; omega)
  have hmll : ∀ v : Int, (Qa0 v).length * (Qa0 v).length ≤ 1 * 1 := fun v => Nat.mul_le_mul (Qiw v) (Qiw v)
  generalize ((3 : Int) : Rat) = c3 at h3 hprim bN nN
  generalize ((-2 : Int) : Rat) = cm2 at hm2 hprim bN nN
  generalize ((-6 : Int) : Rat) = cm6 at hm6 hprim r6
  have hnorm := (Qql bN nN (by omega) (by omega) (by simp)).slLe (xs := [PV.term (c3, [1]), .agg [.bool (decide (cm2.num < 0)), PV.num cm2.num.natAbs, PV.num cm2.den, .nilS]]) ⟨Q3 _, ⟨Qd7 _, Qd7 _, Qd7 _, trivial, trivial⟩, trivial⟩
  have hv0 := Qqa (v := 0) (by omega) (by omega)
  have hv1 := Qqa (v := 1) (by omega) (by omega)
  have hw0 := Qoj (v := 0) (by omega)
  have hw1 := Qoj (v := 1) (by omega)
  have hq1 := hmul 0
  have hq2 := hmul 1
  have hq3 := hmll 0
  have hq4 := hmll 1
  refine Qf Qk Tryz.func53 rfl Qadm (by simp [c53]) fun C hP => ?_; simp only [c53]
  simp +decide (disch := first | omega | rfl | (simp +decide only [go_sem, ↓reduceIte] <;> rfl) | fail) only [go_sem, ↓reduceIte]
  refine Qa hP hv0 rfl rfl rfl ?_
  simp +decide (disch := first | omega | rfl | (simp +decide only [go_sem, ↓reduceIte] <;> rfl) | fail) only [go_sem, ↓reduceIte]
  refine Qa hP hf1 rfl rfl rfl ?_
  generalize ((-1 : Int) : Rat) / ((2 : Int) : Rat) = f1 at *
  simp +decide (disch := first | omega | rfl | (simp +decide only [go_sem, ↓reduceIte] <;> rfl) | fail) only [go_sem, ↓reduceIte]
  refine Qa hP (Qiu (K := 5) (E := 1) (b0.mono (by omega) (by omega)) hr1 (by omega) (by omega) (by omega)) rfl rfl rfl ?_
  simp +decide (disch := first | omega | rfl | (simp +decide only [go_sem, ↓reduceIte] <;> rfl) | fail) only [go_sem, ↓reduceIte]
  refine Qa hP hf2 rfl rfl rfl ?_
  generalize ((1 : Int) : Rat) / ((3 : Int) : Rat) = f2 at *
  simp +decide (disch := first | omega | rfl | (simp +decide only [go_sem, ↓reduceIte] <;> rfl) | fail) only [go_sem, ↓reduceIte]
  refine Qa hP (Q0x hr2 (by omega)) rfl rfl rfl ?_
  simp +decide (disch := first | omega | rfl | (simp +decide only [go_sem, ↓reduceIte] <;> rfl) | fail) only [go_sem, ↓reduceIte]
  refine Qa hP (Qlm (K := 9) (E := 1) (hS1.mono (by omega) (by omega)) hC1 (by omega) (by omega) (by omega) (by omega)) rfl rfl rfl ?_
  rw [hA]
  simp +decide (disch := first | omega | rfl | (simp +decide only [go_sem, ↓reduceIte] <;> rfl) | fail) only [go_sem, ↓reduceIte]
  refine Qa hP hprim rfl rfl rfl ?_
  simp +decide (disch := first | omega | rfl | (simp +decide only [go_sem, ↓reduceIte] <;> rfl) | fail) only [go_sem, ↓reduceIte]
  refine Qa hP hv0 rfl rfl rfl ?_
  simp +decide (disch := first | omega | rfl | (simp +decide only [go_sem, ↓reduceIte] <;> rfl) | fail) only [go_sem, ↓reduceIte]
  refine Qa hP hv0 rfl rfl rfl ?_
  simp +decide (disch := first | omega | rfl | (simp +decide only [go_sem, ↓reduceIte] <;> rfl) | fail) only [go_sem, ↓reduceIte]
  refine Qa hP (Qhx b0 b0 (by omega) (by omega) (by omega) (by omega) (by omega) (by omega)) rfl rfl rfl ?_
  simp +decide (disch := first | omega | rfl | (simp +decide only [go_sem, ↓reduceIte] <;> rfl) | fail) only [go_sem, ↓reduceIte]
  refine Qa hP hv1 rfl rfl rfl ?_
  simp +decide (disch := first | omega | rfl | (simp +decide only [go_sem, ↓reduceIte] <;> rfl) | fail) only [go_sem, ↓reduceIte]
  refine Qa hP hv1 rfl rfl rfl ?_
  simp +decide (disch := first | omega | rfl | (simp +decide only [go_sem, ↓reduceIte] <;> rfl) | fail) only [go_sem, ↓reduceIte]
  refine Qa hP (Qhx b1 b1 (by omega) (by omega) (by omega) (by omega) (by omega) (by omega)) rfl rfl rfl ?_
  simp +decide (disch := first | omega | rfl | (simp +decide only [go_sem, ↓reduceIte] <;> rfl) | fail) only [go_sem, ↓reduceIte]
  refine Qa hP (Qhy bm0 bm1 (by omega) (by omega) (by omega) (by omega) (by omega)) rfl rfl rfl ?_
  simp +decide (disch := first | omega | rfl | (simp +decide only [go_sem, ↓reduceIte] <;> rfl) | fail) only [go_sem, ↓reduceIte]
  refine Qa hP hv0 rfl rfl rfl ?_
  simp +decide (disch := first | omega | rfl | (simp +decide only [go_sem, ↓reduceIte] <;> rfl) | fail) only [go_sem, ↓reduceIte]
  refine Qa hP hv1 rfl rfl rfl ?_
  simp +decide (disch := first | omega | rfl | (simp +decide only [go_sem, ↓reduceIte] <;> rfl) | fail) only [go_sem, ↓reduceIte]
  refine Qa hP (Qhy (K := 4) (E := 1) b0 b1 (by omega) (by omega) (by omega) (by omega) (by omega)) rfl rfl rfl ?_
  simp +decide (disch := first | omega | rfl | (simp +decide only [go_sem, ↓reduceIte] <;> rfl) | fail) only [go_sem, ↓reduceIte]
  refine Qa hP hx rfl rfl rfl ?_
  simp +decide (disch := first | omega | rfl | (simp +decide only [go_sem, ↓reduceIte] <;> rfl) | fail) only [go_sem, ↓reduceIte]
  generalize hXX : Q4 (Qa0 0) (Qa0 1) = X at *
  refine Qea ?_ ?_
  · simp +decide (disch := first | omega | rfl | (simp +decide only [go_sem, ↓reduceIte] <;> rfl) | fail) only [go_sem, ↓reduceIte]
    refine Qa hP h3 rfl rfl rfl ?_
    simp +decide (disch := first | omega | rfl | (simp +decide only [go_sem, ↓reduceIte] <;> rfl) | fail) only [go_sem, ↓reduceIte]
    refine Qea ?_ ?_
    · simp +decide (disch := first | omega | rfl | (simp +decide only [go_sem, ↓reduceIte] <;> rfl) | fail) only [go_sem, ↓reduceIte]
      rw [Qyb (p := PV.rat c3) (m := 1) (β := 31) (e := 1) (ty := 3) (fz := false) (xs := Qfj [1]) rfl (by simp +decide (disch := first | omega | rfl | (simp +decide only [go_sem, ↓reduceIte] <;> rfl) | fail) only [go_sem, ↓reduceIte] <;> rfl) rfl]
      simp +decide (disch := first | omega | rfl | (simp +decide only [go_sem, ↓reduceIte] <;> rfl) | fail) only [go_sem, ↓reduceIte]
      refine Qa hP hm2 rfl rfl rfl ?_
      simp +decide (disch := first | omega | rfl | (simp +decide only [go_sem, ↓reduceIte] <;> rfl) | fail) only [go_sem, ↓reduceIte]
      refine Qbr hP hnorm (by simp +decide (disch := first | omega | rfl | (simp +decide only [go_sem, ↓reduceIte, Qg, List.contains_cons, List.contains_nil, List.flatMap_cons, List.flatMap_nil, List.append_nil] <;> rfl) | fail) only [go_sem, ↓reduceIte, Qg, List.contains_cons, List.contains_nil, List.flatMap_cons, List.flatMap_nil, List.append_nil] <;> rfl) rfl ?_
      simp +decide (disch := first | omega | rfl | (simp +decide only [go_sem, ↓reduceIte, Qg, List.contains_cons, List.contains_nil, List.flatMap_cons, List.flatMap_nil, List.append_nil] <;> rfl) | fail) only [go_sem, ↓reduceIte, Qg, List.contains_cons, List.contains_nil, List.flatMap_cons, List.flatMap_nil, List.append_nil]
      refine Qa hP (Qcf (K := 5) (E := 1) bN bN (by omega) (by omega) (by simp) (by simp)) rfl rfl rfl ?_
      rw [decide_eq_true (p := [(c3, ([1] : List Int)), (cm2, [])] = [(c3, [1]), (cm2, [])]) rfl]
      simp +decide (disch := first | omega | rfl | (simp +decide only [go_sem, ↓reduceIte, Qg, List.contains_cons, List.contains_nil, List.flatMap_cons, List.flatMap_nil, List.append_nil] <;> rfl) | fail) only [go_sem, ↓reduceIte, Qg, List.contains_cons, List.contains_nil, List.flatMap_cons, List.flatMap_nil, List.append_nil]
      refine Qa hP hm6 rfl rfl rfl ?_
      simp +decide (disch := first | omega | rfl | (simp +decide only [go_sem, ↓reduceIte, Qg, List.contains_cons, List.contains_nil, List.flatMap_cons, List.flatMap_nil, List.append_nil] <;> rfl) | fail) only [go_sem, ↓reduceIte, Qg, List.contains_cons, List.contains_nil, List.flatMap_cons, List.flatMap_nil, List.append_nil]
      refine Qa hP (Qlu (a := cm6) (b := cm6) (k := 5) r6 r6 (by omega)) rfl rfl rfl ?_
      rw [decide_eq_true (p := cm6 = cm6) rfl]
      simp +decide (disch := first | omega | rfl | (simp +decide only [go_sem, ↓reduceIte, Qg, List.contains_cons, List.contains_nil, List.flatMap_cons, List.flatMap_nil, List.append_nil] <;> rfl) | fail) only [go_sem, ↓reduceIte, Qg, List.contains_cons, List.contains_nil, List.flatMap_cons, List.flatMap_nil, List.append_nil]
      refine Qa hP hw0 rfl rfl rfl ?_
      simp +decide (disch := first | omega | rfl | (simp +decide only [go_sem, ↓reduceIte, Qg, List.contains_cons, List.contains_nil, List.flatMap_cons, List.flatMap_nil, List.append_nil] <;> rfl) | fail) only [go_sem, ↓reduceIte, Qg, List.contains_cons, List.contains_nil, List.flatMap_cons, List.flatMap_nil, List.append_nil]
      refine Qa hP hw1 rfl rfl rfl ?_
      simp +decide (disch := first | omega | rfl | (simp +decide only [go_sem, ↓reduceIte, Qg, List.contains_cons, List.contains_nil, List.flatMap_cons, List.flatMap_nil, List.append_nil] <;> rfl) | fail) only [go_sem, ↓reduceIte, Qg, List.contains_cons, List.contains_nil, List.flatMap_cons, List.flatMap_nil, List.append_nil]
      refine Qa hP (Qj5 (K := 4) (E := 1) b0 b1 (by omega) (by omega) (by omega) (by omega)) rfl rfl rfl ?_
      rw [hXX]
      simp +decide (disch := first | omega | rfl | (simp +decide only [go_sem, ↓reduceIte, Qg, List.contains_cons, List.contains_nil, List.flatMap_cons, List.flatMap_nil, List.append_nil] <;> rfl) | fail) only [go_sem, ↓reduceIte, Qg, List.contains_cons, List.contains_nil, List.flatMap_cons, List.flatMap_nil, List.append_nil]
      refine Qa hP (Qcf (K := 20) (E := 1) bX bX (by omega) (by omega) (by omega) (by omega)) rfl rfl rfl ?_
      rw [decide_eq_true (p := X = X) rfl]
      simp +decide (disch := first | omega | rfl | (simp +decide only [go_sem, ↓reduceIte, Qg, List.contains_cons, List.contains_nil, List.flatMap_cons, List.flatMap_nil, List.append_nil] <;> rfl) | fail) only [go_sem, ↓reduceIte, Qg, List.contains_cons, List.contains_nil, List.flatMap_cons, List.flatMap_nil, List.append_nil]
      exact Qc rfl rfl
    · simp +decide (disch := first | omega | rfl | (simp +decide only [go_sem, ↓reduceIte] <;> rfl) | fail) only [go_sem, ↓reduceIte]
      refine Qa hP hm2 rfl rfl rfl ?_
      simp +decide (disch := first | omega | rfl | (simp +decide only [go_sem, ↓reduceIte] <;> rfl) | fail) only [go_sem, ↓reduceIte]
      rw [Qyb (p := PV.rat c3) (m := 1) (β := 31) (e := 1) (ty := 3) (fz := false) (xs := Qfj [1]) rfl (by simp +decide (disch := first | omega | rfl | (simp +decide only [go_sem, ↓reduceIte] <;> rfl) | fail) only [go_sem, ↓reduceIte] <;> rfl) rfl]
      simp +decide (disch := first | omega | rfl | (simp +decide only [go_sem, ↓reduceIte] <;> rfl) | fail) only [go_sem, ↓reduceIte]
      refine Qbr hP hnorm (by simp +decide (disch := first | omega | rfl | (simp +decide only [go_sem, ↓reduceIte, Qg, List.contains_cons, List.contains_nil, List.flatMap_cons, List.flatMap_nil, List.append_nil] <;> rfl) | fail) only [go_sem, ↓reduceIte, Qg, List.contains_cons, List.contains_nil, List.flatMap_cons, List.flatMap_nil, List.append_nil] <;> rfl) rfl ?_
      simp +decide (disch := first | omega | rfl | (simp +decide only [go_sem, ↓reduceIte, Qg, List.contains_cons, List.contains_nil, List.flatMap_cons, List.flatMap_nil, List.append_nil] <;> rfl) | fail) only [go_sem, ↓reduceIte, Qg, List.contains_cons, List.contains_nil, List.flatMap_cons, List.flatMap_nil, List.append_nil]
      refine Qa hP (Qcf (K := 5) (E := 1) bN bN (by omega) (by omega) (by simp) (by simp)) rfl rfl rfl ?_
      rw [decide_eq_true (p := [(c3, ([1] : List Int)), (cm2, [])] = [(c3, [1]), (cm2, [])]) rfl]
      simp +decide (disch := first | omega | rfl | (simp +decide only [go_sem, ↓reduceIte, Qg, List.contains_cons, List.contains_nil, List.flatMap_cons, List.flatMap_nil, List.append_nil] <;> rfl) | fail) only [go_sem, ↓reduceIte, Qg, List.contains_cons, List.contains_nil, List.flatMap_cons, List.flatMap_nil, List.append_nil]
      refine Qa hP hm6 rfl rfl rfl ?_
      simp +decide (disch := first | omega | rfl | (simp +decide only [go_sem, ↓reduceIte, Qg, List.contains_cons, List.contains_nil, List.flatMap_cons, List.flatMap_nil, List.append_nil] <;> rfl) | fail) only [go_sem, ↓reduceIte, Qg, List.contains_cons, List.contains_nil, List.flatMap_cons, List.flatMap_nil, List.append_nil]
      refine Qa hP (Qlu (a := cm6) (b := cm6) (k := 5) r6 r6 (by omega)) rfl rfl rfl ?_
      rw [decide_eq_true (p := cm6 = cm6) rfl]
      simp +decide (disch := first | omega | rfl | (simp +decide only [go_sem, ↓reduceIte, Qg, List.contains_cons, List.contains_nil, List.flatMap_cons, List.flatMap_nil, List.append_nil] <;> rfl) | fail) only [go_sem, ↓reduceIte, Qg, List.contains_cons, List.contains_nil, List.flatMap_cons, List.flatMap_nil, List.append_nil]
      refine Qa hP hw0 rfl rfl rfl ?_
      simp +decide (disch := first | omega | rfl | (simp +decide only [go_sem, ↓reduceIte, Qg, List.contains_cons, List.contains_nil, List.flatMap_cons, List.flatMap_nil, List.append_nil] <;> rfl) | fail) only [go_sem, ↓reduceIte, Qg, List.contains_cons, List.contains_nil, List.flatMap_cons, List.flatMap_nil, List.append_nil]
      refine Qa hP hw1 rfl rfl rfl ?_
      simp +decide (disch := first | omega | rfl | (simp +decide only [go_sem, ↓reduceIte, Qg, List.contains_cons, List.contains_nil, List.flatMap_cons, List.flatMap_nil, List.append_nil] <;> rfl) | fail) only [go_sem, ↓reduceIte, Qg, List.contains_cons, List.contains_nil, List.flatMap_cons, List.flatMap_nil, List.append_nil]
      refine Qa hP (Qj5 (K := 4) (E := 1) b0 b1 (by omega) (by omega) (by omega) (by omega)) rfl rfl rfl ?_
      rw [hXX]
      simp +decide (disch := first | omega | rfl | (simp +decide only [go_sem, ↓reduceIte, Qg, List.contains_cons, List.contains_nil, List.flatMap_cons, List.flatMap_nil, List.append_nil] <;> rfl) | fail) only [go_sem, ↓reduceIte, Qg, List.contains_cons, List.contains_nil, List.flatMap_cons, List.flatMap_nil, List.append_nil]
      refine Qa hP (Qcf (K := 20) (E := 1) bX bX (by omega) (by omega) (by omega) (by omega)) rfl rfl rfl ?_
      rw [decide_eq_true (p := X = X) rfl]
      simp +decide (disch := first | omega | rfl | (simp +decide only [go_sem, ↓reduceIte, Qg, List.contains_cons, List.contains_nil, List.flatMap_cons, List.flatMap_nil, List.append_nil] <;> rfl) | fail) only [go_sem, ↓reduceIte, Qg, List.contains_cons, List.contains_nil, List.flatMap_cons, List.flatMap_nil, List.append_nil]
      exact Qc rfl rfl
  · simp +decide (disch := first | omega | rfl | (simp +decide only [go_sem, ↓reduceIte] <;> rfl) | fail) only [go_sem, ↓reduceIte]
    refine Qa hP h3 rfl rfl rfl ?_
    simp +decide (disch := first | omega | rfl | (simp +decide only [go_sem, ↓reduceIte] <;> rfl) | fail) only [go_sem, ↓reduceIte]
    rw [Qyb (p := PV.rat c3) (m := 1) (β := 31) (e := 1) (ty := 3) (fz := false) (xs := Qfj [1]) rfl (by simp +decide (disch := first | omega | rfl | (simp +decide only [go_sem, ↓reduceIte] <;> rfl) | fail) only [go_sem, ↓reduceIte] <;> rfl) rfl]
    simp +decide (disch := first | omega | rfl | (simp +decide only [go_sem, ↓reduceIte] <;> rfl) | fail) only [go_sem, ↓reduceIte]
    refine Qa hP hm2 rfl rfl rfl ?_
    simp +decide (disch := first | omega | rfl | (simp +decide only [go_sem, ↓reduceIte] <;> rfl) | fail) only [go_sem, ↓reduceIte]
    refine Qbr hP hnorm (by simp +decide (disch := first | omega | rfl | (simp +decide only [go_sem, ↓reduceIte, Qg, List.contains_cons, List.contains_nil, List.flatMap_cons, List.flatMap_nil, List.append_nil] <;> rfl) | fail) only [go_sem, ↓reduceIte, Qg, List.contains_cons, List.contains_nil, List.flatMap_cons, List.flatMap_nil, List.append_nil] <;> rfl) rfl ?_
    simp +decide (disch := first | omega | rfl | (simp +decide only [go_sem, ↓reduceIte, Qg, List.contains_cons, List.contains_nil, List.flatMap_cons, List.flatMap_nil, List.append_nil] <;> rfl) | fail) only [go_sem, ↓reduceIte, Qg, List.contains_cons, List.contains_nil, List.flatMap_cons, List.flatMap_nil, List.append_nil]
    refine Qa hP (Qcf (K := 5) (E := 1) bN bN (by omega) (by omega) (by simp) (by simp)) rfl rfl rfl ?_
    rw [decide_eq_true (p := [(c3, ([1] : List Int)), (cm2, [])] = [(c3, [1]), (cm2, [])]) rfl]
    simp +decide (disch := first | omega | rfl | (simp +decide only [go_sem, ↓reduceIte, Qg, List.contains_cons, List.contains_nil, List.flatMap_cons, List.flatMap_nil, List.append_nil] <;> rfl) | fail) only [go_sem, ↓reduceIte, Qg, List.contains_cons, List.contains_nil, List.flatMap_cons, List.flatMap_nil, List.append_nil]
    refine Qa hP hm6 rfl rfl rfl ?_
    simp +decide (disch := first | omega | rfl | (simp +decide only [go_sem, ↓reduceIte, Qg, List.contains_cons, List.contains_nil, List.flatMap_cons, List.flatMap_nil, List.append_nil] <;> rfl) | fail) only [go_sem, ↓reduceIte, Qg, List.contains_cons, List.contains_nil, List.flatMap_cons, List.flatMap_nil, List.append_nil]
    refine Qa hP (Qlu (a := cm6) (b := cm6) (k := 5) r6 r6 (by omega)) rfl rfl rfl ?_
    rw [decide_eq_true (p := cm6 = cm6) rfl]
    simp +decide (disch := first | omega | rfl | (simp +decide only [go_sem, ↓reduceIte, Qg, List.contains_cons, List.contains_nil, List.flatMap_cons, List.flatMap_nil, List.append_nil] <;> rfl) | fail) only [go_sem, ↓reduceIte, Qg, List.contains_cons, List.contains_nil, List.flatMap_cons, List.flatMap_nil, List.append_nil]
    refine Qa hP hw0 rfl rfl rfl ?_
    simp +decide (disch := first | omega | rfl | (simp +decide only [go_sem, ↓reduceIte, Qg, List.contains_cons, List.contains_nil, List.flatMap_cons, List.flatMap_nil, List.append_nil] <;> rfl) | fail) only [go_sem, ↓reduceIte, Qg, List.contains_cons, List.contains_nil, List.flatMap_cons, List.flatMap_nil, List.append_nil]
    refine Qa hP hw1 rfl rfl rfl ?_
    simp +decide (disch := first | omega | rfl | (simp +decide only [go_sem, ↓reduceIte, Qg, List.contains_cons, List.contains_nil, List.flatMap_cons, List.flatMap_nil, List.append_nil] <;> rfl) | fail) only [go_sem, ↓reduceIte, Qg, List.contains_cons, List.contains_nil, List.flatMap_cons, List.flatMap_nil, List.append_nil]
    refine Qa hP (Qj5 (K := 4) (E := 1) b0 b1 (by omega) (by omega) (by omega) (by omega)) rfl rfl rfl ?_
    rw [hXX]
    simp +decide (disch := first | omega | rfl | (simp +decide only [go_sem, ↓reduceIte, Qg, List.contains_cons, List.contains_nil, List.flatMap_cons, List.flatMap_nil, List.append_nil] <;> rfl) | fail) only [go_sem, ↓reduceIte, Qg, List.contains_cons, List.contains_nil, List.flatMap_cons, List.flatMap_nil, List.append_nil]
    refine Qa hP (Qcf (K := 20) (E := 1) bX bX (by omega) (by omega) (by omega) (by omega)) rfl rfl rfl ?_
    rw [decide_eq_true (p := X = X) rfl]
    simp +decide (disch := first | omega | rfl | (simp +decide only [go_sem, ↓reduceIte, Qg, List.contains_cons, List.contains_nil, List.flatMap_cons, List.flatMap_nil, List.append_nil] <;> rfl) | fail) only [go_sem, ↓reduceIte, Qg, List.contains_cons, List.contains_nil, List.flatMap_cons, List.flatMap_nil, List.append_nil]
    exact Qc rfl rfl
end Go.Proofs.YtmnkngmmfnncoaaGreat
namespace Go.Proofs.YtmnkngmmfnncoaaGreat
open Go Go.FW
set_option linter.unusedSimpArgs false
set_option linter.unusedVariables false
set_option maxRecDepth 100000
end Go.Proofs.YtmnkngmmfnncoaaGreat
namespace Go.FW
open Go
end Go.FW
namespace Go.FW
open Go
def c4 (m : List Int) : Nat := (((eN m 3).toNat * 81 + (eN m 2).toNat) * 729 + (eN m 1).toNat) * 6561 + (eN m 0).toNat
end Go.FW
