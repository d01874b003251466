/- Part 11 of the proof of PseudoEquation: W9, W10, FwUI, FwUJ. Own lemmas; no conditions. -/
import Derived.Test.YtmnkngmmfnncoaaGreatPseudoEquationPart10
set_option linter.unusedSimpArgs false
set_option linter.unnecessarySimpa false
set_option linter.unusedVariables false
namespace Go.Proofs.YtmnkngmmfnncoaaGreat
open Go Go.FW
set_option linter.unusedSimpArgs false
set_option linter.unusedVariables false
set_option maxRecDepth 100000
theorem Q22 {ls : List (List RTm)} {k : Nat} (hb : ∀ l ∈ ls, (∀ t ∈ l, RB k t) /\ l.length < 2 ^ 40) (hk1 : 1 <= k) (hk : k < 2 ^ 36) (hll : ls.length < 2 ^ 40) :
  Qe Tryz.prog 64 [.sl 1 (ls.map PV.rpoly)] (· = .bool (ls.all (Qen 5 4 4))) := by
 refine Qg Qk Tryz.func64 rfl Qafv (by simp [c64]) fun C hP => ?_; simp only [c64]
 simp +decide (disch := first | omega | rfl | (simp +decide only [go_sem, ↓reduceIte] <;> rfl) | fail) only [go_sem, ↓reduceIte]
 refine Qy (by repeat (first | exact Qv | exact Qp | exact Qq | exact Qr | apply Qo | apply Qu | apply Qz | apply Q8 | apply Q9 | apply Qn | apply Qaf)) [(2, 15)] [] (fun m J hp => ∃ i, m = ls.length - i /\ i <= ls.length /\ (∀ j (h : j < ls.length), j < i -> Qen 5 4 4 ls[j] = true) /\ J 3 = .int .i64 (i : Nat)) ls.length ?_ ?_
 ·refine ⟨0, rfl, by omega, by omega, ?_⟩
  simp +decide (disch := first | omega | rfl | (simp +decide only [go_sem, ↓reduceIte] <;> rfl) | fail) only [go_sem, ↓reduceIte]
  rfl
 rintro _ J h ⟨i, rfl, hi, h1, h3⟩
 simp +decide (disch := first | omega | rfl | (simp +decide only [go_sem, ↓reduceIte, h3] <;> rfl) | fail) only [go_sem, ↓reduceIte, h3]
 refine Qb (fun hg => ?_) (fun hg => ?_)
 ·have hi' : i < ls.length := by omega
  have hbt := hb _ (List.getElem_mem hi')
  have hmem := List.getElem_mem hi'
  have hadd : Qen 5 4 4 ls[i] = true -> ∀ j (h : j < ls.length), j < i + 1 -> Qen 5 4 4 ls[j] = true := fun h j hj hji => by
   by_cases e : j = i
   ·subst e; exact h
   ·exact h1 j hj (by omega)
  generalize hx : ls[i] = x at *
  simp +decide (disch := first | omega | rfl | (simp +decide only [go_sem, ↓reduceIte, h3, hx] <;> rfl) | fail) only [go_sem, ↓reduceIte, h3, hx]
  refine Qa hP (Quc (n := 5) (v := 4) (e := 4) hbt.1 hk1 hk hbt.2) rfl rfl rfl ?_
  simp +decide (disch := first | omega | rfl | (simp +decide only [go_sem, ↓reduceIte, h3] <;> rfl) | fail) only [go_sem, ↓reduceIte, h3]
  cases hs : Qen 5 4 4 x
  ·simp +decide (disch := first | omega | rfl | (simp +decide only [go_sem, ↓reduceIte, h3, hs] <;> rfl) | fail) only [go_sem, ↓reduceIte, h3, hs]
   refine Qc ?_ rfl
   congr 1
   symm
   rw [List.all_eq_false]; exact ⟨x, hmem, by simp [hs]⟩
  ·simp +decide (disch := first | omega | rfl | (simp +decide only [go_sem, ↓reduceIte, h3, hs] <;> rfl) | fail) only [go_sem, ↓reduceIte, h3, hs]
   refine Ql (ls.length - (i + 1)) (by omega) ⟨i + 1, rfl, by omega, hadd hs, ?_⟩
   simp +decide (disch := first | omega | rfl | (simp +decide only [go_sem, ↓reduceIte] <;> rfl) | fail) only [go_sem, ↓reduceIte]
 ·obtain rfl : i = ls.length := by omega
  simp +decide (disch := first | omega | rfl | (simp +decide only [go_sem, ↓reduceIte] <;> rfl) | fail) only [go_sem, ↓reduceIte]
  refine Qc ?_ rfl
  congr 1
  symm
  rw [List.all_eq_true]
  intro t ht
  obtain ⟨j, hj, rfl⟩ := List.getElem_of_mem ht
  exact h1 j hj hj
theorem Q8v (v : Nat) : Qku v = Qbl v 1 := rfl
theorem Qpq {v : Nat} (hv : v < 64) : Qe Tryz.prog 127 [.int .i64 v] (· = PV.poly (Qa8 v)) := by
 have hset : (List.replicate (v + 1) (0 : Int)).set v 1 = Qbl v 1 := Qwo v 1 rfl
 have hlr : v < (List.replicate (v + 1) (0 : Int)).length := by simp
 have hone := Qsq
 have hxl : (Qbl v 1).length = v + 1 := by simp [Qbl]
 have hadd := (Qpo (p := []) (m := Qbl v 1) (K := 1) (E := 1) (k := 4) (PB.nil _ _) trivial (by simp [NZ]) (Qb9 (q := ((1 : Int) : Rat)) (k := 4) (by rw [show ((1 : Int) : Rat) = 1 from rfl]; omega)) (by omega) (Qsx hv) (Qkk (by omega)) (by omega) (by omega) (by simp)).le (args' := [.nilS, PV.rat ((1 : Int) : Rat), PV.mono (Qbl v 1)]) ⟨trivial, Qt _, Qt _, trivial⟩
 rw [Qc0] at hadd
 have e : Qdz [] ((1 : Int) : Rat) (Qbl v 1) = Qa8 v := by
  rw [Qdz, Qfs, if_neg (by decide), Qa8, if_neg (by omega), Int.toNat_natCast, Q8v]; rfl
 rw [e] at hadd
 refine Qg Qk Tryz.func127 rfl Qacn (by simp [Q7s]) fun C hP => ?_; simp only [Q7s]
 simp +decide (disch := first | omega | rfl | (simp +decide only [go_sem, ↓reduceIte] <;> rfl) | fail) only [go_sem, ↓reduceIte]
 refine Q6 (fun h => by omega) (fun _ => ?_)
 simp +decide (disch := first | omega | rfl | (simp +decide only [go_sem, ↓reduceIte] <;> rfl) | fail) only [go_sem, ↓reduceIte]
 refine Qb (fun h => by omega) (fun _ => ?_)
 simp +decide (disch := first | omega | rfl | (simp +decide only [go_sem, ↓reduceIte, hset] <;> rfl) | fail) only [go_sem, ↓reduceIte, hset]
 refine Qa hP (Qi0 (x := 1) (by omega) (by omega)) rfl rfl rfl ?_
 generalize ((1 : Int) : Rat) = c at *
 simp +decide (disch := first | omega | rfl | (simp +decide only [go_sem, ↓reduceIte] <;> rfl) | fail) only [go_sem, ↓reduceIte]
 refine Qbz hP hadd (by simp +decide (disch := first | omega | rfl | (simp +decide only [go_sem, ↓reduceIte, Qd, List.contains_cons, List.contains_nil, List.flatMap_cons, List.flatMap_nil, List.append_nil] <;> rfl) | fail) only [go_sem, ↓reduceIte, Qd, List.contains_cons, List.contains_nil, List.flatMap_cons, List.flatMap_nil, List.append_nil]; simp [List.take_of_length_le, hxl]) rfl ?_
 simp +decide (disch := first | omega | rfl | (simp +decide only [go_sem, ↓reduceIte] <;> rfl) | fail) only [go_sem, ↓reduceIte]
 exact Qc rfl rfl
theorem al1 : Q3 (Qc1 (Qa8 0) (((-1 : Int) : Rat) / ((2 : Int) : Rat))) (Qd8 (((1 : Int) : Rat) / ((3 : Int) : Rat))) = [(mkRat (-1) 2, [1]), (mkRat 1 3, [])] := by decide +kernel
theorem al2 : Qn8 [(mkRat (-1) 2, [1]), (mkRat 1 3, [])] = ((-6 : Int) : Rat) := by decide +kernel
theorem al3 : Qc1 [(mkRat (-1) 2, [1]), (mkRat 1 3, [])] ((-6 : Int) : Rat) = [(((3 : Int) : Rat), [1]), (((-2 : Int) : Rat), [])] := by decide +kernel
theorem al4 : Qhf (Qad (Qa8 0) (Qa8 0)) (Qad (Qa8 1) (Qa8 1)) = [(-1, [0, 2]), (1, [2])] := by decide +kernel
theorem al5 : Qhf (Qa8 0) (Qa8 1) = [(-1, [0, 1]), (1, [1])] := by decide +kernel
theorem al6 : exP [(-1, [0, 1]), (1, [1])] [(-1, [0, 2]), (1, [2])] 2 = [] := by decide +kernel
theorem al7 : exQ [(-1, [0, 1]), (1, [1])] [(-1, [0, 2]), (1, [2])] 2 = Q3 (Qa8 0) (Qa8 1) := by decide +kernel
theorem al8 : Q3 (Qa8 0) (Qa8 1) = [(1, [0, 1]), (1, [1])] := by decide +kernel
theorem Qwv : Qe Tryz.prog 67 [PV.poly [(-1, [0, 2]), (1, [2])], PV.poly [(-1, [0, 1]), (1, [1])]] (· = .tup [PV.poly (Q3 (Qa8 0) (Qa8 1)), .bool true]) := by
 have h := Quf (p := [(-1, [0, 2]), (1, [2])]) (q := [(-1, [0, 1]), (1, [1])]) (K := 5) (E := 2) (L := 2) (k0 := 2) (Qr1 (by decide +kernel)) (Qr1 (by decide +kernel)) (Qhy (by decide +kernel)) (by simp) (by simp) (fun k hk => by
  have : k = 0 ∨ k = 1 ∨ k = 2 := by omega
  rcases this with rfl | rfl | rfl <;> exact ⟨Qhy (by decide +kernel), by decide +kernel⟩) (fun k hk => by
  have : k = 0 ∨ k = 1 := by omega
  rcases this with rfl | rfl <;> exact ⟨by decide +kernel, by decide +kernel⟩) (fun h => h.1 al6) (by omega) (by omega) (by omega) (by omega) (by omega)
 rwa [exR, if_pos al6, al7] at h
theorem Qek : Qe Tryz.prog 53 [] (· = .bool true) := by
 have b0 := Qyk 0
 have b1 := Qyk 1
 have l0 := Qju 0
 have l1 := Qju 1
 have hA := al1
 have hS1 := Qtg (L := 5) b0 (a := ((-1 : Int) : Rat) / ((2 : Int) : Rat)) (by decide +kernel)
 have hS2 := Qf7 (Qa8 0) (((-1 : Int) : Rat) / ((2 : Int) : Rat))
 have hC1 : PB 9 1 (Qd8 (((1 : Int) : Rat) / ((3 : Int) : Rat))) := Qhy (by decide +kernel)
 have hC2 : (Qd8 (((1 : Int) : Rat) / ((3 : Int) : Rat))).length <= 1 := by decide +kernel
 have hr1 : rs (((-1 : Int) : Rat) / ((2 : Int) : Rat)) + 1 <= 5 := by decide +kernel
 have hr2 : rs (((1 : Int) : Rat) / ((3 : Int) : Rat)) <= 5 := by decide +kernel
 have hf1 := Qn5 (x := -1) (y := 2) (by omega) (by omega) (by omega)
 have hf2 := Qn5 (x := 1) (y := 3) (by omega) (by omega) (by omega)
 have hprim := Qoz (p := [(mkRat (-1) 2, [1]), (mkRat 1 3, [])]) (K := 5) (E := 1) (Qhy (by decide +kernel)) (Qr1 (by decide +kernel)) (by simp) (by simp) (by simp) (by omega)
 rw [al2, al3] at hprim
 have hx := Qwv
 rw [<- al5, <- al4] at hx
 have hadd := al8
 have ls : (Qhf (Qa8 0) (Qa8 1)).length <= 2 := by decide +kernel
 have bs : PB 20 1 (Qhf (Qa8 0) (Qa8 1)) := Qhy (by decide +kernel)
 have bm0 : PB 20 2 (Qad (Qa8 0) (Qa8 0)) := Qhy (by decide +kernel)
 have bm1 : PB 20 2 (Qad (Qa8 1) (Qa8 1)) := Qhy (by decide +kernel)
 have lm0 : (Qad (Qa8 0) (Qa8 0)).length <= 2 := by decide +kernel
 have lm1 : (Qad (Qa8 1) (Qa8 1)).length <= 2 := by decide +kernel
 have bX : PB 20 1 (Q3 (Qa8 0) (Qa8 1)) := Qhy (by decide +kernel)
 have lX : (Q3 (Qa8 0) (Qa8 1)).length <= 2 := by decide +kernel
 have bN : PB 5 1 [(((3 : Int) : Rat), [1]), (((-2 : Int) : Rat), ([] : List Int))] := Qhy (by decide +kernel)
 have nN : Nrm [(((3 : Int) : Rat), [1]), (((-2 : Int) : Rat), ([] : List Int))] := Qr1 (by decide +kernel)
 have h3 := Qi0 (x := 3) (by omega) (by omega)
 have hm2 := Qi0 (x := -2) (by omega) (by omega)
 have hm6 := Qi0 (x := -6) (by omega) (by omega)
 have r6 : rs ((-6 : Int) : Rat) <= 5 := by decide +kernel
 have hmul : ∀ v : Int, min (Qa8 v).length (Qa8 v).length * (4 + 4) <= 1 * 8 := fun v => Nat.mul_le_mul_right _ (by have := Qju v; omega)
 have hmll : ∀ v : Int, (Qa8 v).length * (Qa8 v).length <= 1 * 1 := fun v => Nat.mul_le_mul (Qju v) (Qju v)
 generalize ((3 : Int) : Rat) = c3 at h3 hprim bN nN
 generalize ((-2 : Int) : Rat) = cm2 at hm2 hprim bN nN
 generalize ((-6 : Int) : Rat) = cm6 at hm6 hprim r6
 have hnorm := (Qz8 bN nN (by omega) (by omega) (by simp)).slLe (xs := [PV.term (c3, [1]), .agg [.bool (decide (cm2.num < 0)), PV.num cm2.num.natAbs, PV.num cm2.den, .nilS]]) ⟨Qt _, ⟨Qey _, Qey _, Qey _, trivial, trivial⟩, trivial⟩
 have hv0 := Qrg (v := 0) (by omega) (by omega)
 have hv1 := Qrg (v := 1) (by omega) (by omega)
 have hw0 := Qpq (v := 0) (by omega)
 have hw1 := Qpq (v := 1) (by omega)
 have hq1 := hmul 0
 have hq2 := hmul 1
 have hq3 := hmll 0
 have hq4 := hmll 1
 refine Qg Qk Tryz.func53 rfl Qafu (by simp [c53]) fun C hP => ?_; simp only [c53]
 simp +decide (disch := first | omega | rfl | (simp +decide only [go_sem, ↓reduceIte] <;> rfl) | fail) only [go_sem, ↓reduceIte]
 refine Qa hP hv0 rfl rfl rfl ?_
 simp +decide (disch := first | omega | rfl | (simp +decide only [go_sem, ↓reduceIte] <;> rfl) | fail) only [go_sem, ↓reduceIte]
 refine Qa hP hf1 rfl rfl rfl ?_
 generalize ((-1 : Int) : Rat) / ((2 : Int) : Rat) = f1 at *
 simp +decide (disch := first | omega | rfl | (simp +decide only [go_sem, ↓reduceIte] <;> rfl) | fail) only [go_sem, ↓reduceIte]
 refine Qa hP (Qjp (K := 5) (E := 1) (b0.mono (by omega) (by omega)) hr1 (by omega) (by omega) (by omega)) rfl rfl rfl ?_
 simp +decide (disch := first | omega | rfl | (simp +decide only [go_sem, ↓reduceIte] <;> rfl) | fail) only [go_sem, ↓reduceIte]
 refine Qa hP hf2 rfl rfl rfl ?_
 generalize ((1 : Int) : Rat) / ((3 : Int) : Rat) = f2 at *
 simp +decide (disch := first | omega | rfl | (simp +decide only [go_sem, ↓reduceIte] <;> rfl) | fail) only [go_sem, ↓reduceIte]
 refine Qa hP (Qtv hr2 (by omega)) rfl rfl rfl ?_
 simp +decide (disch := first | omega | rfl | (simp +decide only [go_sem, ↓reduceIte] <;> rfl) | fail) only [go_sem, ↓reduceIte]
 refine Qa hP (Qfz (K := 9) (E := 1) (hS1.mono (by omega) (by omega)) hC1 (by omega) (by omega) (by omega) (by omega)) rfl rfl rfl ?_
 rw [hA]
 simp +decide (disch := first | omega | rfl | (simp +decide only [go_sem, ↓reduceIte] <;> rfl) | fail) only [go_sem, ↓reduceIte]
 refine Qa hP hprim rfl rfl rfl ?_
 simp +decide (disch := first | omega | rfl | (simp +decide only [go_sem, ↓reduceIte] <;> rfl) | fail) only [go_sem, ↓reduceIte]
 refine Qa hP hv0 rfl rfl rfl ?_
 simp +decide (disch := first | omega | rfl | (simp +decide only [go_sem, ↓reduceIte] <;> rfl) | fail) only [go_sem, ↓reduceIte]
 refine Qa hP hv0 rfl rfl rfl ?_
 simp +decide (disch := first | omega | rfl | (simp +decide only [go_sem, ↓reduceIte] <;> rfl) | fail) only [go_sem, ↓reduceIte]
 refine Qa hP (Qb4 b0 b0 (by omega) (by omega) (by omega) (by omega) (by omega) (by omega)) rfl rfl rfl ?_
 simp +decide (disch := first | omega | rfl | (simp +decide only [go_sem, ↓reduceIte] <;> rfl) | fail) only [go_sem, ↓reduceIte]
 refine Qa hP hv1 rfl rfl rfl ?_
 simp +decide (disch := first | omega | rfl | (simp +decide only [go_sem, ↓reduceIte] <;> rfl) | fail) only [go_sem, ↓reduceIte]
 refine Qa hP hv1 rfl rfl rfl ?_
 simp +decide (disch := first | omega | rfl | (simp +decide only [go_sem, ↓reduceIte] <;> rfl) | fail) only [go_sem, ↓reduceIte]
 refine Qa hP (Qb4 b1 b1 (by omega) (by omega) (by omega) (by omega) (by omega) (by omega)) rfl rfl rfl ?_
 simp +decide (disch := first | omega | rfl | (simp +decide only [go_sem, ↓reduceIte] <;> rfl) | fail) only [go_sem, ↓reduceIte]
 refine Qa hP (Qgy bm0 bm1 (by omega) (by omega) (by omega) (by omega) (by omega)) rfl rfl rfl ?_
 simp +decide (disch := first | omega | rfl | (simp +decide only [go_sem, ↓reduceIte] <;> rfl) | fail) only [go_sem, ↓reduceIte]
 refine Qa hP hv0 rfl rfl rfl ?_
 simp +decide (disch := first | omega | rfl | (simp +decide only [go_sem, ↓reduceIte] <;> rfl) | fail) only [go_sem, ↓reduceIte]
 refine Qa hP hv1 rfl rfl rfl ?_
 simp +decide (disch := first | omega | rfl | (simp +decide only [go_sem, ↓reduceIte] <;> rfl) | fail) only [go_sem, ↓reduceIte]
 refine Qa hP (Qgy (K := 4) (E := 1) b0 b1 (by omega) (by omega) (by omega) (by omega) (by omega)) rfl rfl rfl ?_
 simp +decide (disch := first | omega | rfl | (simp +decide only [go_sem, ↓reduceIte] <;> rfl) | fail) only [go_sem, ↓reduceIte]
 refine Qa hP hx rfl rfl rfl ?_
 simp +decide (disch := first | omega | rfl | (simp +decide only [go_sem, ↓reduceIte] <;> rfl) | fail) only [go_sem, ↓reduceIte]
 generalize hXX : Q3 (Qa8 0) (Qa8 1) = X at *
 refine Qe0 ?_ ?_
 ·simp +decide (disch := first | omega | rfl | (simp +decide only [go_sem, ↓reduceIte] <;> rfl) | fail) only [go_sem, ↓reduceIte]
  refine Qa hP h3 rfl rfl rfl ?_
  simp +decide (disch := first | omega | rfl | (simp +decide only [go_sem, ↓reduceIte] <;> rfl) | fail) only [go_sem, ↓reduceIte]
  refine Qe0 ?_ ?_
  ·simp +decide (disch := first | omega | rfl | (simp +decide only [go_sem, ↓reduceIte] <;> rfl) | fail) only [go_sem, ↓reduceIte]
   rw [Qum (p := PV.rat c3) (m := 1) (β := 31) (e := 1) (ty := 3) (fz := false) (xs := Qf2 [1]) rfl (by simp +decide (disch := first | omega | rfl | (simp +decide only [go_sem, ↓reduceIte] <;> rfl) | fail) only [go_sem, ↓reduceIte] <;> rfl) rfl]
   simp +decide (disch := first | omega | rfl | (simp +decide only [go_sem, ↓reduceIte] <;> rfl) | fail) only [go_sem, ↓reduceIte]
   refine Qa hP hm2 rfl rfl rfl ?_
   simp +decide (disch := first | omega | rfl | (simp +decide only [go_sem, ↓reduceIte] <;> rfl) | fail) only [go_sem, ↓reduceIte]
   refine Qbz hP hnorm (by simp +decide (disch := first | omega | rfl | (simp +decide only [go_sem, ↓reduceIte, Qd, List.contains_cons, List.contains_nil, List.flatMap_cons, List.flatMap_nil, List.append_nil] <;> rfl) | fail) only [go_sem, ↓reduceIte, Qd, List.contains_cons, List.contains_nil, List.flatMap_cons, List.flatMap_nil, List.append_nil] <;> rfl) rfl ?_
   simp +decide (disch := first | omega | rfl | (simp +decide only [go_sem, ↓reduceIte, Qd, List.contains_cons, List.contains_nil, List.flatMap_cons, List.flatMap_nil, List.append_nil] <;> rfl) | fail) only [go_sem, ↓reduceIte, Qd, List.contains_cons, List.contains_nil, List.flatMap_cons, List.flatMap_nil, List.append_nil]
   refine Qa hP (Qd2 (K := 5) (E := 1) bN bN (by omega) (by omega) (by simp) (by simp)) rfl rfl rfl ?_
   rw [decide_eq_true (p := [(c3, ([1] : List Int)), (cm2, [])] = [(c3, [1]), (cm2, [])]) rfl]
   simp +decide (disch := first | omega | rfl | (simp +decide only [go_sem, ↓reduceIte, Qd, List.contains_cons, List.contains_nil, List.flatMap_cons, List.flatMap_nil, List.append_nil] <;> rfl) | fail) only [go_sem, ↓reduceIte, Qd, List.contains_cons, List.contains_nil, List.flatMap_cons, List.flatMap_nil, List.append_nil]
   refine Qa hP hm6 rfl rfl rfl ?_
   simp +decide (disch := first | omega | rfl | (simp +decide only [go_sem, ↓reduceIte, Qd, List.contains_cons, List.contains_nil, List.flatMap_cons, List.flatMap_nil, List.append_nil] <;> rfl) | fail) only [go_sem, ↓reduceIte, Qd, List.contains_cons, List.contains_nil, List.flatMap_cons, List.flatMap_nil, List.append_nil]
   refine Qa hP (Qmw (a := cm6) (b := cm6) (k := 5) r6 r6 (by omega)) rfl rfl rfl ?_
   rw [decide_eq_true (p := cm6 = cm6) rfl]
   simp +decide (disch := first | omega | rfl | (simp +decide only [go_sem, ↓reduceIte, Qd, List.contains_cons, List.contains_nil, List.flatMap_cons, List.flatMap_nil, List.append_nil] <;> rfl) | fail) only [go_sem, ↓reduceIte, Qd, List.contains_cons, List.contains_nil, List.flatMap_cons, List.flatMap_nil, List.append_nil]
   refine Qa hP hw0 rfl rfl rfl ?_
   simp +decide (disch := first | omega | rfl | (simp +decide only [go_sem, ↓reduceIte, Qd, List.contains_cons, List.contains_nil, List.flatMap_cons, List.flatMap_nil, List.append_nil] <;> rfl) | fail) only [go_sem, ↓reduceIte, Qd, List.contains_cons, List.contains_nil, List.flatMap_cons, List.flatMap_nil, List.append_nil]
   refine Qa hP hw1 rfl rfl rfl ?_
   simp +decide (disch := first | omega | rfl | (simp +decide only [go_sem, ↓reduceIte, Qd, List.contains_cons, List.contains_nil, List.flatMap_cons, List.flatMap_nil, List.append_nil] <;> rfl) | fail) only [go_sem, ↓reduceIte, Qd, List.contains_cons, List.contains_nil, List.flatMap_cons, List.flatMap_nil, List.append_nil]
   refine Qa hP (Qk1 (K := 4) (E := 1) b0 b1 (by omega) (by omega) (by omega) (by omega)) rfl rfl rfl ?_
   rw [hXX]
   simp +decide (disch := first | omega | rfl | (simp +decide only [go_sem, ↓reduceIte, Qd, List.contains_cons, List.contains_nil, List.flatMap_cons, List.flatMap_nil, List.append_nil] <;> rfl) | fail) only [go_sem, ↓reduceIte, Qd, List.contains_cons, List.contains_nil, List.flatMap_cons, List.flatMap_nil, List.append_nil]
   refine Qa hP (Qd2 (K := 20) (E := 1) bX bX (by omega) (by omega) (by omega) (by omega)) rfl rfl rfl ?_
   rw [decide_eq_true (p := X = X) rfl]
   simp +decide (disch := first | omega | rfl | (simp +decide only [go_sem, ↓reduceIte, Qd, List.contains_cons, List.contains_nil, List.flatMap_cons, List.flatMap_nil, List.append_nil] <;> rfl) | fail) only [go_sem, ↓reduceIte, Qd, List.contains_cons, List.contains_nil, List.flatMap_cons, List.flatMap_nil, List.append_nil]
   exact Qc rfl rfl
  ·simp +decide (disch := first | omega | rfl | (simp +decide only [go_sem, ↓reduceIte] <;> rfl) | fail) only [go_sem, ↓reduceIte]
   refine Qa hP hm2 rfl rfl rfl ?_
   simp +decide (disch := first | omega | rfl | (simp +decide only [go_sem, ↓reduceIte] <;> rfl) | fail) only [go_sem, ↓reduceIte]
   rw [Qum (p := PV.rat c3) (m := 1) (β := 31) (e := 1) (ty := 3) (fz := false) (xs := Qf2 [1]) rfl (by simp +decide (disch := first | omega | rfl | (simp +decide only [go_sem, ↓reduceIte] <;> rfl) | fail) only [go_sem, ↓reduceIte] <;> rfl) rfl]
   simp +decide (disch := first | omega | rfl | (simp +decide only [go_sem, ↓reduceIte] <;> rfl) | fail) only [go_sem, ↓reduceIte]
   refine Qbz hP hnorm (by simp +decide (disch := first | omega | rfl | (simp +decide only [go_sem, ↓reduceIte, Qd, List.contains_cons, List.contains_nil, List.flatMap_cons, List.flatMap_nil, List.append_nil] <;> rfl) | fail) only [go_sem, ↓reduceIte, Qd, List.contains_cons, List.contains_nil, List.flatMap_cons, List.flatMap_nil, List.append_nil] <;> rfl) rfl ?_
   simp +decide (disch := first | omega | rfl | (simp +decide only [go_sem, ↓reduceIte, Qd, List.contains_cons, List.contains_nil, List.flatMap_cons, List.flatMap_nil, List.append_nil] <;> rfl) | fail) only [go_sem, ↓reduceIte, Qd, List.contains_cons, List.contains_nil, List.flatMap_cons, List.flatMap_nil, List.append_nil]
   refine Qa hP (Qd2 (K := 5) (E := 1) bN bN (by omega) (by omega) (by simp) (by simp)) rfl rfl rfl ?_
   rw [decide_eq_true (p := [(c3, ([1] : List Int)), (cm2, [])] = [(c3, [1]), (cm2, [])]) rfl]
   simp +decide (disch := first | omega | rfl | (simp +decide only [go_sem, ↓reduceIte, Qd, List.contains_cons, List.contains_nil, List.flatMap_cons, List.flatMap_nil, List.append_nil] <;> rfl) | fail) only [go_sem, ↓reduceIte, Qd, List.contains_cons, List.contains_nil, List.flatMap_cons, List.flatMap_nil, List.append_nil]
   refine Qa hP hm6 rfl rfl rfl ?_
   simp +decide (disch := first | omega | rfl | (simp +decide only [go_sem, ↓reduceIte, Qd, List.contains_cons, List.contains_nil, List.flatMap_cons, List.flatMap_nil, List.append_nil] <;> rfl) | fail) only [go_sem, ↓reduceIte, Qd, List.contains_cons, List.contains_nil, List.flatMap_cons, List.flatMap_nil, List.append_nil]
   refine Qa hP (Qmw (a := cm6) (b := cm6) (k := 5) r6 r6 (by omega)) rfl rfl rfl ?_
   rw [decide_eq_true (p := cm6 = cm6) rfl]
   simp +decide (disch := first | omega | rfl | (simp +decide only [go_sem, ↓reduceIte, Qd, List.contains_cons, List.contains_nil, List.flatMap_cons, List.flatMap_nil, List.append_nil] <;> rfl) | fail) only [go_sem, ↓reduceIte, Qd, List.contains_cons, List.contains_nil, List.flatMap_cons, List.flatMap_nil, List.append_nil]
   refine Qa hP hw0 rfl rfl rfl ?_
   simp +decide (disch := first | omega | rfl | (simp +decide only [go_sem, ↓reduceIte, Qd, List.contains_cons, List.contains_nil, List.flatMap_cons, List.flatMap_nil, List.append_nil] <;> rfl) | fail) only [go_sem, ↓reduceIte, Qd, List.contains_cons, List.contains_nil, List.flatMap_cons, List.flatMap_nil, List.append_nil]
   refine Qa hP hw1 rfl rfl rfl ?_
   simp +decide (disch := first | omega | rfl | (simp +decide only [go_sem, ↓reduceIte, Qd, List.contains_cons, List.contains_nil, List.flatMap_cons, List.flatMap_nil, List.append_nil] <;> rfl) | fail) only [go_sem, ↓reduceIte, Qd, List.contains_cons, List.contains_nil, List.flatMap_cons, List.flatMap_nil, List.append_nil]
   refine Qa hP (Qk1 (K := 4) (E := 1) b0 b1 (by omega) (by omega) (by omega) (by omega)) rfl rfl rfl ?_
   rw [hXX]
   simp +decide (disch := first | omega | rfl | (simp +decide only [go_sem, ↓reduceIte, Qd, List.contains_cons, List.contains_nil, List.flatMap_cons, List.flatMap_nil, List.append_nil] <;> rfl) | fail) only [go_sem, ↓reduceIte, Qd, List.contains_cons, List.contains_nil, List.flatMap_cons, List.flatMap_nil, List.append_nil]
   refine Qa hP (Qd2 (K := 20) (E := 1) bX bX (by omega) (by omega) (by omega) (by omega)) rfl rfl rfl ?_
   rw [decide_eq_true (p := X = X) rfl]
   simp +decide (disch := first | omega | rfl | (simp +decide only [go_sem, ↓reduceIte, Qd, List.contains_cons, List.contains_nil, List.flatMap_cons, List.flatMap_nil, List.append_nil] <;> rfl) | fail) only [go_sem, ↓reduceIte, Qd, List.contains_cons, List.contains_nil, List.flatMap_cons, List.flatMap_nil, List.append_nil]
   exact Qc rfl rfl
 ·simp +decide (disch := first | omega | rfl | (simp +decide only [go_sem, ↓reduceIte] <;> rfl) | fail) only [go_sem, ↓reduceIte]
  refine Qa hP h3 rfl rfl rfl ?_
  simp +decide (disch := first | omega | rfl | (simp +decide only [go_sem, ↓reduceIte] <;> rfl) | fail) only [go_sem, ↓reduceIte]
  rw [Qum (p := PV.rat c3) (m := 1) (β := 31) (e := 1) (ty := 3) (fz := false) (xs := Qf2 [1]) rfl (by simp +decide (disch := first | omega | rfl | (simp +decide only [go_sem, ↓reduceIte] <;> rfl) | fail) only [go_sem, ↓reduceIte] <;> rfl) rfl]
  simp +decide (disch := first | omega | rfl | (simp +decide only [go_sem, ↓reduceIte] <;> rfl) | fail) only [go_sem, ↓reduceIte]
  refine Qa hP hm2 rfl rfl rfl ?_
  simp +decide (disch := first | omega | rfl | (simp +decide only [go_sem, ↓reduceIte] <;> rfl) | fail) only [go_sem, ↓reduceIte]
  refine Qbz hP hnorm (by simp +decide (disch := first | omega | rfl | (simp +decide only [go_sem, ↓reduceIte, Qd, List.contains_cons, List.contains_nil, List.flatMap_cons, List.flatMap_nil, List.append_nil] <;> rfl) | fail) only [go_sem, ↓reduceIte, Qd, List.contains_cons, List.contains_nil, List.flatMap_cons, List.flatMap_nil, List.append_nil] <;> rfl) rfl ?_
  simp +decide (disch := first | omega | rfl | (simp +decide only [go_sem, ↓reduceIte, Qd, List.contains_cons, List.contains_nil, List.flatMap_cons, List.flatMap_nil, List.append_nil] <;> rfl) | fail) only [go_sem, ↓reduceIte, Qd, List.contains_cons, List.contains_nil, List.flatMap_cons, List.flatMap_nil, List.append_nil]
  refine Qa hP (Qd2 (K := 5) (E := 1) bN bN (by omega) (by omega) (by simp) (by simp)) rfl rfl rfl ?_
  rw [decide_eq_true (p := [(c3, ([1] : List Int)), (cm2, [])] = [(c3, [1]), (cm2, [])]) rfl]
  simp +decide (disch := first | omega | rfl | (simp +decide only [go_sem, ↓reduceIte, Qd, List.contains_cons, List.contains_nil, List.flatMap_cons, List.flatMap_nil, List.append_nil] <;> rfl) | fail) only [go_sem, ↓reduceIte, Qd, List.contains_cons, List.contains_nil, List.flatMap_cons, List.flatMap_nil, List.append_nil]
  refine Qa hP hm6 rfl rfl rfl ?_
  simp +decide (disch := first | omega | rfl | (simp +decide only [go_sem, ↓reduceIte, Qd, List.contains_cons, List.contains_nil, List.flatMap_cons, List.flatMap_nil, List.append_nil] <;> rfl) | fail) only [go_sem, ↓reduceIte, Qd, List.contains_cons, List.contains_nil, List.flatMap_cons, List.flatMap_nil, List.append_nil]
  refine Qa hP (Qmw (a := cm6) (b := cm6) (k := 5) r6 r6 (by omega)) rfl rfl rfl ?_
  rw [decide_eq_true (p := cm6 = cm6) rfl]
  simp +decide (disch := first | omega | rfl | (simp +decide only [go_sem, ↓reduceIte, Qd, List.contains_cons, List.contains_nil, List.flatMap_cons, List.flatMap_nil, List.append_nil] <;> rfl) | fail) only [go_sem, ↓reduceIte, Qd, List.contains_cons, List.contains_nil, List.flatMap_cons, List.flatMap_nil, List.append_nil]
  refine Qa hP hw0 rfl rfl rfl ?_
  simp +decide (disch := first | omega | rfl | (simp +decide only [go_sem, ↓reduceIte, Qd, List.contains_cons, List.contains_nil, List.flatMap_cons, List.flatMap_nil, List.append_nil] <;> rfl) | fail) only [go_sem, ↓reduceIte, Qd, List.contains_cons, List.contains_nil, List.flatMap_cons, List.flatMap_nil, List.append_nil]
  refine Qa hP hw1 rfl rfl rfl ?_
  simp +decide (disch := first | omega | rfl | (simp +decide only [go_sem, ↓reduceIte, Qd, List.contains_cons, List.contains_nil, List.flatMap_cons, List.flatMap_nil, List.append_nil] <;> rfl) | fail) only [go_sem, ↓reduceIte, Qd, List.contains_cons, List.contains_nil, List.flatMap_cons, List.flatMap_nil, List.append_nil]
  refine Qa hP (Qk1 (K := 4) (E := 1) b0 b1 (by omega) (by omega) (by omega) (by omega)) rfl rfl rfl ?_
  rw [hXX]
  simp +decide (disch := first | omega | rfl | (simp +decide only [go_sem, ↓reduceIte, Qd, List.contains_cons, List.contains_nil, List.flatMap_cons, List.flatMap_nil, List.append_nil] <;> rfl) | fail) only [go_sem, ↓reduceIte, Qd, List.contains_cons, List.contains_nil, List.flatMap_cons, List.flatMap_nil, List.append_nil]
  refine Qa hP (Qd2 (K := 20) (E := 1) bX bX (by omega) (by omega) (by omega) (by omega)) rfl rfl rfl ?_
  rw [decide_eq_true (p := X = X) rfl]
  simp +decide (disch := first | omega | rfl | (simp +decide only [go_sem, ↓reduceIte, Qd, List.contains_cons, List.contains_nil, List.flatMap_cons, List.flatMap_nil, List.append_nil] <;> rfl) | fail) only [go_sem, ↓reduceIte, Qd, List.contains_cons, List.contains_nil, List.flatMap_cons, List.flatMap_nil, List.append_nil]
  exact Qc rfl rfl
end Go.Proofs.YtmnkngmmfnncoaaGreat
namespace Go.Proofs.YtmnkngmmfnncoaaGreat
open Go Go.FW
set_option linter.unusedSimpArgs false
set_option linter.unusedVariables false
set_option maxRecDepth 100000
end Go.Proofs.YtmnkngmmfnncoaaGreat
namespace Go.FW
open Go
end Go.FW
namespace Go.FW
open Go
def c4 (m : List Int) : Nat := (((eN m 3).toNat * 81 + (eN m 2).toNat) * 729 + (eN m 1).toNat) * 6561 + (eN m 0).toNat
end Go.FW
