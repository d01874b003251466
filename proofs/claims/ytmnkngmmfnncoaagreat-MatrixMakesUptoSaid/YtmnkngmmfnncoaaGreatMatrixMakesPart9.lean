/- Part 9 of the proof of MatrixMakes: A4, A5, A6, A7, A8, FwUE. Own lemmas; no conditions. -/
import Derived.Test.YtmnkngmmfnncoaaGreatMatrixMakesPart8
set_option linter.unusedSimpArgs false
set_option linter.unnecessarySimpa false
set_option linter.unusedVariables false
namespace Go.Proofs.YtmnkngmmfnncoaaGreat
open Go Go.FW
set_option linter.unusedSimpArgs false
set_option linter.unusedVariables false
set_option maxRecDepth 100000
abbrev PV.ech (R w : Nat) (E : Ech) : PV := .agg [.sl 1 (Qoz E.M R w), .sl 1 (E.piv.map fun k => .int .i64 (k : Nat)), .bool (decide (E.det.num < 0)), PV.num E.det.num.natAbs, PV.num E.det.den]
abbrev Qto (l : List Nat) : List PV := l.map fun k => .int .i64 (k : Nat)
abbrev Qjg (R : Nat) (E : Ech) : PV := .rag [.nso 2000000 0 R, .mso 2000002 0 E.piv.length, .bool (decide (E.det.num < 0)), PV.num E.det.num.natAbs, PV.num E.det.den]
structure Qdk (M : MF) (R w tyr : Nat) (π : Nat -> Nat) (hp : HP) : Prop where
 lt : ∀ r, r < R -> π r < R
 inj : ∀ r s, r < R -> s < R -> π r = π s -> r = s
 row : ∀ r, r < R -> hp (3000000 + π r) = some ⟨3, tyr, Q8 PV.rat (M r) w, false⟩
theorem Qdk.set {M M' : MF} {R w tyr r : Nat} {π : Nat -> Nat} {hp : HP} {f : Nat -> Rat} (h : Qdk M R w tyr π hp) (hr : r < R) (h1 : ∀ c, c < w -> M' r c = f c) (h2 : ∀ s, s < R -> s ≠ r -> ∀ c, c < w -> M' s c = M s c) :
  Qdk M' R w tyr π (Qi hp (3000000 + π r) ⟨3, tyr, Q8 PV.rat f w, false⟩) := by
 refine ⟨h.lt, h.inj, fun s hs => ?_⟩
 unfold Qi
 by_cases e : s = r
 ·subst e; rw [if_pos rfl, Qb0 h1]
 ·rw [if_neg (fun e2 => e (h.inj s r hs hr (by omega))), h.row s hs, Qb0 (h2 s hs e)]
theorem Qdk.congr {M M' : MF} {R w tyr : Nat} {π : Nat -> Nat} {hp hp' : HP} (h : Qdk M R w tyr π hp) (h1 : ∀ r, r < R -> ∀ c, c < w -> M' r c = M r c) (h2 : ∀ x, 3000000 <= x -> hp' x = hp x) : Qdk M' R w tyr π hp' :=
 ⟨h.lt, h.inj, fun s hs => by rw [h2 _ (by omega), h.row s hs, Qb0 (h1 s hs)]⟩
theorem Qdk.swap {M : MF} {R w tyr i m : Nat} {π : Nat -> Nat} {hp : HP} (h : Qdk M R w tyr π hp) (hi : i < R) (hm : m < R) : Qdk (Qeu M i m) R w tyr (fun x => if x = m then π i else if x = i then π m else π x) hp := by
 have hl : ∀ r, r < R -> ∃ s, s < R /\ (if r = m then π i else if r = i then π m else π r) = π s /\ Qeu M i m r = M s /\ ((r = m /\ s = i) ∨ (r ≠ m /\ r = i /\ s = m) ∨ (r ≠ m /\ r ≠ i /\ s = r)) := fun r hr => by
  unfold Qeu
  by_cases e : r = m
  ·exact ⟨i, hi, by simp [e], by simp [e], .inl ⟨e, rfl⟩⟩
  ·by_cases e2 : r = i
   ·exact ⟨m, hm, by rw [if_neg e, if_pos e2], by rw [if_neg e, if_pos e2], .inr (.inl ⟨e, e2, rfl⟩)⟩
   ·exact ⟨r, hr, by rw [if_neg e, if_neg e2], by rw [if_neg e, if_neg e2], .inr (.inr ⟨e, e2, rfl⟩)⟩
 refine ⟨fun r hr => ?_, fun r s hr hs e => ?_, fun r hr => ?_⟩
 ·obtain ⟨s, h1, h2, _⟩ := hl r hr
  show (if r = m then π i else if r = i then π m else π r) < R
  rw [h2]; exact h.lt s h1
 ·obtain ⟨a, a1, a2, _, a4⟩ := hl r hr
  obtain ⟨b, b1, b2, _, b4⟩ := hl s hs
  have := h.inj a b a1 b1 (by rw [<- a2, <- b2]; exact e)
  omega
 ·obtain ⟨s, h1, h2, h3, _⟩ := hl r hr
  show hp (3000000 + (if r = m then π i else if r = i then π m else π r)) = _
  rw [h2, h3]; exact h.row s h1
theorem Q8s {fr : Fr} {hp : HP} {R w ty tyr : Nat} {π : Nat -> Nat} {E : Ech} (hg : fr 2000000 = .nst 2000000 1 ty (Qaa (Qap 3000000 R w π))) (hpv : hp 2000002 = some ⟨1, 3, Qto E.piv, false⟩) (hrw : Qdk E.M R w tyr π hp) :
  Qlv fr 2 (Qjg R E) /\ Qid fr hp 2 (Qjg R E) = PV.ech R w E /\ ∀ x ∈ Qpw fr 2 (Qjg R E), 2000000 <= x := by
 have hl : R = (Qap 3000000 R w π).length := (Qua _ _ _ _).symm
 have hm : ∀ x ∈ Qap 3000000 R w π, 2000000 <= x.1 /\ ∃ r, r < R /\ x = (3000000 + π r, w) := fun x hx => by
  obtain ⟨r, hr, rfl⟩ := List.mem_map.1 hx
  exact ⟨by show 2000000 <= 3000000 + π r; omega, r, List.mem_range.1 hr, rfl⟩
 have o1 := Qqy hg hl (by omega) (fun x hx => (hm x hx).1)
 refine ⟨?_, ?_, ?_⟩
 ·intro c hc
  simp only [List.mem_cons, List.not_mem_nil, or_false] at hc
  rcases hc with rfl | rfl | rfl | rfl | rfl
  ·exact o1
  ·simp only [okD, isY]; simp
  ·trivial
  ·trivial
  ·trivial
 ·obtain ⟨ys, hys⟩ : ∃ ys : Nat -> List PV, ∀ r, r < R -> ys (3000000 + π r) = Q8 PV.rat (E.M r) w := by
   refine ⟨fun x => match hp x with | some hb => hb.xs | none => [], fun r hr => ?_⟩
   simp only [hrw.row r hr]
  have o2 := Qtl (hp := hp) (e' := 3) hg hl ys (fun x hx => by
   obtain ⟨_, r, hr, rfl⟩ := hm x hx
   refine ⟨tyr, false, ?_⟩
   show hp (3000000 + π r) = some ⟨3, tyr, ys (3000000 + π r), false⟩
   rw [hys r hr, hrw.row r hr])
  have o3 : dsn fr hp 2 (.nso 2000000 0 R) = .sl 1 (Qoz E.M R w) := by
   refine Eq.trans o2 ?_
   unfold Qoz Qap
   rw [List.map_map]
   congr 1
   refine List.map_congr_left fun r hr => ?_
   simp only [Function.comp, hys r (List.mem_range.1 hr)]
   rw [List.take_of_length_le (by rw [Qa0]; omega)]
  have o4 : dsn fr hp 2 (.mso 2000002 0 E.piv.length) = .sl 1 (Qto E.piv) := by
   simp only [dsn, hpv, List.drop_zero]
   rw [List.take_of_length_le (by simp)]
  show PV.agg [dsn fr hp 2 (.nso 2000000 0 R), dsn fr hp 2 (.mso 2000002 0 E.piv.length), _, _, _] = _
  rw [o3, o4]
  rfl
 ·intro x hx
  obtain ⟨c, hc, hx⟩ := List.mem_flatMap.1 hx
  simp only [List.mem_cons, List.not_mem_nil, or_false] at hc
  rcases hc with rfl | rfl | rfl | rfl | rfl
  ·simp only [rch, hg, List.mem_cons, List.drop_zero] at hx
   rcases hx with rfl | hx
   ·omega
   ·obtain ⟨y, hy, hx⟩ := List.mem_flatMap.1 hx
    obtain ⟨z, hz, rfl⟩ := List.mem_map.1 (List.mem_of_mem_take hy)
    have := (hm z hz).1
    simp only [PV.ncells, PV.cells, List.flatMap_cons, List.flatMap_nil, rch, List.append_nil, List.mem_singleton] at hx
    omega
  ·simp only [rch, List.mem_singleton] at hx; omega
  ·simp [rch] at hx
  ·simp [rch] at hx
  ·simp [rch] at hx
theorem Qtp {M : MF} {R w n K ty tyr : Nat} (hR : 0 < R) (hR2 : R <= 40) (hw : w <= 40) (hn : n <= w) (hK : K <= 2 ^ 20) (hB : ∀ k, k <= n -> MBd K R w (Qbz R M k).M /\ rs (Qbz R M k).det <= K) :
  Qb3 Tryz.prog 77 [.nso 2000000 0 R, .int .i64 (n : Nat)] (upd (fun _ => .undef) 2000000 (.nst 2000000 1 ty (Qaa (Qap 3000000 R w id))))
   (fun x => if x = 2000000 then some ⟨1, ty, [], false⟩ else if 3000000 <= x /\ x < 3000000 + R then some ⟨3, tyr, Q8 PV.rat (M (x - 3000000)) w, false⟩ else none)
   (fun r _ _ => r = PV.ech R w (Qbz R M n)) := by
 refine Qec Qn Tryz.func77 rfl Qzz (by simp [c77]) fun C hP => ?_; simp only [c77]
 have hN : ∀ r, r < R -> (3000000 + r < 3000000 + R) := fun r h => by omega
 simp +decide (disch := first | omega | rfl | (simp +decide only [go_sem, ↓reduceIte] <;> rfl) | fail) only [go_sem, ↓reduceIte]
 refine Qa hP (Qp1 (x := 1) (by omega) (by omega)) rfl rfl rfl ?_
 simp +decide (disch := first | omega | rfl | (simp +decide only [go_sem, ↓reduceIte] <;> rfl) | fail) only [go_sem, ↓reduceIte]
 refine Qdt (Qrj 5 2000001 rfl (by omega) rfl (by omega)) ?_
 simp +decide (disch := first | omega | rfl | (simp +decide only [go_sem, ↓reduceIte] <;> rfl) | fail) only [go_sem, ↓reduceIte]
 refine Qdt (Qs5 (γ := 2000001) (e := 5) (ty := 93) (xs := [.agg [.nilS, .nilS, .bool false, .nilS, .nilS]]) (fz := false) (by simp +decide (disch := first | omega | rfl | (simp +decide only [go_sem, ↓reduceIte] <;> rfl) | fail) only [go_sem, ↓reduceIte]) (by simp) (by omega) (fun x hx => by rw [List.mem_singleton.1 hx]; rfl)) ?_
 simp +decide (disch := first | omega | rfl | (simp +decide only [go_sem, ↓reduceIte] <;> rfl) | fail) only [go_sem, ↓reduceIte]
 refine Qdt (Q8p (γ := 2000001) (e := 5) (ty := 93) (cs := [.nso 2000000 0 R, .nilS, .bool false, PV.num ((1 : Int) : Rat).num.natAbs, PV.num ((1 : Int) : Rat).den]) (cs' := [.nso 2000000 0 R, .mso 2000002 0 0, .bool false, PV.num ((1 : Int) : Rat).num.natAbs, PV.num ((1 : Int) : Rat).den]) 2000002 1 3 (by simp +decide (disch := first | omega | rfl | (simp +decide only [go_sem, ↓reduceIte] <;> rfl) | fail) only [go_sem, ↓reduceIte]) (by simp +decide (disch := first | omega | rfl | (simp +decide only [go_sem, ↓reduceIte] <;> rfl) | fail) only [go_sem, ↓reduceIte]) (by omega) (by omega) rfl (by simp)) ?_
 simp +decide (disch := first | omega | rfl | (simp +decide only [go_sem, ↓reduceIte] <;> rfl) | fail) only [go_sem, ↓reduceIte]
 refine Qcp (by repeat (first | exact Q2 | exact Qu | exact Qv | exact Qw | exact Qx | apply Qt | apply Qz | apply Q7 | apply Qad | apply Qae | apply Qp | apply Q5)) [(0, 0), (5, 11), (16, 135), (2000000, 2000001)] [9, 132, 133] (fun m J hp => ∃ k π, m = n - k /\ k <= n /\ J 0 = .nso 2000000 0 R /\ J 5 = .np 2000001 0 0 /\ J 16 = .int .i64 (k : Nat) /\ J 2000000 = .nst 2000000 1 ty (Qaa (Qap 3000000 R w π)) /\ J 2000001 = .nst 2000001 5 93 [Qjg R (Qbz R M k)] /\
   hp 2000000 = some ⟨1, ty, [], false⟩ /\ hp 2000001 = some ⟨5, 93, [], false⟩ /\ hp 2000002 = some ⟨1, 3, Qto (Qbz R M k).piv, false⟩ /\ hp 4 = some ⟨5, 93, [.agg [.nilS, .nilS, .bool false, .nilS, .nilS]], false⟩ /\ Qdk (Qbz R M k).M R w tyr π hp) n ?_ ?_
 ·refine ⟨0, id, rfl, by omega, ?_⟩
  simp +decide (disch := first | omega | rfl | (simp +decide only [go_sem, ↓reduceIte] <;> rfl) | fail) only [go_sem, ↓reduceIte]
  refine ⟨rfl, rfl, rfl, fun r hr => hr, fun r s _ _ e => e, fun r hr => ?_⟩
  simp +decide (disch := first | omega | rfl | (simp +decide only [go_sem, ↓reduceIte, id, Nat.add_sub_cancel_left, hr] <;> rfl) | fail) only [go_sem, ↓reduceIte, id, Nat.add_sub_cancel_left, hr]
  rw [if_pos ⟨by omega, by omega⟩]
  rfl
 rintro _ J h ⟨k, π, rfl, hk, j0, j5, j16, jg, jb, hg, hb, hpv, h4, hrw⟩
 simp +decide (disch := first | omega | rfl | (simp +decide only [go_sem, ↓reduceIte, j16] <;> rfl) | fail) only [go_sem, ↓reduceIte, j16]
 refine Qb (fun hc => ?_) (fun hc => ?_)
 ·have hk' : k < n := by omega
  have hkw : k < w := by omega
  have hB0 := hB k hk
  have hB1 := hB (k + 1) hk'
  have hpl := Qtc R M k
  have hS : Qbz R M (k + 1) = Qk0 R (Qbz R M k) k := rfl
  obtain ⟨E, hE⟩ : ∃ E, Qbz R M k = E := ⟨_, rfl⟩
  rw [hS] at hB1
  rw [hE] at hB0 hB1 hpl jb hpv hrw hS
  simp +decide (disch := first | omega | rfl | (simp +decide only [go_sem, ↓reduceIte, j0, j5, j16, jg, jb, hg, hb, hpv, h4] <;> rfl) | fail) only [go_sem, ↓reduceIte, j0, j5, j16, jg, jb, hg, hb, hpv, h4]
  refine Qcp (by repeat (first | exact Q2 | exact Qu | exact Qv | exact Qw | exact Qx | apply Qt | apply Qz | apply Q7 | apply Qad | apply Qae | apply Qp | apply Q5)) [(0, 0), (5, 5), (8, 8), (23, 39), (2000000, 2000001)] [] (fun q J hp => ∃ i, q = R - i /\ E.piv.length <= i /\ i <= R /\ Qp0 E.M k (R - i) i = Qie E.M R k E.piv.length /\ J 0 = .nso 2000000 0 R /\ J 5 = .np 2000001 0 0 /\ J 8 = .int .i64 (i : Nat) /\ J 2000000 = .nst 2000000 1 ty (Qaa (Qap 3000000 R w π)) /\ J 2000001 = .nst 2000001 5 93 [Qjg R E] /\ h = hp) (R - E.piv.length) ?_ ?_
  ·refine ⟨E.piv.length, rfl, Nat.le_refl _, hpl.2.1, rfl, ?_⟩
   simp +decide (disch := first | omega | rfl | (simp +decide only [go_sem, ↓reduceIte, j0, j5, jg, jb] <;> rfl) | fail) only [go_sem, ↓reduceIte, j0, j5, jg, jb]
  rintro _ J2 _ ⟨i, rfl, hi1, hi2, hpi, i0, i5, i8, ig, ib, rfl⟩
  simp +decide (disch := first | omega | rfl | (simp +decide only [go_sem, ↓reduceIte, i0, i8, ig, hg] <;> rfl) | fail) only [go_sem, ↓reduceIte, i0, i8, ig, hg]
  have hfin : i = Qie E.M R k E.piv.length -> True := fun _ => trivial
  refine Qbp (fun hg1 => ?_) (fun hg1 => ?_)
  ·have hi : i < R := by omega
   have hri := hrw.row i hi
   simp +decide (disch := first | omega | rfl | (simp +decide only [go_sem, ↓reduceIte, i0, i8, ig, hg, hri] <;> rfl) | fail) only [go_sem, ↓reduceIte, i0, i8, ig, hg, hri]
   refine Qa hP (Qly (a := E.M i k) (by have := hB0.1 i hi k hkw; omega)) rfl rfl rfl ?_
   simp +decide (disch := first | omega | rfl | (simp +decide only [go_sem, ↓reduceIte, i0, i8, ig, hg, hri] <;> rfl) | fail) only [go_sem, ↓reduceIte, i0, i8, ig, hg, hri]
   refine Qb (fun hz => ?_) (fun hz => ?_)
   ·simp +decide (disch := first | omega | rfl | (simp +decide only [go_sem, ↓reduceIte, i8] <;> rfl) | fail) only [go_sem, ↓reduceIte, i8]
    refine Qbx (R - (i + 1)) (by omega) ⟨i + 1, rfl, by omega, by omega, ?_⟩
    simp +decide (disch := first | omega | rfl | (simp +decide only [go_sem, ↓reduceIte, i0, i5, ig, ib] <;> rfl) | fail) only [go_sem, ↓reduceIte, i0, i5, ig, ib]
    rw [<- hpi, show R - i = (R - (i + 1)) + 1 by omega]
    exact (if_pos (Qda.1 hz)).symm
   ·have hM0 : E.M i k ≠ 0 := fun e => hz (Qda.2 e)
    have hpe : Qie E.M R k E.piv.length = i := by
     rw [<- hpi, show R - i = (R - (i + 1)) + 1 by omega]
     exact if_neg hM0
    generalize hm : E.piv.length = m at *
    have hmR : m < R := by omega
    have hS2 : Qk0 R E k = ⟨Qrk (Qmp (Qeu E.M i m) m (E.M i k)) m k, E.piv ++ [k], (if i = m then E.det else -E.det) * E.M i k⟩ := by
     unfold Qk0; rw [hm, hpe, if_neg (by omega)]
    rw [hS2] at hB1 hS
    simp +decide (disch := first | omega | rfl | (simp +decide only [go_sem, ↓reduceIte, i0, i8, show ¬ i = R from by omega, show ¬ ((i : Int) = (R : Int)) from by omega] <;> rfl) | fail) only [go_sem, ↓reduceIte, i0, i8, show ¬ i = R from by omega, show ¬ ((i : Int) = (R : Int)) from by omega]
    simp (disch := decide) only [Qcs, Qdb, Qcy, Qdv]
    refine Qwz (by repeat (first | exact Q2 | exact Qu | exact Qv | exact Qw | exact Qx | apply Qt | apply Qz | apply Q7 | apply Qad | apply Qae | apply Qp | apply Q5)) [(0, 0), (5, 5), (47, 64), (2000000, 2000001)] [] (fun J hp => ∃ π', J 0 = .nso 2000000 0 R /\ J 5 = .np 2000001 0 0 /\ J 2000000 = .nst 2000000 1 ty (Qaa (Qap 3000000 R w π')) /\ J 2000001 = .nst 2000001 5 93 [Qjg R ⟨E.M, E.piv, if i = m then E.det else -E.det⟩] /\ h = hp /\ Qdk (Qeu E.M i m) R w tyr π' hp) ?_ ?_
    ·refine Qb (fun hs => ?_) (fun hs => ?_)
     ·have him : ¬ i = m := by omega
      have hq := Q44 (a := E.det) (k := K) (by omega) (by omega)
      simp +decide (disch := first | omega | rfl | (simp +decide only [go_sem, ↓reduceIte, i0, i5, i8, ig, ib, hg, hb] <;> rfl) | fail) only [go_sem, ↓reduceIte, i0, i5, i8, ig, ib, hg, hb]
      refine Qa hP hq rfl rfl rfl ?_
      simp +decide (disch := first | omega | rfl | (simp +decide only [go_sem, ↓reduceIte, i0, i5, i8, ig, ib, hg, hb] <;> rfl) | fail) only [go_sem, ↓reduceIte, i0, i5, i8, ig, ib, hg, hb]
      refine Qjs ⟨fun x => if x = m then π i else if x = i then π m else π x, ?_⟩
      simp +decide (disch := first | omega | rfl | (simp +decide only [go_sem, ↓reduceIte, i0, i5, i8, ig, ib, hg, hb, him] <;> rfl) | fail) only [go_sem, ↓reduceIte, i0, i5, i8, ig, ib, hg, hb, him]
      exact hrw.swap hi hmR
     ·obtain rfl : i = m := by omega
      simp only [bse, Qbv]
      simp +decide (disch := first | omega | rfl | (simp +decide only [go_sem, ↓reduceIte] <;> rfl) | fail) only [go_sem, ↓reduceIte]
      refine Qjs ⟨π, ?_⟩
      simp +decide (disch := first | omega | rfl | (simp +decide only [go_sem, ↓reduceIte, i0, i5, i8, ig, ib, hg, hb] <;> rfl) | fail) only [go_sem, ↓reduceIte, i0, i5, i8, ig, ib, hg, hb]
      refine hrw.congr (fun r hr c hc => ?_) (fun _ _ => rfl)
      unfold Qeu
      by_cases e : r = i
      ·subst e; rw [if_pos rfl]
      ·rw [if_neg e, if_neg e]
    rintro J3 _ ⟨π', k0, k5, kg, kb, rfl, kr⟩
    simp (disch := decide) only [Qcs, Qdb, Qcy, Qdv]
    have krm := kr.row m hmR
    have hsm : ∀ c, Qeu E.M i m m c = E.M i c := fun c => by unfold Qeu; rw [if_pos rfl]
    simp +decide (disch := first | omega | rfl | (simp +decide only [go_sem, ↓reduceIte, k0, k5, kg, kb, hg, krm, hsm] <;> rfl) | fail) only [go_sem, ↓reduceIte, k0, k5, kg, kb, hg, krm, hsm]
    have hd1 : rs (if i = m then E.det else -E.det) <= K := by
     split
     ·exact hB0.2
     ·rw [Qyw]; exact hB0.2
    have hpk := hB0.1 i hi k hkw
    refine Qa hP (Qmr (a := if i = m then E.det else -E.det) (b := E.M i k) hd1 hpk (by omega)) rfl rfl rfl ?_
    generalize hpE : E.M i k = pv at *
    simp +decide (disch := first | omega | rfl | (simp +decide only [go_sem, ↓reduceIte, k0, k5, kg, kb, hg, hb, krm, hsm] <;> rfl) | fail) only [go_sem, ↓reduceIte, k0, k5, kg, kb, hg, hb, krm, hsm]
    refine Qcp (by repeat (first | exact Q2 | exact Qu | exact Qv | exact Qw | exact Qx | apply Qt | apply Qz | apply Q7 | apply Qad | apply Qae | apply Qp | apply Q5)) [(0, 0), (5, 5), (10, 10), (82, 103), (2000000, 2000001)] [] (fun q J hp => ∃ c, q = w - c /\ c <= w /\ J 0 = .nso 2000000 0 R /\ J 5 = .np 2000001 0 0 /\ J 82 = .int .i64 (c : Nat) /\ J 2000000 = .nst 2000000 1 ty (Qaa (Qap 3000000 R w π')) /\ J 2000001 = .nst 2000001 5 93 [Qjg R ⟨E.M, E.piv, (if i = m then E.det else -E.det) * pv⟩] /\
      hp 2000000 = some ⟨1, ty, [], false⟩ /\ hp 2000001 = some ⟨5, 93, [], false⟩ /\ hp 2000002 = some ⟨1, 3, Qto E.piv, false⟩ /\ hp 4 = some ⟨5, 93, [.agg [.nilS, .nilS, .bool false, .nilS, .nilS]], false⟩ /\ hp 9 = some ⟨3, 32, [PV.rat pv], false⟩ /\
      Qdk (fun r c' => if r = m /\ c' < c then Qeu E.M i m r c' / pv else Qeu E.M i m r c') R w tyr π' hp) w ?_ ?_
    ·refine ⟨0, rfl, by omega, ?_⟩
     simp +decide (disch := first | omega | rfl | (simp +decide only [go_sem, ↓reduceIte, k0, k5, kg, kb, hg, hb, hpv, h4] <;> rfl) | fail) only [go_sem, ↓reduceIte, k0, k5, kg, kb, hg, hb, hpv, h4]
     refine ⟨rfl, kr.congr (fun r hr c hc => if_neg (by omega)) (fun x hx => ?_)⟩
     simp +decide (disch := first | omega | rfl | (simp +decide only [go_sem, ↓reduceIte, show ¬ x = 9 from by omega] <;> rfl) | fail) only [go_sem, ↓reduceIte, show ¬ x = 9 from by omega]
    rintro _ J4 h2 ⟨c, rfl, hc2, m0, m5, m82, mg, mb, n0, n1, n2, n4, n9, mr⟩
    simp +decide (disch := first | omega | rfl | (simp +decide only [go_sem, ↓reduceIte, m82] <;> rfl) | fail) only [go_sem, ↓reduceIte, m82]
    refine Qb (fun hcw => ?_) (fun hcw => ?_)
    ·have hcw' : c < w := by omega
     have mrm := mr.row m hmR
     have hmc := hB0.1 i hi c hcw'
     have hdv := Qwu (a := E.M i c) (b := pv) hmc hpk (by omega) hM0
     simp +decide (disch := first | omega | rfl | (simp +decide only [go_sem, ↓reduceIte, m0, m5, mg, mb, m82, n0, n9, mrm, Nat.lt_irrefl c, hsm] <;> rfl) | fail) only [go_sem, ↓reduceIte, m0, m5, mg, mb, m82, n0, n9, mrm, Nat.lt_irrefl c, hsm]
     refine Qa hP hdv rfl rfl rfl ?_
     simp +decide (disch := first | omega | rfl | (simp +decide only [go_sem, ↓reduceIte, m0, m5, mg, mb, m82, n0, n9, mrm, Nat.lt_irrefl c, hsm] <;> rfl) | fail) only [go_sem, ↓reduceIte, m0, m5, mg, mb, m82, n0, n9, mrm, Nat.lt_irrefl c, hsm]
     rw [Qp2 hcw']
     simp +decide (disch := first | omega | rfl | (simp +decide only [go_sem, ↓reduceIte, m82] <;> rfl) | fail) only [go_sem, ↓reduceIte, m82]
     refine Qbx (w - (c + 1)) (by omega) ⟨c + 1, rfl, by omega, ?_⟩
     simp +decide (disch := first | omega | rfl | (simp +decide only [go_sem, ↓reduceIte, m0, m5, mg, mb, n0, n1, n2, n4, n9] <;> rfl) | fail) only [go_sem, ↓reduceIte, m0, m5, mg, mb, n0, n1, n2, n4, n9]
     refine mr.set hmR (fun c' hc' => ?_) (fun s hs hsm' c' hc' => ?_)
     ·by_cases e : c' = c
      ·subst e; rw [if_pos rfl, if_pos ⟨rfl, by omega⟩, hsm]
      ·rw [if_neg e]
       by_cases e2 : c' < c
       ·rw [if_pos ⟨rfl, by omega⟩, if_pos e2, hsm]
       ·rw [if_neg (by omega), if_neg e2, hsm]
     ·rw [if_neg (fun e => hsm' e.1), if_neg (fun e => hsm' e.1)]
    ·have hcw' : c = w := by omega
     have mr2 : Qdk (Qmp (Qeu E.M i m) m pv) R w tyr π' h2 := mr.congr (fun r hr c' hc' => by
      unfold Qmp
      by_cases e : r = m
      ·rw [if_pos e, if_pos ⟨e, by omega⟩, e]
      ·rw [if_neg e, if_neg (fun e2 => e e2.1)]) (fun _ _ => rfl)
     clear mr
     obtain ⟨N, hN2⟩ : ∃ N, Qmp (Qeu E.M i m) m pv = N := ⟨_, rfl⟩
     rw [hN2] at mr2 hB1
     have hNm : ∀ c', c' < w -> rs (N m c') <= K := fun c' hc' => by
      simpa only [Qrk, if_true] using hB1.1 m hmR c' hc'
     have hNr : ∀ r', r' < R -> r' ≠ m -> ∀ c', c' < w -> rs (N r' c') <= K := fun r' hr' hne c' hc' => by
      rw [<- hN2]
      unfold Qmp Qeu
      rw [if_neg hne, if_neg hne]
      split
      ·exact hB0.1 m hmR c' hc'
      ·exact hB0.1 r' hr' c' hc'
     simp +decide (disch := first | omega | rfl | (simp +decide only [go_sem, ↓reduceIte, m0, m5, mg, mb, m82, n0] <;> rfl) | fail) only [go_sem, ↓reduceIte, m0, m5, mg, mb, m82, n0]
     simp (disch := decide) only [Qcs, Qdb, Qcy, Qdv]
     refine Qcp (by repeat (first | exact Q2 | exact Qu | exact Qv | exact Qw | exact Qx | apply Qt | apply Qz | apply Q7 | apply Qad | apply Qae | apply Qp | apply Q5)) [(0, 0), (5, 5), (11, 11), (106, 128), (2000000, 2000001)] [] (fun q J hp => ∃ r, q = R - r /\ r <= R /\ J 0 = .nso 2000000 0 R /\ J 5 = .np 2000001 0 0 /\ J 106 = .int .i64 (r : Nat) /\ J 2000000 = .nst 2000000 1 ty (Qaa (Qap 3000000 R w π')) /\ J 2000001 = .nst 2000001 5 93 [Qjg R ⟨E.M, E.piv, (if i = m then E.det else -E.det) * pv⟩] /\
      hp 2000000 = some ⟨1, ty, [], false⟩ /\ hp 2000001 = some ⟨5, 93, [], false⟩ /\ hp 2000002 = some ⟨1, 3, Qto E.piv, false⟩ /\ hp 4 = some ⟨5, 93, [.agg [.nilS, .nilS, .bool false, .nilS, .nilS]], false⟩ /\
      Qdk (fun r' c' => if r' = m ∨ r <= r' then N r' c' else N r' c' - N r' k * N m c') R w tyr π' hp) R ?_ ?_
     ·refine ⟨0, rfl, by omega, ?_⟩
      simp +decide (disch := first | omega | rfl | (simp +decide only [go_sem, ↓reduceIte, m0, m5, mg, mb, n0, n1, n2, n4] <;> rfl) | fail) only [go_sem, ↓reduceIte, m0, m5, mg, mb, n0, n1, n2, n4]
      refine ⟨rfl, mr2.congr (fun r hr c' hc' => if_pos (.inr (by omega))) (fun _ _ => rfl)⟩
     rintro _ J5 h3 ⟨r, rfl, hr2, u0, u5, u106, ug, ub, v0, v1, v2, v4, ur⟩
     simp +decide (disch := first | omega | rfl | (simp +decide only [go_sem, ↓reduceIte, u106] <;> rfl) | fail) only [go_sem, ↓reduceIte, u106]
     refine Qb (fun hrR => ?_) (fun hrR => ?_)
     ·have hr : r < R := by omega
      simp +decide (disch := first | omega | rfl | (simp +decide only [go_sem, ↓reduceIte, u106] <;> rfl) | fail) only [go_sem, ↓reduceIte, u106]
      refine Qb (fun hrm => ?_) (fun hrm => ?_)
      ·have e0 : ¬ r = m := by omega
       have ur1 : h3 (3000000 + π' r) = some ⟨3, tyr, Q8 PV.rat (N r) w, false⟩ := by rw [ur.row r hr, Qb0 fun c' _ => if_pos (.inr (Nat.le_refl r))]
       have ur2 : h3 (3000000 + π' m) = some ⟨3, tyr, Q8 PV.rat (N m) w, false⟩ := by rw [ur.row m hmR, Qb0 fun c' _ => if_pos (.inl rfl)]
       simp +decide (disch := first | omega | rfl | (simp +decide only [go_sem, ↓reduceIte, u0, u5, ug, ub, v0, v1, v2, v4, ur1, ur2, e0, Nat.le_refl r] <;> rfl) | fail) only [go_sem, ↓reduceIte, u0, u5, ug, ub, v0, v1, v2, v4, ur1, ur2, e0, Nat.le_refl r]
       have hne : 3000000 + π' r ≠ 3000000 + π' m := fun e => e0 (ur.inj r m hr hmR (by omega))
       have sub := Qww (w := w) (x := N r) (y := N m) (c := N r k) (ty1 := tyr) (ty2 := tyr) (k := K) (K := 0) (by omega) (by omega) (hNr r hr e0) hNm (hNr r hr e0 k hkw) (by omega)
       refine Qaap hP sub ur1 ur2 hne rfl (Qpz (by omega)) (by simp [isB]; omega) (by simp +decide (disch := first | omega | rfl | (simp +decide only [go_sem, ↓reduceIte, show ¬ π' m = π' r from fun e => hne (by omega)] <;> rfl) | fail) only [go_sem, ↓reduceIte, show ¬ π' m = π' r from fun e => hne (by omega)]) (fun γ hγ => by simpa [PV.refs, PV.sref] using hγ) (by simp) ?_
       rintro _ xs _ ⟨rfl, rfl⟩
       simp +decide (disch := first | omega | rfl | (simp +decide only [go_sem, ↓reduceIte, u106] <;> rfl) | fail) only [go_sem, ↓reduceIte, u106]
       refine Qbx (R - (r + 1)) (by omega) ⟨r + 1, rfl, by omega, ?_⟩
       simp +decide (disch := first | omega | rfl | (simp +decide only [go_sem, ↓reduceIte, u0, u5, ug, ub, v0, v1, v2, v4] <;> rfl) | fail) only [go_sem, ↓reduceIte, u0, u5, ug, ub, v0, v1, v2, v4]
       refine ur.set hr (fun c' hc' => ?_) (fun s hs hsr c' hc' => ?_)
       ·rw [if_neg (by omega)]
       ·by_cases e : s = m
        ·rw [if_pos (.inl e), if_pos (.inl e)]
        ·by_cases e2 : r <= s
         ·rw [if_pos (.inr (by omega)), if_pos (.inr e2)]
         ·rw [if_neg (by omega), if_neg (by omega)]
      ·obtain rfl : r = m := by omega
       simp +decide (disch := first | omega | rfl | (simp +decide only [go_sem, ↓reduceIte, u106] <;> rfl) | fail) only [go_sem, ↓reduceIte, u106]
       refine Qbx (R - (r + 1)) (by omega) ⟨r + 1, rfl, by omega, ?_⟩
       simp +decide (disch := first | omega | rfl | (simp +decide only [go_sem, ↓reduceIte, u0, u5, ug, ub, v0, v1, v2, v4] <;> rfl) | fail) only [go_sem, ↓reduceIte, u0, u5, ug, ub, v0, v1, v2, v4]
       refine ur.congr (fun r' hr' c' hc' => ?_) (fun _ _ => rfl)
       by_cases e : r' = r
       ·rw [if_pos (.inl e), if_pos (.inl e)]
       ·by_cases e2 : r <= r'
        ·rw [if_pos (.inr (by omega)), if_pos (.inr e2)]
        ·rw [if_neg (by omega), if_neg (by omega)]
     ·simp (disch := decide) only [Qcs, Qdb, Qcy, Qdv]
      simp +decide (disch := first | omega | rfl | (simp +decide only [go_sem, ↓reduceIte, u0, u5, ug, ub, v0, v1, v2, v4] <;> rfl) | fail) only [go_sem, ↓reduceIte, u0, u5, ug, ub, v0, v1, v2, v4]
      rw [Qt9 (f := fun k : Nat => PV.int .i64 (k : Nat)) (y := k) (xs := E.piv) (ty' := 3) (fz := false) (by simp +decide (disch := first | omega | rfl | (simp +decide only [go_sem, ↓reduceIte, v2] <;> rfl) | fail) only [go_sem, ↓reduceIte, v2]) (by simp +decide (disch := first | omega | rfl | (simp +decide only [go_sem, ↓reduceIte] <;> rfl) | fail) only [go_sem, ↓reduceIte]) (by omega) rfl (by omega) (by omega) (by omega)]
      simp +decide (disch := first | omega | rfl | (simp +decide only [go_sem, ↓reduceIte, u0, u5, ug, ub, v0, v1, v2, v4, j16] <;> rfl) | fail) only [go_sem, ↓reduceIte, u0, u5, ug, ub, v0, v1, v2, v4, j16]
      refine Qbx (n - (k + 1)) (by omega) ⟨k + 1, π', rfl, by omega, ?_⟩
      rw [hS, hN2]
      simp +decide (disch := first | omega | rfl | (simp +decide only [go_sem, ↓reduceIte, u0, u5, ug, ub, v0, v1, v2, v4] <;> rfl) | fail) only [go_sem, ↓reduceIte, u0, u5, ug, ub, v0, v1, v2, v4]
      refine ⟨by simp only [Qjg, List.length_append, List.length_singleton], ur.congr (fun r' hr' c' hc' => ?_) (fun x hx => ?_)⟩
      ·unfold Qrk
       by_cases e : r' = m
       ·rw [if_pos e, if_pos (.inl e), e]
       ·rw [if_neg e, if_neg (by omega)]
      ·simp +decide (disch := first | omega | rfl | (simp +decide only [go_sem, ↓reduceIte, show ¬ x = 132 from by omega, show ¬ x = 2000002 from by omega] <;> rfl) | fail) only [go_sem, ↓reduceIte, show ¬ x = 132 from by omega, show ¬ x = 2000002 from by omega]
  ·obtain rfl : i = R := by omega
   simp +decide (disch := first | omega | rfl | (simp +decide only [go_sem, ↓reduceIte, i0, i8, j16] <;> rfl) | fail) only [go_sem, ↓reduceIte, i0, i8, j16]
   have e1 : Qk0 i E k = E := by
    unfold Qk0
    rw [if_pos]
    rw [<- hpi, Nat.sub_self]; rfl
   simp (disch := decide) only [Qcs, Qdb, Qcy, Qdv]
   refine Qbx (n - (k + 1)) (by omega) ⟨k + 1, π, rfl, by omega, ?_⟩
   rw [hS, e1]
   simp +decide (disch := first | omega | rfl | (simp +decide only [go_sem, ↓reduceIte, i0, i5, ig, ib] <;> rfl) | fail) only [go_sem, ↓reduceIte, i0, i5, ig, ib]
   exact ⟨hg, hb, hpv, h4, hrw⟩
 ·obtain rfl : k = n := by omega
  simp +decide (disch := first | omega | rfl | (simp +decide only [go_sem, ↓reduceIte, j0, j5, jb, hg, hb] <;> rfl) | fail) only [go_sem, ↓reduceIte, j0, j5, jb, hg, hb]
  refine Qabx 136 2 (p := Qjg R (Qbz R M k)) (by simp +decide (disch := first | omega | rfl | (simp +decide only [go_sem, ↓reduceIte] <;> rfl) | fail) only [go_sem, ↓reduceIte]) (Q8s (ty := ty) (tyr := tyr) (by simp +decide (disch := first | omega | rfl | (simp +decide only [go_sem, ↓reduceIte, jg] <;> rfl) | fail) only [go_sem, ↓reduceIte, jg]) hpv hrw) fun l hl => ?_
  have hf4 := (Qw0 (hp := h) hl (x := 4) (by omega)).trans h4
  simp +decide (disch := first | omega | rfl | (simp +decide only [go_sem, ↓reduceIte, hf4] <;> rfl) | fail) only [go_sem, ↓reduceIte, hf4]
  refine Qdu (Qaz ?_)
  simp +decide (disch := first | omega | rfl | (simp +decide only [go_sem, ↓reduceIte, hf4] <;> rfl) | fail) only [go_sem, ↓reduceIte, hf4]
  exact Qc rfl rfl
end Go.Proofs.YtmnkngmmfnncoaaGreat
namespace Go.Proofs.YtmnkngmmfnncoaaGreat
open Go Go.FW
set_option linter.unusedSimpArgs false
set_option linter.unusedVariables false
set_option maxRecDepth 100000
theorem Qqz {l : List RQ} (hl : Qcl l) : Qf Tryz.prog 89 [PV.rqs l] (· = .bool (l.all Qfd)) := by
 have hll := hl.1
 refine Qh Qn Tryz.func89 rfl Qaa8 (by simp [c89]) fun C hP => ?_; simp only [c89]
 simp +decide (disch := first | omega | rfl | (simp +decide only [go_sem, ↓reduceIte] <;> rfl) | fail) only [go_sem, ↓reduceIte]
 refine Qaj (by repeat (first | exact Q2 | exact Qu | exact Qv | exact Qw | exact Qx | apply Qt | apply Qz | apply Q7 | apply Qad | apply Qae | apply Qp | apply Q5)) [(2, 2), (4, 4), (7, 14)] [4] (fun m J hp => ∃ i, m = l.length - i /\ i <= l.length /\ (∀ j (h : j < l.length), j < i -> Qfd l[j] = true) /\ J 7 = .int .i64 (i : Nat)) l.length ?_ ?_
 ·refine ⟨0, rfl, by omega, by omega, ?_⟩
  simp +decide (disch := first | omega | rfl | (simp +decide only [go_sem, ↓reduceIte] <;> rfl) | fail) only [go_sem, ↓reduceIte]
  rfl
 rintro _ J h ⟨i, rfl, hi, h1, h7⟩
 simp +decide (disch := first | omega | rfl | (simp +decide only [go_sem, ↓reduceIte, h7] <;> rfl) | fail) only [go_sem, ↓reduceIte, h7]
 refine Qb (fun hg => ?_) (fun hg => ?_)
 ·skip
  have hi' : i < l.length := by omega
  have hbt := hl.2 _ (List.getElem_mem hi')
  have hmem := List.getElem_mem hi'
  have hadd : Qfd l[i] = true -> ∀ j (h : j < l.length), j < i + 1 -> Qfd l[j] = true := fun h j hj hji => by
   by_cases e : j = i
   ·subst e; exact h
   ·exact h1 j hj (by omega)
  generalize hx : l[i] = x at *
  simp +decide (disch := first | omega | rfl | (simp +decide only [go_sem, ↓reduceIte, h7, hx] <;> rfl) | fail) only [go_sem, ↓reduceIte, h7, hx]
  refine Qa hP (Que hbt (by omega)) rfl rfl rfl ?_
  have hs0 : Qfd x = Qhk x.n x.a x.d := rfl
  simp +decide (disch := first | omega | rfl | (simp +decide only [go_sem, ↓reduceIte, h7, <- hs0] <;> rfl) | fail) only [go_sem, ↓reduceIte, h7, <- hs0]
  cases hs : Qfd x
  ·simp +decide (disch := first | omega | rfl | (simp +decide only [go_sem, ↓reduceIte, h7, hs] <;> rfl) | fail) only [go_sem, ↓reduceIte, h7, hs]
   refine Qc ?_ rfl
   congr 1
   symm
   rw [List.all_eq_false]; exact ⟨x, hmem, by simp [hs]⟩
  ·simp +decide (disch := first | omega | rfl | (simp +decide only [go_sem, ↓reduceIte, h7, hs] <;> rfl) | fail) only [go_sem, ↓reduceIte, h7, hs]
   refine Qac (l.length - (i + 1)) (by omega) ⟨i + 1, rfl, by omega, hadd hs, ?_⟩
   simp +decide (disch := first | omega | rfl | (simp +decide only [go_sem, ↓reduceIte] <;> rfl) | fail) only [go_sem, ↓reduceIte]
 ·obtain rfl : i = l.length := by omega
  simp +decide (disch := first | omega | rfl | (simp +decide only [go_sem, ↓reduceIte] <;> rfl) | fail) only [go_sem, ↓reduceIte]
  refine Qc ?_ rfl
  congr 1
  symm
  rw [List.all_eq_true]
  intro t ht
  obtain ⟨j, hj, rfl⟩ := List.getElem_of_mem ht
  exact h1 j hj hj
theorem Qo0 {l : List RQ} (hl : Qcl l) : Qf Tryz.prog 90 [PV.rqs l] (· = .bool (l.all Qfd)) := by
 have hll := hl.1
 refine Qh Qn Tryz.func90 rfl Qabd (by simp [c90]) fun C hP => ?_; simp only [c90]
 simp +decide (disch := first | omega | rfl | (simp +decide only [go_sem, ↓reduceIte] <;> rfl) | fail) only [go_sem, ↓reduceIte]
 refine Qaj (by repeat (first | exact Q2 | exact Qu | exact Qv | exact Qw | exact Qx | apply Qt | apply Qz | apply Q7 | apply Qad | apply Qae | apply Qp | apply Q5)) [(2, 15)] [] (fun m J hp => ∃ i, m = l.length - i /\ i <= l.length /\ (∀ j (h : j < l.length), j < i -> Qfd l[j] = true) /\ J 3 = .int .i64 (i : Nat)) l.length ?_ ?_
 ·refine ⟨0, rfl, by omega, by omega, ?_⟩
  simp +decide (disch := first | omega | rfl | (simp +decide only [go_sem, ↓reduceIte] <;> rfl) | fail) only [go_sem, ↓reduceIte]
  rfl
 rintro _ J h ⟨i, rfl, hi, h1, h3⟩
 simp +decide (disch := first | omega | rfl | (simp +decide only [go_sem, ↓reduceIte, h3] <;> rfl) | fail) only [go_sem, ↓reduceIte, h3]
 refine Qb (fun hg => ?_) (fun hg => ?_)
 ·skip
  have hi' : i < l.length := by omega
  have hbt := hl.2 _ (List.getElem_mem hi')
  have hmem := List.getElem_mem hi'
  have hadd : Qfd l[i] = true -> ∀ j (h : j < l.length), j < i + 1 -> Qfd l[j] = true := fun h j hj hji => by
   by_cases e : j = i
   ·subst e; exact h
   ·exact h1 j hj (by omega)
  generalize hx : l[i] = x at *
  simp +decide (disch := first | omega | rfl | (simp +decide only [go_sem, ↓reduceIte, h3, hx] <;> rfl) | fail) only [go_sem, ↓reduceIte, h3, hx]
  refine Qa hP (Qrd hbt (by omega)) rfl rfl rfl ?_
  have hs0 : Qfd x = Qhk x.n x.a x.d := rfl
  simp +decide (disch := first | omega | rfl | (simp +decide only [go_sem, ↓reduceIte, h3, <- hs0] <;> rfl) | fail) only [go_sem, ↓reduceIte, h3, <- hs0]
  cases hs : Qfd x
  ·simp +decide (disch := first | omega | rfl | (simp +decide only [go_sem, ↓reduceIte, h3, hs] <;> rfl) | fail) only [go_sem, ↓reduceIte, h3, hs]
   refine Qc ?_ rfl
   congr 1
   symm
   rw [List.all_eq_false]; exact ⟨x, hmem, by simp [hs]⟩
  ·simp +decide (disch := first | omega | rfl | (simp +decide only [go_sem, ↓reduceIte, h3, hs] <;> rfl) | fail) only [go_sem, ↓reduceIte, h3, hs]
   refine Qac (l.length - (i + 1)) (by omega) ⟨i + 1, rfl, by omega, hadd hs, ?_⟩
   simp +decide (disch := first | omega | rfl | (simp +decide only [go_sem, ↓reduceIte] <;> rfl) | fail) only [go_sem, ↓reduceIte]
 ·obtain rfl : i = l.length := by omega
  simp +decide (disch := first | omega | rfl | (simp +decide only [go_sem, ↓reduceIte] <;> rfl) | fail) only [go_sem, ↓reduceIte]
  refine Qc ?_ rfl
  congr 1
  symm
  rw [List.all_eq_true]
  intro t ht
  obtain ⟨j, hj, rfl⟩ := List.getElem_of_mem ht
  exact h1 j hj hj
theorem Qp3 {r c : Int} {l : List RQ} (hl : Qcl l) : Qf Tryz.prog 25 [PV.rmat r c l] (· = .bool (Qby r c l)) := by
 refine Qh Qn Tryz.func25 rfl Qaa7 (by simp [c25]) fun C hP => ?_; simp only [c25]
 have hll := hl.1
 simp +decide (disch := first | omega | rfl | (simp +decide only [go_sem, ↓reduceIte] <;> rfl) | fail) only [go_sem, ↓reduceIte]
 by_cases h1 : r < 0
 ·simp +decide (disch := first | omega | rfl | (simp +decide only [go_sem, ↓reduceIte, h1] <;> rfl) | fail) only [go_sem, ↓reduceIte, h1]
  exact Qc (by rw [Qby, decide_eq_false (by omega)]; rfl) rfl
 simp +decide (disch := first | omega | rfl | (simp +decide only [go_sem, ↓reduceIte, h1] <;> rfl) | fail) only [go_sem, ↓reduceIte, h1]
 by_cases h2 : 40 < r
 ·simp +decide (disch := first | omega | rfl | (simp +decide only [go_sem, ↓reduceIte, h2] <;> rfl) | fail) only [go_sem, ↓reduceIte, h2]
  exact Qc (by rw [Qby, decide_eq_false (by omega)]; rfl) rfl
 simp +decide (disch := first | omega | rfl | (simp +decide only [go_sem, ↓reduceIte, h2] <;> rfl) | fail) only [go_sem, ↓reduceIte, h2]
 by_cases h3 : c < 0
 ·simp +decide (disch := first | omega | rfl | (simp +decide only [go_sem, ↓reduceIte, h3] <;> rfl) | fail) only [go_sem, ↓reduceIte, h3]
  exact Qc (by rw [Qby, decide_eq_false (by omega)]; rfl) rfl
 simp +decide (disch := first | omega | rfl | (simp +decide only [go_sem, ↓reduceIte, h3] <;> rfl) | fail) only [go_sem, ↓reduceIte, h3]
 by_cases h4 : 40 < c
 ·simp +decide (disch := first | omega | rfl | (simp +decide only [go_sem, ↓reduceIte, h4] <;> rfl) | fail) only [go_sem, ↓reduceIte, h4]
  exact Qc (by rw [Qby, decide_eq_false (by omega)]; rfl) rfl
 obtain ⟨R, rfl⟩ := Int.eq_ofNat_of_zero_le (show 0 <= r by omega)
 obtain ⟨m, rfl⟩ := Int.eq_ofNat_of_zero_le (show 0 <= c by omega)
 have hRm : R * m <= 40 * 40 := Nat.mul_le_mul (by omega) (by omega)
 have e1 : (R : Int) * (m : Int) = ((R * m : Nat) : Int) := by rw [Int.natCast_mul]
 simp +decide (disch := first | omega | rfl | (simp +decide only [go_sem, ↓reduceIte, h4, e1] <;> rfl) | fail) only [go_sem, ↓reduceIte, h4, e1]
 refine Qb (fun hl2 => ?_) (fun hl2 => ?_)
 ·simp +decide (disch := first | omega | rfl | (simp +decide only [go_sem, ↓reduceIte] <;> rfl) | fail) only [go_sem, ↓reduceIte]
  exact Qc (by rw [Qby, e1, decide_eq_false (fun h => hl2 h.2.2.2.2)]; rfl) rfl
 simp +decide (disch := first | omega | rfl | (simp +decide only [go_sem, ↓reduceIte] <;> rfl) | fail) only [go_sem, ↓reduceIte]
 refine Qa hP (Qqz hl) rfl rfl rfl ?_
 simp +decide (disch := first | omega | rfl | (simp +decide only [go_sem, ↓reduceIte] <;> rfl) | fail) only [go_sem, ↓reduceIte]
 exact Qc (by rw [Qby, e1, decide_eq_true ⟨by omega, by omega, by omega, by omega, by omega⟩, Bool.true_and]) rfl
theorem Qtq {r c : Int} {l : List RQ} (hl : Qcl l) : Qf Tryz.prog 26 [PV.rmat r c l] (· = .bool (Qby r c l)) := by
 refine Qh Qn Tryz.func26 rfl Qabc (by simp [c26]) fun C hP => ?_; simp only [c26]
 have hll := hl.1
 simp +decide (disch := first | omega | rfl | (simp +decide only [go_sem, ↓reduceIte] <;> rfl) | fail) only [go_sem, ↓reduceIte]
 by_cases h1 : r < 0
 ·simp +decide (disch := first | omega | rfl | (simp +decide only [go_sem, ↓reduceIte, h1] <;> rfl) | fail) only [go_sem, ↓reduceIte, h1]
  exact Qc (by rw [Qby, decide_eq_false (by omega)]; rfl) rfl
 simp +decide (disch := first | omega | rfl | (simp +decide only [go_sem, ↓reduceIte, h1] <;> rfl) | fail) only [go_sem, ↓reduceIte, h1]
 by_cases h2 : 40 < r
 ·simp +decide (disch := first | omega | rfl | (simp +decide only [go_sem, ↓reduceIte, h2] <;> rfl) | fail) only [go_sem, ↓reduceIte, h2]
  exact Qc (by rw [Qby, decide_eq_false (by omega)]; rfl) rfl
 simp +decide (disch := first | omega | rfl | (simp +decide only [go_sem, ↓reduceIte, h2] <;> rfl) | fail) only [go_sem, ↓reduceIte, h2]
 by_cases h3 : c < 0
 ·simp +decide (disch := first | omega | rfl | (simp +decide only [go_sem, ↓reduceIte, h3] <;> rfl) | fail) only [go_sem, ↓reduceIte, h3]
  exact Qc (by rw [Qby, decide_eq_false (by omega)]; rfl) rfl
 simp +decide (disch := first | omega | rfl | (simp +decide only [go_sem, ↓reduceIte, h3] <;> rfl) | fail) only [go_sem, ↓reduceIte, h3]
 by_cases h4 : 40 < c
 ·simp +decide (disch := first | omega | rfl | (simp +decide only [go_sem, ↓reduceIte, h4] <;> rfl) | fail) only [go_sem, ↓reduceIte, h4]
  exact Qc (by rw [Qby, decide_eq_false (by omega)]; rfl) rfl
 obtain ⟨R, rfl⟩ := Int.eq_ofNat_of_zero_le (show 0 <= r by omega)
 obtain ⟨m, rfl⟩ := Int.eq_ofNat_of_zero_le (show 0 <= c by omega)
 have hRm : R * m <= 40 * 40 := Nat.mul_le_mul (by omega) (by omega)
 have e1 : (R : Int) * (m : Int) = ((R * m : Nat) : Int) := by rw [Int.natCast_mul]
 simp +decide (disch := first | omega | rfl | (simp +decide only [go_sem, ↓reduceIte, h4, e1] <;> rfl) | fail) only [go_sem, ↓reduceIte, h4, e1]
 refine Qb (fun hl2 => ?_) (fun hl2 => ?_)
 ·simp +decide (disch := first | omega | rfl | (simp +decide only [go_sem, ↓reduceIte] <;> rfl) | fail) only [go_sem, ↓reduceIte]
  exact Qc (by rw [Qby, e1, decide_eq_false (fun h => hl2 h.2.2.2.2)]; rfl) rfl
 simp +decide (disch := first | omega | rfl | (simp +decide only [go_sem, ↓reduceIte] <;> rfl) | fail) only [go_sem, ↓reduceIte]
 refine Qa hP (Qo0 hl) rfl rfl rfl ?_
 simp +decide (disch := first | omega | rfl | (simp +decide only [go_sem, ↓reduceIte] <;> rfl) | fail) only [go_sem, ↓reduceIte]
 exact Qc (by rw [Qby, e1, decide_eq_true ⟨by omega, by omega, by omega, by omega, by omega⟩, Bool.true_and]) rfl
def Qi0 (r c : Int) (l : List RQ) : PV := if 0 <= r /\ r <= 40 /\ 0 <= c /\ c <= 40 then (if (l.length : Int) = r * c then (if l.all Qfd then .tup [PV.rmat r c l, .int .i64 0] else .tup [PV.rmat 0 0 [], .int .i64 1]) else .tup [PV.rmat 0 0 [], .int .i64 16]) else .tup [PV.rmat 0 0 [], .int .i64 2]
theorem Q0b {r c : Int} {l : List RQ} (hl : Qcl l) : Qf Tryz.prog 21 [.int .i64 r, .int .i64 c, PV.rqs l] (· = Qi0 r c l) := by
 refine Qh Qn Tryz.func21 rfl Qaa9 (by simp [c21]) fun C hP => ?_; simp only [c21]
 have hll := hl.1
 simp +decide (disch := first | omega | rfl | (simp +decide only [go_sem, ↓reduceIte] <;> rfl) | fail) only [go_sem, ↓reduceIte]
 unfold Qi0
 by_cases h0 : ¬ (0 <= r /\ r <= 40 /\ 0 <= c /\ c <= 40)
 ·rw [if_neg h0]
  by_cases h1 : r < 0
  ·simp +decide (disch := first | omega | rfl | (simp +decide only [go_sem, ↓reduceIte, h1] <;> rfl) | fail) only [go_sem, ↓reduceIte, h1]
   refine Qba ?_
   simp +decide (disch := first | omega | rfl | (simp +decide only [go_sem, ↓reduceIte] <;> rfl) | fail) only [go_sem, ↓reduceIte]
   exact Qbo rfl rfl rfl Qdr (Qm _)
  simp +decide (disch := first | omega | rfl | (simp +decide only [go_sem, ↓reduceIte, h1] <;> rfl) | fail) only [go_sem, ↓reduceIte, h1]
  by_cases h2 : 40 < r
  ·simp +decide (disch := first | omega | rfl | (simp +decide only [go_sem, ↓reduceIte, h2] <;> rfl) | fail) only [go_sem, ↓reduceIte, h2]
   refine Qba ?_
   simp +decide (disch := first | omega | rfl | (simp +decide only [go_sem, ↓reduceIte] <;> rfl) | fail) only [go_sem, ↓reduceIte]
   exact Qbo rfl rfl rfl Qdr (Qm _)
  simp +decide (disch := first | omega | rfl | (simp +decide only [go_sem, ↓reduceIte, h2] <;> rfl) | fail) only [go_sem, ↓reduceIte, h2]
  by_cases h3 : c < 0
  ·simp +decide (disch := first | omega | rfl | (simp +decide only [go_sem, ↓reduceIte, h3] <;> rfl) | fail) only [go_sem, ↓reduceIte, h3]
   refine Qba ?_
   simp +decide (disch := first | omega | rfl | (simp +decide only [go_sem, ↓reduceIte] <;> rfl) | fail) only [go_sem, ↓reduceIte]
   exact Qbo rfl rfl rfl Qdr (Qm _)
  have h4 : 40 < c := by omega
  simp +decide (disch := first | omega | rfl | (simp +decide only [go_sem, ↓reduceIte, h3, h4] <;> rfl) | fail) only [go_sem, ↓reduceIte, h3, h4]
  refine Qba ?_
  simp +decide (disch := first | omega | rfl | (simp +decide only [go_sem, ↓reduceIte] <;> rfl) | fail) only [go_sem, ↓reduceIte]
  exact Qbo rfl rfl rfl Qdr (Qm _)
 have h0 := Classical.not_not.1 h0
 rw [if_pos h0]
 obtain ⟨R, rfl⟩ := Int.eq_ofNat_of_zero_le (show 0 <= r by omega)
 obtain ⟨m, rfl⟩ := Int.eq_ofNat_of_zero_le (show 0 <= c by omega)
 have hRm : R * m <= 40 * 40 := Nat.mul_le_mul (by omega) (by omega)
 have e1 : (R : Int) * (m : Int) = ((R * m : Nat) : Int) := by rw [Int.natCast_mul]
 simp +decide (disch := first | omega | rfl | (simp +decide only [go_sem, ↓reduceIte, show ¬ (R : Int) < 0 from by omega, show ¬ (m : Int) < 0 from by omega, show ¬ 40 < (R : Int) from by omega, show ¬ 40 < (m : Int) from by omega, e1] <;> rfl) | fail) only [go_sem, ↓reduceIte, show ¬ (R : Int) < 0 from by omega, show ¬ (m : Int) < 0 from by omega, show ¬ 40 < (R : Int) from by omega, show ¬ 40 < (m : Int) from by omega, e1]
 refine Qb (fun hl2 => ?_) (fun hl2 => ?_)
 ·rw [if_neg hl2]
  simp +decide (disch := first | omega | rfl | (simp +decide only [go_sem, ↓reduceIte] <;> rfl) | fail) only [go_sem, ↓reduceIte]
  refine Qba ?_
  simp +decide (disch := first | omega | rfl | (simp +decide only [go_sem, ↓reduceIte] <;> rfl) | fail) only [go_sem, ↓reduceIte]
  exact Qbo rfl rfl rfl Qdr (Qm _)
 rw [if_pos (by omega)]
 simp +decide (disch := first | omega | rfl | (simp +decide only [go_sem, ↓reduceIte] <;> rfl) | fail) only [go_sem, ↓reduceIte]
 refine Qa hP (Qqz hl) rfl rfl rfl ?_
 cases hq : l.all Qfd
 ·simp +decide (disch := first | omega | rfl | (simp +decide only [go_sem, ↓reduceIte] <;> rfl) | fail) only [go_sem, ↓reduceIte]
  refine Qba ?_
  simp +decide (disch := first | omega | rfl | (simp +decide only [go_sem, ↓reduceIte] <;> rfl) | fail) only [go_sem, ↓reduceIte]
  exact Qbo rfl rfl rfl Qdr (Qm _)
 simp +decide (disch := first | omega | rfl | (simp +decide only [go_sem, ↓reduceIte] <;> rfl) | fail) only [go_sem, ↓reduceIte]
 rw [Qacs (xs := l.map PV.rq) rfl rfl (by simp +decide (disch := first | omega | rfl | (simp +decide only [go_sem, ↓reduceIte] <;> rfl) | fail) only [go_sem, ↓reduceIte] <;> rfl) (by simp)]
 simp +decide (disch := first | omega | rfl | (simp +decide only [go_sem, ↓reduceIte, Ql, List.contains_cons, List.contains_nil, List.flatMap_cons, List.flatMap_nil, List.append_nil] <;> rfl) | fail) only [go_sem, ↓reduceIte, Ql, List.contains_cons, List.contains_nil, List.flatMap_cons, List.flatMap_nil, List.append_nil]
 refine Qba ?_
 simp +decide (disch := first | omega | rfl | (simp +decide only [go_sem, ↓reduceIte] <;> rfl) | fail) only [go_sem, ↓reduceIte]
 exact Qbo rfl rfl rfl (Qm _) (Qm _)
theorem Q8t {r c : Int} {l : List RQ} (hl : Qcl l) : Qf Tryz.prog 22 [.int .i64 r, .int .i64 c, PV.rqs l] (· = Qi0 r c l) := by
 refine Qh Qn Tryz.func22 rfl Qabe (by simp [c22]) fun C hP => ?_; simp only [c22]
 have hll := hl.1
 simp +decide (disch := first | omega | rfl | (simp +decide only [go_sem, ↓reduceIte] <;> rfl) | fail) only [go_sem, ↓reduceIte]
 unfold Qi0
 by_cases h0 : ¬ (0 <= r /\ r <= 40 /\ 0 <= c /\ c <= 40)
 ·rw [if_neg h0]
  by_cases h1 : r < 0
  ·simp +decide (disch := first | omega | rfl | (simp +decide only [go_sem, ↓reduceIte, h1] <;> rfl) | fail) only [go_sem, ↓reduceIte, h1]
   refine Qba ?_
   simp +decide (disch := first | omega | rfl | (simp +decide only [go_sem, ↓reduceIte] <;> rfl) | fail) only [go_sem, ↓reduceIte]
   exact Qbo rfl rfl rfl Qdr (Qm _)
  simp +decide (disch := first | omega | rfl | (simp +decide only [go_sem, ↓reduceIte, h1] <;> rfl) | fail) only [go_sem, ↓reduceIte, h1]
  by_cases h2 : 40 < r
  ·simp +decide (disch := first | omega | rfl | (simp +decide only [go_sem, ↓reduceIte, h2] <;> rfl) | fail) only [go_sem, ↓reduceIte, h2]
   refine Qba ?_
   simp +decide (disch := first | omega | rfl | (simp +decide only [go_sem, ↓reduceIte] <;> rfl) | fail) only [go_sem, ↓reduceIte]
   exact Qbo rfl rfl rfl Qdr (Qm _)
  simp +decide (disch := first | omega | rfl | (simp +decide only [go_sem, ↓reduceIte, h2] <;> rfl) | fail) only [go_sem, ↓reduceIte, h2]
  by_cases h3 : c < 0
  ·simp +decide (disch := first | omega | rfl | (simp +decide only [go_sem, ↓reduceIte, h3] <;> rfl) | fail) only [go_sem, ↓reduceIte, h3]
   refine Qba ?_
   simp +decide (disch := first | omega | rfl | (simp +decide only [go_sem, ↓reduceIte] <;> rfl) | fail) only [go_sem, ↓reduceIte]
   exact Qbo rfl rfl rfl Qdr (Qm _)
  have h4 : 40 < c := by omega
  simp +decide (disch := first | omega | rfl | (simp +decide only [go_sem, ↓reduceIte, h3, h4] <;> rfl) | fail) only [go_sem, ↓reduceIte, h3, h4]
  refine Qba ?_
  simp +decide (disch := first | omega | rfl | (simp +decide only [go_sem, ↓reduceIte] <;> rfl) | fail) only [go_sem, ↓reduceIte]
  exact Qbo rfl rfl rfl Qdr (Qm _)
 have h0 := Classical.not_not.1 h0
 rw [if_pos h0]
 obtain ⟨R, rfl⟩ := Int.eq_ofNat_of_zero_le (show 0 <= r by omega)
 obtain ⟨m, rfl⟩ := Int.eq_ofNat_of_zero_le (show 0 <= c by omega)
 have hRm : R * m <= 40 * 40 := Nat.mul_le_mul (by omega) (by omega)
 have e1 : (R : Int) * (m : Int) = ((R * m : Nat) : Int) := by rw [Int.natCast_mul]
 simp +decide (disch := first | omega | rfl | (simp +decide only [go_sem, ↓reduceIte, show ¬ (R : Int) < 0 from by omega, show ¬ (m : Int) < 0 from by omega, show ¬ 40 < (R : Int) from by omega, show ¬ 40 < (m : Int) from by omega, e1] <;> rfl) | fail) only [go_sem, ↓reduceIte, show ¬ (R : Int) < 0 from by omega, show ¬ (m : Int) < 0 from by omega, show ¬ 40 < (R : Int) from by omega, show ¬ 40 < (m : Int) from by omega, e1]
 refine Qb (fun hl2 => ?_) (fun hl2 => ?_)
 ·rw [if_neg hl2]
  simp +decide (disch := first | omega | rfl | (simp +decide only [go_sem, ↓reduceIte] <;> rfl) | fail) only [go_sem, ↓reduceIte]
  refine Qba ?_
  simp +decide (disch := first | omega | rfl | (simp +decide only [go_sem, ↓reduceIte] <;> rfl) | fail) only [go_sem, ↓reduceIte]
  exact Qbo rfl rfl rfl Qdr (Qm _)
 rw [if_pos (by omega)]
 simp +decide (disch := first | omega | rfl | (simp +decide only [go_sem, ↓reduceIte] <;> rfl) | fail) only [go_sem, ↓reduceIte]
 refine Qa hP (Qo0 hl) rfl rfl rfl ?_
 cases hq : l.all Qfd
 ·simp +decide (disch := first | omega | rfl | (simp +decide only [go_sem, ↓reduceIte] <;> rfl) | fail) only [go_sem, ↓reduceIte]
  refine Qba ?_
  simp +decide (disch := first | omega | rfl | (simp +decide only [go_sem, ↓reduceIte] <;> rfl) | fail) only [go_sem, ↓reduceIte]
  exact Qbo rfl rfl rfl Qdr (Qm _)
 simp +decide (disch := first | omega | rfl | (simp +decide only [go_sem, ↓reduceIte] <;> rfl) | fail) only [go_sem, ↓reduceIte]
 refine Qba ?_
 simp +decide (disch := first | omega | rfl | (simp +decide only [go_sem, ↓reduceIte] <;> rfl) | fail) only [go_sem, ↓reduceIte]
 exact Qbo rfl rfl rfl (Qm _) (Qm _)
def atR (r c : Int) (l : List RQ) (i k : Int) : PV := if Qby r c l then (if 0 <= i /\ i < r /\ 0 <= k /\ k < c then .tup [PV.rq (l.getD (i * c + k).toNat default), .int .i64 0] else .tup [PV.rr false [] [], .int .i64 2]) else .tup [PV.rr false [] [], .int .i64 1]
theorem m_At {r c i k : Int} {l : List RQ} (hl : Qcl l) : Qf Tryz.prog 23 [PV.rmat r c l, .int .i64 i, .int .i64 k] (· = atR r c l i k) := by
 refine Qh Qn Tryz.func23 rfl Qaba (by simp [c23]) fun C hP => ?_; simp only [c23]
 unfold atR
 have hll := hl.1
 simp +decide (disch := first | omega | rfl | (simp +decide only [go_sem, ↓reduceIte] <;> rfl) | fail) only [go_sem, ↓reduceIte]
 refine Qa hP (Qp3 hl) rfl rfl rfl ?_
 cases hok : Qby r c l
 ·simp +decide (disch := first | omega | rfl | (simp +decide only [go_sem, ↓reduceIte] <;> rfl) | fail) only [go_sem, ↓reduceIte]
  refine Qba ?_
  simp +decide (disch := first | omega | rfl | (simp +decide only [go_sem, ↓reduceIte] <;> rfl) | fail) only [go_sem, ↓reduceIte]
  exact Qbo rfl rfl rfl Qeo (Qm _)
 have hok' := hok
 unfold Qby at hok'
 rw [Bool.and_eq_true, decide_eq_true_eq] at hok'
 obtain ⟨⟨h1, h2, h3, h4, h5⟩, _⟩ := hok'
 simp +decide (disch := first | omega | rfl | (simp +decide only [go_sem, ↓reduceIte] <;> rfl) | fail) only [go_sem, ↓reduceIte]
 by_cases h0 : ¬ (0 <= i /\ i < r /\ 0 <= k /\ k < c)
 ·rw [if_neg h0]
  by_cases h1 : i < 0
  ·simp +decide (disch := first | omega | rfl | (simp +decide only [go_sem, ↓reduceIte, h1] <;> rfl) | fail) only [go_sem, ↓reduceIte, h1]
   refine Qba ?_
   simp +decide (disch := first | omega | rfl | (simp +decide only [go_sem, ↓reduceIte] <;> rfl) | fail) only [go_sem, ↓reduceIte]
   exact Qbo rfl rfl rfl Qeo (Qm _)
  simp +decide (disch := first | omega | rfl | (simp +decide only [go_sem, ↓reduceIte, h1] <;> rfl) | fail) only [go_sem, ↓reduceIte, h1]
  by_cases h2 : r <= i
  ·simp +decide (disch := first | omega | rfl | (simp +decide only [go_sem, ↓reduceIte, h2] <;> rfl) | fail) only [go_sem, ↓reduceIte, h2]
   refine Qba ?_
   simp +decide (disch := first | omega | rfl | (simp +decide only [go_sem, ↓reduceIte] <;> rfl) | fail) only [go_sem, ↓reduceIte]
   exact Qbo rfl rfl rfl Qeo (Qm _)
  simp +decide (disch := first | omega | rfl | (simp +decide only [go_sem, ↓reduceIte, h2] <;> rfl) | fail) only [go_sem, ↓reduceIte, h2]
  by_cases h3 : k < 0
  ·simp +decide (disch := first | omega | rfl | (simp +decide only [go_sem, ↓reduceIte, h3] <;> rfl) | fail) only [go_sem, ↓reduceIte, h3]
   refine Qba ?_
   simp +decide (disch := first | omega | rfl | (simp +decide only [go_sem, ↓reduceIte] <;> rfl) | fail) only [go_sem, ↓reduceIte]
   exact Qbo rfl rfl rfl Qeo (Qm _)
  have h4 : c <= k := by omega
  simp +decide (disch := first | omega | rfl | (simp +decide only [go_sem, ↓reduceIte, h3, h4] <;> rfl) | fail) only [go_sem, ↓reduceIte, h3, h4]
  refine Qba ?_
  simp +decide (disch := first | omega | rfl | (simp +decide only [go_sem, ↓reduceIte] <;> rfl) | fail) only [go_sem, ↓reduceIte]
  exact Qbo rfl rfl rfl Qeo (Qm _)
 have h0 := Classical.not_not.1 h0
 rw [if_pos h0]
 obtain ⟨R, rfl⟩ := Int.eq_ofNat_of_zero_le (show 0 <= r by omega)
 obtain ⟨m, rfl⟩ := Int.eq_ofNat_of_zero_le (show 0 <= c by omega)
 obtain ⟨i, rfl⟩ := Int.eq_ofNat_of_zero_le (show 0 <= i by omega)
 obtain ⟨k, rfl⟩ := Int.eq_ofNat_of_zero_le (show 0 <= k by omega)
 have hRm : R * m <= 40 * 40 := Nat.mul_le_mul (by omega) (by omega)
 have him : (i + 1) * m <= R * m := Nat.mul_le_mul_right _ (by omega)
 have him2 : (i + 1) * m = i * m + m := by rw [Nat.add_mul, Nat.one_mul]
 have e2 : (R : Int) * (m : Int) = ((R * m : Nat) : Int) := by rw [Int.natCast_mul]
 have e1 : (i : Int) * (m : Int) = ((i * m : Nat) : Int) := by rw [Int.natCast_mul]
 have hi2 : i * m + k < l.length := by omega
 have e3 : (((i * m : Nat) : Int) + (k : Int)).toNat = i * m + k := by omega
 have e4 : l.getD (i * m + k) default = l[i * m + k] := by rw [List.getD_eq_getElem?_getD, List.getElem?_eq_getElem hi2]; rfl
 rw [e1, e3, e4]
 simp +decide (disch := first | omega | rfl | (simp +decide only [go_sem, ↓reduceIte, show ¬ (i : Int) < 0 from by omega, show ¬ (k : Int) < 0 from by omega, show ¬ (R : Int) <= (i : Int) from by omega, show ¬ (m : Int) <= (k : Int) from by omega, e1] <;> rfl) | fail) only [go_sem, ↓reduceIte, show ¬ (i : Int) < 0 from by omega, show ¬ (k : Int) < 0 from by omega, show ¬ (R : Int) <= (i : Int) from by omega, show ¬ (m : Int) <= (k : Int) from by omega, e1]
 refine Qba ?_
 simp +decide (disch := first | omega | rfl | (simp +decide only [go_sem, ↓reduceIte] <;> rfl) | fail) only [go_sem, ↓reduceIte]
 exact Qbo rfl rfl rfl (Qm _) (Qm _)
theorem Q8u {R m i k : Nat} {l : List RQ} (hl : Qcl l) (h : l.length = R * m) (hi : i < R) (hk : k < m) : Qf Tryz.prog 91 [PV.rmat R m l, .int .i64 i, .int .i64 k] (· = PV.rq (l.getD (i * m + k) default)) := by
 have hll := hl.1
 have him : (i + 1) * m <= R * m := Nat.mul_le_mul_right _ (by omega)
 have him2 : (i + 1) * m = i * m + m := by rw [Nat.add_mul, Nat.one_mul]
 have e1 : (i : Int) * (m : Int) = ((i * m : Nat) : Int) := by rw [Int.natCast_mul]
 have hi2 : i * m + k < l.length := by omega
 have e3 : (((i * m : Nat) : Int) + (k : Int)).toNat = i * m + k := by omega
 have e4 : l.getD (i * m + k) default = l[i * m + k] := by rw [List.getD_eq_getElem?_getD, List.getElem?_eq_getElem hi2]; rfl
 rw [e4]
 refine Qh Qn Tryz.func91 rfl Qabf (by simp [c91]) fun C hP => ?_; simp only [c91]
 simp +decide (disch := first | omega | rfl | (simp +decide only [go_sem, ↓reduceIte, e1] <;> rfl) | fail) only [go_sem, ↓reduceIte, e1]
 refine Qaz ?_
 simp +decide (disch := first | omega | rfl | (simp +decide only [go_sem, ↓reduceIte] <;> rfl) | fail) only [go_sem, ↓reduceIte]
 exact Qc rfl rfl
theorem Qac7 {r c i k : Int} {l : List RQ} (hl : Qcl l) : Qf Tryz.prog 24 [PV.rmat r c l, .int .i64 i, .int .i64 k] (· = atR r c l i k) := by
 refine Qh Qn Tryz.func24 rfl Qabg (by simp [c24]) fun C hP => ?_; simp only [c24]
 unfold atR
 have hll := hl.1
 simp +decide (disch := first | omega | rfl | (simp +decide only [go_sem, ↓reduceIte] <;> rfl) | fail) only [go_sem, ↓reduceIte]
 refine Qa hP (Qtq hl) rfl rfl rfl ?_
 cases hok : Qby r c l
 ·simp +decide (disch := first | omega | rfl | (simp +decide only [go_sem, ↓reduceIte] <;> rfl) | fail) only [go_sem, ↓reduceIte]
  refine Qba ?_
  simp +decide (disch := first | omega | rfl | (simp +decide only [go_sem, ↓reduceIte] <;> rfl) | fail) only [go_sem, ↓reduceIte]
  exact Qbo rfl rfl rfl Qeo (Qm _)
 have hok' := hok
 unfold Qby at hok'
 rw [Bool.and_eq_true, decide_eq_true_eq] at hok'
 obtain ⟨⟨h1, h2, h3, h4, h5⟩, _⟩ := hok'
 simp +decide (disch := first | omega | rfl | (simp +decide only [go_sem, ↓reduceIte] <;> rfl) | fail) only [go_sem, ↓reduceIte]
 by_cases h0 : ¬ (0 <= i /\ i < r /\ 0 <= k /\ k < c)
 ·rw [if_neg h0]
  by_cases h1 : i < 0
  ·simp +decide (disch := first | omega | rfl | (simp +decide only [go_sem, ↓reduceIte, h1] <;> rfl) | fail) only [go_sem, ↓reduceIte, h1]
   refine Qba ?_
   simp +decide (disch := first | omega | rfl | (simp +decide only [go_sem, ↓reduceIte] <;> rfl) | fail) only [go_sem, ↓reduceIte]
   exact Qbo rfl rfl rfl Qeo (Qm _)
  simp +decide (disch := first | omega | rfl | (simp +decide only [go_sem, ↓reduceIte, h1] <;> rfl) | fail) only [go_sem, ↓reduceIte, h1]
  by_cases h2 : r <= i
  ·simp +decide (disch := first | omega | rfl | (simp +decide only [go_sem, ↓reduceIte, h2] <;> rfl) | fail) only [go_sem, ↓reduceIte, h2]
   refine Qba ?_
   simp +decide (disch := first | omega | rfl | (simp +decide only [go_sem, ↓reduceIte] <;> rfl) | fail) only [go_sem, ↓reduceIte]
   exact Qbo rfl rfl rfl Qeo (Qm _)
  simp +decide (disch := first | omega | rfl | (simp +decide only [go_sem, ↓reduceIte, h2] <;> rfl) | fail) only [go_sem, ↓reduceIte, h2]
  by_cases h3 : k < 0
  ·simp +decide (disch := first | omega | rfl | (simp +decide only [go_sem, ↓reduceIte, h3] <;> rfl) | fail) only [go_sem, ↓reduceIte, h3]
   refine Qba ?_
   simp +decide (disch := first | omega | rfl | (simp +decide only [go_sem, ↓reduceIte] <;> rfl) | fail) only [go_sem, ↓reduceIte]
   exact Qbo rfl rfl rfl Qeo (Qm _)
  have h4 : c <= k := by omega
  simp +decide (disch := first | omega | rfl | (simp +decide only [go_sem, ↓reduceIte, h3, h4] <;> rfl) | fail) only [go_sem, ↓reduceIte, h3, h4]
  refine Qba ?_
  simp +decide (disch := first | omega | rfl | (simp +decide only [go_sem, ↓reduceIte] <;> rfl) | fail) only [go_sem, ↓reduceIte]
  exact Qbo rfl rfl rfl Qeo (Qm _)
 have h0 := Classical.not_not.1 h0
 rw [if_pos h0]
 obtain ⟨R, rfl⟩ := Int.eq_ofNat_of_zero_le (show 0 <= r by omega)
 obtain ⟨m, rfl⟩ := Int.eq_ofNat_of_zero_le (show 0 <= c by omega)
 obtain ⟨i, rfl⟩ := Int.eq_ofNat_of_zero_le (show 0 <= i by omega)
 obtain ⟨k, rfl⟩ := Int.eq_ofNat_of_zero_le (show 0 <= k by omega)
 have hRm : R * m <= 40 * 40 := Nat.mul_le_mul (by omega) (by omega)
 have him : (i + 1) * m <= R * m := Nat.mul_le_mul_right _ (by omega)
 have him2 : (i + 1) * m = i * m + m := by rw [Nat.add_mul, Nat.one_mul]
 have e2 : (R : Int) * (m : Int) = ((R * m : Nat) : Int) := by rw [Int.natCast_mul]
 have e1 : (i : Int) * (m : Int) = ((i * m : Nat) : Int) := by rw [Int.natCast_mul]
 have hi2 : i * m + k < l.length := by omega
 have e3 : (((i * m : Nat) : Int) + (k : Int)).toNat = i * m + k := by omega
 have e4 : l.getD (i * m + k) default = l[i * m + k] := by rw [List.getD_eq_getElem?_getD, List.getElem?_eq_getElem hi2]; rfl
 rw [e1, e3, e4]
 simp +decide (disch := first | omega | rfl | (simp +decide only [go_sem, ↓reduceIte, show ¬ (i : Int) < 0 from by omega, show ¬ (k : Int) < 0 from by omega, show ¬ (R : Int) <= (i : Int) from by omega, show ¬ (m : Int) <= (k : Int) from by omega, e1] <;> rfl) | fail) only [go_sem, ↓reduceIte, show ¬ (i : Int) < 0 from by omega, show ¬ (k : Int) < 0 from by omega, show ¬ (R : Int) <= (i : Int) from by omega, show ¬ (m : Int) <= (k : Int) from by omega, e1]
 refine Qa hP (Q8u hl (by omega) (by omega) (by omega)) rfl rfl rfl ?_
 rw [e4]
 simp +decide (disch := first | omega | rfl | (simp +decide only [go_sem, ↓reduceIte] <;> rfl) | fail) only [go_sem, ↓reduceIte]
 refine Qba ?_
 simp +decide (disch := first | omega | rfl | (simp +decide only [go_sem, ↓reduceIte] <;> rfl) | fail) only [go_sem, ↓reduceIte]
 exact Qbo rfl rfl rfl (Qm _) (Qm _)
def RRk (k : Nat) (l : List RQ) : Prop := ∀ q ∈ l, Raw k q.n q.a q.d
theorem Qcl.k {l : List RQ} (h : Qcl l) : RRk 1048576 l := h.2
theorem RRk.of {l : List Rat} {k : Nat} (h : ∀ q ∈ l, rs q <= k) : RRk k (l.map qR) := fun x hx => by
 obtain ⟨q, hq, rfl⟩ := List.mem_map.1 hx
 exact Qdj (h q hq)
theorem Qnb {a b : List RQ} {k : Nat} (ha : RRk k a) (hb : RRk k b) (hk : k < 2 ^ 34) (la : a.length < 2 ^ 40) (lb : b.length < 2 ^ 40) : Qf Tryz.prog 33 [PV.rqs a, PV.rqs b] (· = .bool (decide (a.map rqV = b.map rqV))) := by
 refine Qh Qn Tryz.func33 rfl Qabi (by simp [c33]) fun C hP => ?_; simp only [c33]
 simp +decide (disch := first | omega | rfl | (simp +decide only [go_sem, ↓reduceIte] <;> rfl) | fail) only [go_sem, ↓reduceIte]
 refine Qb (fun hg => ?_) (fun hg => ?_)
 ·simp +decide (disch := first | omega | rfl | (simp +decide only [go_sem, ↓reduceIte] <;> rfl) | fail) only [go_sem, ↓reduceIte]
  refine Qc ?_ rfl
  rw [decide_eq_false]
  intro e
  have := congrArg List.length e
  simp at this; omega
 have hab : a.length = b.length := by omega
 simp +decide (disch := first | omega | rfl | (simp +decide only [go_sem, ↓reduceIte] <;> rfl) | fail) only [go_sem, ↓reduceIte]
 refine Qaj (by repeat (first | exact Q2 | exact Qu | exact Qv | exact Qw | exact Qx | apply Qt | apply Qz | apply Q7 | apply Qad | apply Qae | apply Qp | apply Q5)) [(4, 5), (11, 26)] [] (fun m J hp => ∃ i, m = a.length - i /\ i <= a.length /\ (∀ j (h1 : j < a.length) (h2 : j < b.length), j < i -> rqV a[j] = rqV b[j]) /\ J 5 = .int .i64 (i : Nat)) a.length ?_ ?_
 ·refine ⟨0, rfl, by omega, by omega, ?_⟩
  simp +decide (disch := first | omega | rfl | (simp +decide only [go_sem, ↓reduceIte] <;> rfl) | fail) only [go_sem, ↓reduceIte]
  rfl
 rintro _ J h ⟨i, rfl, hi, h1, h5⟩
 simp +decide (disch := first | omega | rfl | (simp +decide only [go_sem, ↓reduceIte, h5] <;> rfl) | fail) only [go_sem, ↓reduceIte, h5]
 refine Qb (fun hg => ?_) (fun hg => ?_)
 ·skip
  have hi' : i < a.length := by omega
  have hib : i < b.length := by omega
  have hbt := ha _ (List.getElem_mem hi')
  have hbt2 := hb _ (List.getElem_mem hib)
  have hne : rqV a[i] ≠ rqV b[i] -> a.map rqV ≠ b.map rqV := fun h e => h (by
   have := congrArg (fun l => l[i]?) e
   simpa [hi', hib] using this)
  have hadd : rqV a[i] = rqV b[i] -> ∀ j (h1 : j < a.length) (h2 : j < b.length), j < i + 1 -> rqV a[j] = rqV b[j] := fun h j hj hj2 hji => by
   by_cases e : j = i
   ·subst e; exact h
   ·exact h1 j hj hj2 (by omega)
  generalize hx : a[i] = x at *
  generalize hy : b[i] = y at *
  simp +decide (disch := first | omega | rfl | (simp +decide only [go_sem, ↓reduceIte, h5, hx, hy] <;> rfl) | fail) only [go_sem, ↓reduceIte, h5, hx, hy]
  refine Qa hP (Qlc hbt hbt2 hk) rfl rfl rfl ?_
  by_cases e : rqV x = rqV y
  ·have e' : rv x.n x.a x.d = rv y.n y.a y.d := e
   simp +decide (disch := first | omega | rfl | (simp +decide only [go_sem, ↓reduceIte, h5, e'] <;> rfl) | fail) only [go_sem, ↓reduceIte, h5, e']
   refine Qac (a.length - (i + 1)) (by omega) ⟨i + 1, rfl, by omega, hadd e, ?_⟩
   simp +decide (disch := first | omega | rfl | (simp +decide only [go_sem, ↓reduceIte] <;> rfl) | fail) only [go_sem, ↓reduceIte]
  ·have e' : ¬ rv x.n x.a x.d = rv y.n y.a y.d := e
   simp +decide (disch := first | omega | rfl | (simp +decide only [go_sem, ↓reduceIte, h5, e'] <;> rfl) | fail) only [go_sem, ↓reduceIte, h5, e']
   refine Qc ?_ rfl
   rw [decide_eq_false (hne e)]
 ·obtain rfl : i = a.length := by omega
  simp +decide (disch := first | omega | rfl | (simp +decide only [go_sem, ↓reduceIte, h5] <;> rfl) | fail) only [go_sem, ↓reduceIte, h5]
  refine Qc ?_ rfl
  rw [decide_eq_true]
  refine List.ext_getElem (by simp [hab]) fun j j1 j2 => ?_
  rw [List.getElem_map, List.getElem_map]
  exact h1 j (by simpa using j1) (by simpa using j2) (by simpa using j1)
end Go.Proofs.YtmnkngmmfnncoaaGreat
namespace Go.Proofs.YtmnkngmmfnncoaaGreat
open Go Go.FW
set_option linter.unusedSimpArgs false
set_option linter.unusedVariables false
set_option maxRecDepth 100000
def eqM (r c r' c' : Int) (a b : List RQ) : Bool := decide (r = r' /\ c = c' /\ a.map rqV = b.map rqV)
theorem Q4i {r c r' c' : Int} {a b : List RQ} {k : Nat} (ha : RRk k a) (hb : RRk k b) (hk : k < 2 ^ 34) (la : a.length < 2 ^ 40) (lb : b.length < 2 ^ 40) : Qf Tryz.prog 27 [PV.rmat r c a, PV.rmat r' c' b] (· = .bool (eqM r c r' c' a b)) := by
 refine Qh Qn Tryz.func27 rfl Qabh (by simp [c27]) fun C hP => ?_; simp only [c27]
 simp +decide (disch := first | omega | rfl | (simp +decide only [go_sem, ↓reduceIte] <;> rfl) | fail) only [go_sem, ↓reduceIte]
 by_cases h1 : ¬ r = r'
 ·simp +decide (disch := first | omega | rfl | (simp +decide only [go_sem, ↓reduceIte, h1] <;> rfl) | fail) only [go_sem, ↓reduceIte, h1]
  exact Qc (by rw [eqM, decide_eq_false fun e => h1 e.1]) rfl
 obtain rfl := Classical.not_not.1 h1
 simp +decide (disch := first | omega | rfl | (simp +decide only [go_sem, ↓reduceIte] <;> rfl) | fail) only [go_sem, ↓reduceIte]
 by_cases h2 : ¬ c = c'
 ·simp +decide (disch := first | omega | rfl | (simp +decide only [go_sem, ↓reduceIte, h2] <;> rfl) | fail) only [go_sem, ↓reduceIte, h2]
  exact Qc (by rw [eqM, decide_eq_false fun e => h2 e.2.1]) rfl
 obtain rfl := Classical.not_not.1 h2
 simp +decide (disch := first | omega | rfl | (simp +decide only [go_sem, ↓reduceIte] <;> rfl) | fail) only [go_sem, ↓reduceIte]
 refine Qb (fun h3 => ?_) (fun h3 => ?_)
 ·simp +decide (disch := first | omega | rfl | (simp +decide only [go_sem, ↓reduceIte] <;> rfl) | fail) only [go_sem, ↓reduceIte]
  refine Qc ?_ rfl
  rw [eqM, decide_eq_false]
  intro e
  have := congrArg List.length e.2.2
  simp at this; omega
 have hab : a.length = b.length := by omega
 simp +decide (disch := first | omega | rfl | (simp +decide only [go_sem, ↓reduceIte] <;> rfl) | fail) only [go_sem, ↓reduceIte]
 refine Qa hP (Qnb ha hb hk la lb) rfl rfl rfl ?_
 simp +decide (disch := first | omega | rfl | (simp +decide only [go_sem, ↓reduceIte] <;> rfl) | fail) only [go_sem, ↓reduceIte]
 exact Qc (by unfold eqM; simp) rfl
def Qe4 (l : List RQ) (n : Nat) : Bool := decide (l.length <= n) && l.all fun q => decide (q.a.length <= 3) && decide (q.d.length <= 3)
theorem Q4j {l : List RQ} {n : Nat} (hl : Qcl l) : Qf Tryz.prog 28 [PV.rqs l, .int .i64 (n : Nat)] (· = .bool (Qe4 l n)) := by
 have hll := hl.1
 refine Qh Qn Tryz.func28 rfl Qabl (by simp [c28]) fun C hP => ?_; simp only [c28]
 simp +decide (disch := first | omega | rfl | (simp +decide only [go_sem, ↓reduceIte] <;> rfl) | fail) only [go_sem, ↓reduceIte]
 refine Qb (fun h0 => ?_) (fun h0 => ?_)
 ·simp +decide (disch := first | omega | rfl | (simp +decide only [go_sem, ↓reduceIte] <;> rfl) | fail) only [go_sem, ↓reduceIte]
  exact Qc (by rw [Qe4, decide_eq_false (by omega)]; rfl) rfl
 simp +decide (disch := first | omega | rfl | (simp +decide only [go_sem, ↓reduceIte] <;> rfl) | fail) only [go_sem, ↓reduceIte]
 refine Qaj (by repeat (first | exact Q2 | exact Qu | exact Qv | exact Qw | exact Qx | apply Qt | apply Qz | apply Q7 | apply Qad | apply Qae | apply Qp | apply Q5)) [(4, 5), (10, 32)] [] (fun m J hp => ∃ i, m = l.length - i /\ i <= l.length /\ (∀ j (h : j < l.length), j < i -> l[j].a.length <= 3 /\ l[j].d.length <= 3) /\ J 5 = .int .i64 (i : Nat)) l.length ?_ ?_
 ·refine ⟨0, rfl, by omega, by omega, ?_⟩
  simp +decide (disch := first | omega | rfl | (simp +decide only [go_sem, ↓reduceIte] <;> rfl) | fail) only [go_sem, ↓reduceIte]
  rfl
 rintro _ J h ⟨i, rfl, hi, h1, h5⟩
 simp +decide (disch := first | omega | rfl | (simp +decide only [go_sem, ↓reduceIte, h5] <;> rfl) | fail) only [go_sem, ↓reduceIte, h5]
 refine Qb (fun hg => ?_) (fun hg => ?_)
 ·have hi' : i < l.length := by omega
  have hmem := List.getElem_mem hi'
  have hno : ¬ (l[i].a.length <= 3 /\ l[i].d.length <= 3) -> Qe4 l n = false := fun h => by
   unfold Qe4
   rw [Bool.and_eq_false_iff]
   right
   rw [List.all_eq_false]
   exact ⟨_, hmem, by simpa using h⟩
  have hadd : l[i].a.length <= 3 /\ l[i].d.length <= 3 -> ∀ j (h : j < l.length), j < i + 1 -> l[j].a.length <= 3 /\ l[j].d.length <= 3 := fun h j hj hji => by
   by_cases e : j = i
   ·subst e; exact h
   ·exact h1 j hj (by omega)
  generalize hx : l[i] = x at *
  simp +decide (disch := first | omega | rfl | (simp +decide only [go_sem, ↓reduceIte, h5, hx] <;> rfl) | fail) only [go_sem, ↓reduceIte, h5, hx]
  by_cases g1 : 3 < x.a.length
  ·simp +decide (disch := first | omega | rfl | (simp +decide only [go_sem, ↓reduceIte, h5, hx, show (3 : Int) < (x.a.length : Int) from by omega] <;> rfl) | fail) only [go_sem, ↓reduceIte, h5, hx, show (3 : Int) < (x.a.length : Int) from by omega]
   exact Qc (by rw [hno (by omega)]) rfl
  simp +decide (disch := first | omega | rfl | (simp +decide only [go_sem, ↓reduceIte, h5, hx, show ¬ (3 : Int) < (x.a.length : Int) from by omega] <;> rfl) | fail) only [go_sem, ↓reduceIte, h5, hx, show ¬ (3 : Int) < (x.a.length : Int) from by omega]
  by_cases g2 : 3 < x.d.length
  ·simp +decide (disch := first | omega | rfl | (simp +decide only [go_sem, ↓reduceIte, h5, hx, show (3 : Int) < (x.d.length : Int) from by omega] <;> rfl) | fail) only [go_sem, ↓reduceIte, h5, hx, show (3 : Int) < (x.d.length : Int) from by omega]
   exact Qc (by rw [hno (by omega)]) rfl
  simp +decide (disch := first | omega | rfl | (simp +decide only [go_sem, ↓reduceIte, h5, hx, show ¬ (3 : Int) < (x.d.length : Int) from by omega] <;> rfl) | fail) only [go_sem, ↓reduceIte, h5, hx, show ¬ (3 : Int) < (x.d.length : Int) from by omega]
  refine Qac (l.length - (i + 1)) (by omega) ⟨i + 1, rfl, by omega, hadd (by omega), ?_⟩
  simp +decide (disch := first | omega | rfl | (simp +decide only [go_sem, ↓reduceIte] <;> rfl) | fail) only [go_sem, ↓reduceIte]
 ·obtain rfl : i = l.length := by omega
  simp +decide (disch := first | omega | rfl | (simp +decide only [go_sem, ↓reduceIte, h5] <;> rfl) | fail) only [go_sem, ↓reduceIte, h5]
  refine Qc ?_ rfl
  congr 1
  symm
  unfold Qe4
  rw [decide_eq_true (by omega), Bool.true_and, List.all_eq_true]
  intro t ht
  obtain ⟨j, hj, rfl⟩ := List.getElem_of_mem ht
  simpa using h1 j hj hj
structure RM where
 r : Int
 c : Int
 l : List RQ
 deriving Inhabited
abbrev PV.rm (m : RM) : PV := PV.rmat m.r m.c m.l
theorem Q4k {l : List RM} (hl : ∀ m ∈ l, Qcl m.l) (hll : l.length <= 1048576) : Qf Tryz.prog 14 [.sl 3 (l.map PV.rm)] (· = .bool (l.all fun m => Qe4 m.l 25)) := by
 refine Qh Qn Tryz.func14 rfl Qabm (by simp [c14]) fun C hP => ?_; simp only [c14]
 simp +decide (disch := first | omega | rfl | (simp +decide only [go_sem, ↓reduceIte] <;> rfl) | fail) only [go_sem, ↓reduceIte]
 refine Qaj (by repeat (first | exact Q2 | exact Qu | exact Qv | exact Qw | exact Qx | apply Qt | apply Qz | apply Q7 | apply Qad | apply Qae | apply Qp | apply Q5)) [(2, 16)] [] (fun m J hp => ∃ i, m = l.length - i /\ i <= l.length /\ (∀ j (h : j < l.length), j < i -> Qe4 l[j].l 25 = true) /\ J 3 = .int .i64 (i : Nat)) l.length ?_ ?_
 ·refine ⟨0, rfl, by omega, by omega, ?_⟩
  simp +decide (disch := first | omega | rfl | (simp +decide only [go_sem, ↓reduceIte] <;> rfl) | fail) only [go_sem, ↓reduceIte]
  rfl
 rintro _ J h ⟨i, rfl, hi, h1, h3⟩
 simp +decide (disch := first | omega | rfl | (simp +decide only [go_sem, ↓reduceIte, h3] <;> rfl) | fail) only [go_sem, ↓reduceIte, h3]
 refine Qb (fun hg => ?_) (fun hg => ?_)
 ·have hi' : i < l.length := by omega
  have hmem := List.getElem_mem hi'
  have hbt := hl _ hmem
  have hadd : Qe4 l[i].l 25 = true -> ∀ j (h : j < l.length), j < i + 1 -> Qe4 l[j].l 25 = true := fun h j hj hji => by
   by_cases e : j = i
   ·subst e; exact h
   ·exact h1 j hj (by omega)
  generalize hx : l[i] = x at *
  simp +decide (disch := first | omega | rfl | (simp +decide only [go_sem, ↓reduceIte, h3, hx] <;> rfl) | fail) only [go_sem, ↓reduceIte, h3, hx]
  refine Qa hP (Q4j (n := 25) hbt) rfl rfl rfl ?_
  cases hs : Qe4 x.l 25
  ·simp +decide (disch := first | omega | rfl | (simp +decide only [go_sem, ↓reduceIte, h3] <;> rfl) | fail) only [go_sem, ↓reduceIte, h3]
   refine Qc ?_ rfl
   congr 1
   symm
   rw [List.all_eq_false]; exact ⟨x, hmem, by simp [hs]⟩
  ·simp +decide (disch := first | omega | rfl | (simp +decide only [go_sem, ↓reduceIte, h3] <;> rfl) | fail) only [go_sem, ↓reduceIte, h3]
   refine Qac (l.length - (i + 1)) (by omega) ⟨i + 1, rfl, by omega, hadd hs, ?_⟩
   simp +decide (disch := first | omega | rfl | (simp +decide only [go_sem, ↓reduceIte] <;> rfl) | fail) only [go_sem, ↓reduceIte]
 ·obtain rfl : i = l.length := by omega
  simp +decide (disch := first | omega | rfl | (simp +decide only [go_sem, ↓reduceIte, h3] <;> rfl) | fail) only [go_sem, ↓reduceIte, h3]
  refine Qc ?_ rfl
  congr 1
  symm
  rw [List.all_eq_true]
  intro t ht
  obtain ⟨j, hj, rfl⟩ := List.getElem_of_mem ht
  exact h1 j hj hj
end Go.Proofs.YtmnkngmmfnncoaaGreat
namespace Go.Proofs.YtmnkngmmfnncoaaGreat
open Go Go.FW
set_option linter.unusedSimpArgs false
set_option linter.unusedVariables false
set_option maxRecDepth 100000
theorem Qo1 {R m : Nat} {l : List Rat} (hl : l.length = R * m) (hR : R <= 40) (hm : m <= 40) (hs : ∀ q ∈ l, rs q <= 1048576) : Qf Tryz.prog 25 [PV.mat R m l] (· = .bool true) := by
 have hRm : R * m <= 40 * 40 := Nat.mul_le_mul hR hm
 have h := Qp3 (r := (R : Int)) (c := (m : Int)) (l := l.map qR) ⟨by rw [List.length_map]; omega, RRk.of hs⟩
 rw [<- Qzj, Qqt hl hR hm] at h
 exact h
theorem Qw1 {M : MF} {w n : Nat} (hn : n <= 40) : Qf Tryz.prog 77 [.sl 1 [], .int .i64 (n : Nat)] (· = PV.ech 0 w (Qbz 0 M n)) := by
 rw [Qou]
 refine Ql3 Qn Tryz.func77 rfl Qzz (by simp [c77]) fun C hP => ?_; simp only [c77]
 simp +decide (disch := first | omega | rfl | (simp +decide only [go_sem, ↓reduceIte] <;> rfl) | fail) only [go_sem, ↓reduceIte]
 refine Qa hP (Qp1 (x := 1) (by omega) (by omega)) rfl rfl rfl ?_
 simp +decide (disch := first | omega | rfl | (simp +decide only [go_sem, ↓reduceIte] <;> rfl) | fail) only [go_sem, ↓reduceIte]
 refine Qdt (Wk.refl _ _) ?_
 refine Qdt (Wk.refl _ _) ?_
 simp +decide (disch := first | omega | rfl | (simp +decide only [go_sem, ↓reduceIte] <;> rfl) | fail) only [go_sem, ↓reduceIte]
 refine Qdt (Wk.refl _ _) ?_
 simp +decide (disch := first | omega | rfl | (simp +decide only [go_sem, ↓reduceIte] <;> rfl) | fail) only [go_sem, ↓reduceIte]
 refine Qaj (by repeat (first | exact Q2 | exact Qu | exact Qv | exact Qw | exact Qx | apply Qt | apply Qz | apply Q7 | apply Qad | apply Qae | apply Qp | apply Q5)) [(6, 11), (16, 135)] [9, 132, 133] (fun q J hp => ∃ k, q = n - k /\ k <= n /\ J 16 = .int .i64 (k : Nat) /\ hp 4 = some ⟨5, 93, [.agg [.nilS, .nilS, .bool false, .nilS, .nilS]], false⟩ /\ hp 5 = some ⟨5, 93, [.agg [.sl 1 [], .nilS, .bool (decide (((1 : Int) : Rat).num < 0)), PV.num ((1 : Int) : Rat).num.natAbs, PV.num ((1 : Int) : Rat).den]], false⟩) n ?_ ?_
 ·refine ⟨0, rfl, by omega, ?_⟩
  simp +decide (disch := first | omega | rfl | (simp +decide only [go_sem, ↓reduceIte] <;> rfl) | fail) only [go_sem, ↓reduceIte]
  rfl
 rintro _ J h ⟨k, rfl, hk, h16, h4, h5⟩
 simp +decide (disch := first | omega | rfl | (simp +decide only [go_sem, ↓reduceIte, h16] <;> rfl) | fail) only [go_sem, ↓reduceIte, h16]
 refine Qb (fun hc => ?_) (fun hc => ?_)
 ·simp +decide (disch := first | omega | rfl | (simp +decide only [go_sem, ↓reduceIte, h16, h5] <;> rfl) | fail) only [go_sem, ↓reduceIte, h16, h5]
  refine Qaj (by repeat (first | exact Q2 | exact Qu | exact Qv | exact Qw | exact Qx | apply Qt | apply Qz | apply Q7 | apply Qad | apply Qae | apply Qp | apply Q5)) [(8, 8), (23, 39)] [] (fun q J hp => J 8 = .int .i64 (0 : Nat) /\ h = hp) 0 ?_ ?_
  ·simp +decide (disch := first | omega | rfl | (simp +decide only [go_sem, ↓reduceIte] <;> rfl) | fail) only [go_sem, ↓reduceIte]
   rfl
  rintro _ J2 _ ⟨h8, rfl⟩
  simp +decide (disch := first | omega | rfl | (simp +decide only [go_sem, ↓reduceIte, h8] <;> rfl) | fail) only [go_sem, ↓reduceIte, h8]
  simp +decide (disch := first | omega | rfl | (simp +decide only [go_sem, ↓reduceIte, h16] <;> rfl) | fail) only [go_sem, ↓reduceIte, h16]
  simp (disch := decide) only [Qbv, Qcy]
  refine Qac (n - (k + 1)) (by omega) ⟨k + 1, rfl, by omega, ?_⟩
  simp +decide (disch := first | omega | rfl | (simp +decide only [go_sem, ↓reduceIte, h4, h5] <;> rfl) | fail) only [go_sem, ↓reduceIte, h4, h5]
 ·simp +decide (disch := first | omega | rfl | (simp +decide only [go_sem, ↓reduceIte, h5] <;> rfl) | fail) only [go_sem, ↓reduceIte, h5]
  refine Qdt (Wk.refl _ _) ?_
  simp +decide (disch := first | omega | rfl | (simp +decide only [go_sem, ↓reduceIte, h5, h4] <;> rfl) | fail) only [go_sem, ↓reduceIte, h5, h4]
  refine Qqs (Qaz ?_)
  simp +decide (disch := first | omega | rfl | (simp +decide only [go_sem, ↓reduceIte, h5, h4] <;> rfl) | fail) only [go_sem, ↓reduceIte, h5, h4]
  exact ⟨rfl, PV.ech 0 w ⟨M, [], 1⟩, ⟨rfl, trivial, rfl, rfl, rfl, trivial⟩, rfl⟩
def Qgd (R w : Nat) (M : MF) (hp : HP) : HP := fun x => if x = 2000000 then some ⟨1, 22, [], false⟩ else if 3000000 <= x /\ x < 3000000 + R then some ⟨3, 32, Q8 PV.rat (M (x - 3000000)) w, false⟩ else hp x
def nmR (R : Nat) (x : Nat) : Bool := decide (x = 2000000 ∨ (3000000 <= x /\ x < 3000000 + R))
theorem Qk4 {R x : Nat} (h : nmR R x = true) : x = 2000000 ∨ (3000000 <= x /\ x < 3000000 + R) := of_decide_eq_true h
theorem Q45 {R x : Nat} (h : nmR R x = false) : ¬ (x = 2000000 ∨ (3000000 <= x /\ x < 3000000 + R)) := of_decide_eq_false h
theorem Qb8 {R x : Nat} (h : x < 2000000) : nmR R x = false := decide_eq_false (by omega)
theorem Qgv {R : Nat} : nmR R 2000000 = true := decide_eq_true (.inl rfl)
theorem Qg6 {R w r : Nat} {M : MF} {hp : HP} (h : r < R) : Qgd R w M hp (3000000 + r) = some ⟨3, 32, Q8 PV.rat (M r) w, false⟩ := by
 unfold Qgd
 rw [if_neg (by omega), if_pos ⟨by omega, by omega⟩, Nat.add_sub_cancel_left]
theorem Qj4 {R w : Nat} {M : MF} {hp : HP} : Qgd R w M hp 2000000 = some ⟨1, 22, [], false⟩ := by unfold Qgd; rw [if_pos rfl]
theorem Qbj {R w x : Nat} {M : MF} {hp : HP} (h : x < 2000000) : Qgd R w M hp x = hp x := by
 unfold Qgd
 rw [if_neg (by omega), if_neg (by omega)]
theorem Qq0 {R w : Nat} {π : Nat -> Nat} (hπ : ∀ r, r < R -> π r < R) {β ty : Nat} (h : β ∈ (PV.nst 2000000 1 ty (Qaa (Qap 3000000 R w π))).refs ++ (PV.nst 2000000 1 ty (Qaa (Qap 3000000 R w π))).sref) : nmR R β = true := by
 refine decide_eq_true ?_
 simp only [PV.refs, PV.sref, List.nil_append, List.mem_cons] at h
 rcases h with rfl | h
 ·exact .inl rfl
 ·obtain ⟨r, hr, rfl⟩ := Qot β h
  have := hπ r hr
  exact .inr ⟨by omega, by omega⟩
theorem Qq1 {C : Ctx} {pr : Bool} {K : Qd} {fr : Fr} {hp : HP} {d : Nat} {l : List Rat} {R m : Nat} (hP : C.P = Tryz.prog) (hl : l.length = R * m) (hR : 0 < R) (hR2 : R <= 40) (hm : m <= 40) (hd : d ≠ 2000000) (hfree : ∀ x, nmR R x = true -> hp x = none)
  (hK : K (upd (upd fr d (.nso 2000000 0 R)) 2000000 (.nst 2000000 1 22 (Qaa (Qap 3000000 R m id)))) (Qgd R m (Qb2 l m) hp)) : Qb9 C pr (.fn 78 [] []) [PV.mat R m l] (some d) fr hp K := by
 refine Qzf hP (Qoy hl hR hR2 hm) (fun _ => false) (nmR R) [2000000] (fun x h => by cases h) (fun x => rfl) rfl (by simp) (fun x hx γ e ty xs e2 => ?_) (fun γ hγ => ?_) (fun s _ => .inl rfl) (fun x hx => ?_) (fun _ _ => rfl) (fun r F H hpost => ?_)
 ·rw [List.mem_singleton.1 hx] at e2; cases e2
 ·simp [PV.refs, PV.sref] at hγ
 ·have := Qk4 hx; exact ⟨.inl (hfree x hx), by omega⟩
 ·obtain ⟨rfl, h1, h2, h3⟩ := hpost
  rw [Qacq] at h1
  have hr : ∀ β ∈ (F 2000000).refs ++ (F 2000000).sref, nmR R β = true := fun β hβ => by
   rw [h1] at hβ; exact Qq0 (fun r h => h) hβ
  refine ⟨fun x hx => ?_, (fun γ e ty xs h => by cases h), fun β hβ => ?_, fun s hs => ?_, ?_⟩
  ·rcases Qk4 hx with rfl | ⟨k1, k2⟩
   ·rw [h2]; simp
   ·have := h3 (x - 3000000) (by omega)
    rw [show 3000000 + (x - 3000000) = x by omega] at this
    rw [this]; simp
  ·simp [PV.refs, PV.sref] at hβ; subst hβ; exact decide_eq_true (.inl rfl)
  ·rw [List.mem_singleton.1 hs]
   exact ⟨by omega, ⟨_, _, _, _, h1, Qos _⟩, hr⟩
  ·have e1 : exF [2000000] F (Qbs (Qf9 (fun _ => false) fr) (some d) (.nso 2000000 0 R)) = upd (upd fr d (.nso 2000000 0 R)) 2000000 (.nst 2000000 1 22 (Qaa (Qap 3000000 R m id))) := by
    funext s
    have hdie : Qf9 (fun _ => false) fr = fr := by
     funext t; simp [Qf9, Qs9]
    rw [hdie]
    by_cases e : s = 2000000
    ·subst e; simp [exF, upd, h1]
    ·simp [exF, upd, Qbs, e]
   have e2 : exH (fun _ => false) (nmR R) H hp = Qgd R m (Qb2 l m) hp := by
    funext x
    unfold exH Qgd
    cases hq : nmR R x with
    | true =>
     rw [if_pos rfl]
     rcases Qk4 hq with rfl | ⟨k1, k2⟩
     ·rw [h2, if_pos rfl]
     ·have := h3 (x - 3000000) (by omega)
      rw [show 3000000 + (x - 3000000) = x by omega] at this
      rw [this, if_neg (by omega), if_pos ⟨k1, k2⟩]
    | false =>
     have := Q45 hq
     rw [if_neg (by simp), if_neg (by simp), if_neg (by omega), if_neg (by omega)]
   rw [e1, e2]
   exact hK
theorem Qul {C : Ctx} {Kt : Qd} {fr : Fr} {hp : HP} {d : Nat} {M : MF} {R w n K ty tyr : Nat} (hP : C.P = Tryz.prog) (hR : 0 < R) (hR2 : R <= 40) (hw : w <= 40) (hn : n <= w) (hKb : K <= 2 ^ 20) (hB : Qwo K R w n M)
  (hg : fr 2000000 = .nst 2000000 1 ty (Qaa (Qap 3000000 R w id))) (h0 : hp 2000000 = some ⟨1, ty, [], false⟩) (hrow : ∀ r, r < R -> hp (3000000 + r) = some ⟨3, tyr, Q8 PV.rat (M r) w, false⟩)
  (hK : Kt (upd (Qf9 (nmR R) fr) d (PV.ech R w (Qbz R M n))) (fun x => if nmR R x then none else hp x)) : Qb9 C false (.fn 77 [] []) [.nso 2000000 0 R, .int .i64 (n : Nat)] (some d) fr hp Kt := by
 refine Qzf hP (Qtp (ty := ty) (tyr := tyr) hR hR2 hw hn hKb hB) (nmR R) (fun _ => false) [] (fun x hx => ?_) (fun x => ?_) rfl (by simp) (fun x hx γ e ty xs e2 => ?_) (fun γ hγ => ?_) (fun s hs => ?_) (fun x hx => by cases hx) (fun h => by cases h) (fun r F H hpost => ?_)
 ·rcases Qk4 hx with rfl | ⟨k1, k2⟩
  ·exact ⟨_, h0, rfl, by omega⟩
  ·have := hrow (x - 3000000) (by omega)
   rw [show 3000000 + (x - 3000000) = x by omega] at this
   exact ⟨_, this, rfl, by omega⟩
 ·cases hq : nmR R x with
  | true =>
   rw [if_pos rfl]
   rcases Qk4 hq with rfl | ⟨k1, k2⟩
   ·rw [if_pos rfl, h0]
   ·have := hrow (x - 3000000) (by omega)
    rw [show 3000000 + (x - 3000000) = x by omega] at this
    rw [this, if_neg (by omega), if_pos ⟨k1, k2⟩]
  | false =>
   have := Q45 hq
   rw [if_neg (by omega), if_neg (by omega)]; rfl
 ·simp only [List.mem_cons, List.not_mem_nil, or_false] at hx
  rcases hx with rfl | rfl <;> cases e2
 ·simp [PV.refs, PV.sref] at hγ; subst hγ; exact decide_eq_true (.inl rfl)
 ·by_cases e : s = 2000000
  ·subst e
   refine .inr ⟨2000000, 1, ty, _, ?_, hg, Qos _, fun γ hγ => ?_⟩
   ·rw [hg]; simp [upd]
   ·rw [hg] at hγ; exact Qq0 (fun r h => h) hγ
  ·left; simp [upd, e]
 ·subst hpost
  refine ⟨(fun x hx => by cases hx), (fun γ e ty xs h => by cases h), (fun β hβ => by simp [PV.refs, PV.sref] at hβ), (fun s hs => by cases hs), ?_⟩
  have e1 : exF [] F (Qbs (Qf9 (nmR R) fr) (some d) (PV.ech R w (Qbz R M n))) = upd (Qf9 (nmR R) fr) d (PV.ech R w (Qbz R M n)) := by
   funext s; simp [exF, Qbs]
  have e2 : exH (nmR R) (fun _ => false) H hp = fun x => if nmR R x then none else hp x := by
   funext x; simp [exH]
  rw [e1, e2]
  exact hK
theorem Qac8 {R K : Nat} {l : List Rat} (hl : l.length = R * R) (hR2 : R <= 40) (hs : ∀ q ∈ l, rs q <= 1048576) (hK : K <= 2 ^ 20) (hB : Qwo K R R R (Qb2 l R)) : Qf Tryz.prog 16 [PV.mat R R l] (· = .tup [PV.rat (Qtd R (Qb2 l R)), .int .i64 0]) := by
 refine Qh Qn Tryz.func16 rfl Qabb (by simp [c16]) fun C hP => ?_; simp only [c16]
 simp +decide (disch := first | omega | rfl | (simp +decide only [go_sem, ↓reduceIte] <;> rfl) | fail) only [go_sem, ↓reduceIte]
 refine Qa hP (Qo1 hl hR2 hR2 hs) rfl rfl rfl ?_
 simp +decide (disch := first | omega | rfl | (simp +decide only [go_sem, ↓reduceIte] <;> rfl) | fail) only [go_sem, ↓reduceIte]
 by_cases hR : R = 0
 ·subst hR
  have e1 := Quj hl hR2 hR2
  have e2 := Qw1 (M := Qb2 l 0) (w := 0) (n := 0) (by omega)
  repeat' first
   | refine Qe1 ?_ ?_
   | refine Qa hP e1 rfl rfl rfl ?_
   | refine Qa hP e2 rfl rfl rfl ?_
   | simp +decide (disch := first | omega | rfl | (simp +decide only [go_sem, ↓reduceIte] <;> rfl) | fail) only [go_sem, ↓reduceIte]
  all_goals
   rw [Qou]
   simp +decide (disch := first | omega | rfl | (simp +decide only [go_sem, ↓reduceIte] <;> rfl) | fail) only [go_sem, ↓reduceIte]
   refine Qba ?_
   simp +decide (disch := first | omega | rfl | (simp +decide only [go_sem, ↓reduceIte] <;> rfl) | fail) only [go_sem, ↓reduceIte]
   refine Qbo ?_ rfl rfl (Qm _) (Qm _)
   unfold Qtd
   rw [Qou]; rfl
 have hR0 : 0 < R := by omega
 have hfree : ∀ (hp : HP), (∀ x, 5 <= x -> hp x = none) -> ∀ x, nmR R x = true -> hp x = none := fun hp h x hx => h x (by have := Qk4 hx; omega)
 repeat' first
  | refine Qe1 ?_ ?_
  | refine Qq1 hP hl hR0 hR2 hR2 (by omega) (hfree _ (fun x hx => by simp +decide (disch := first | omega | rfl | (simp +decide only [go_sem, ↓reduceIte, show ¬ x = 1 from by omega, show ¬ x = 2 from by omega, show ¬ x = 4 from by omega] <;> rfl) | fail) only [go_sem, ↓reduceIte, show ¬ x = 1 from by omega, show ¬ x = 2 from by omega, show ¬ x = 4 from by omega] <;> rfl)) ?_
  | refine Qul (K := K) (M := Qb2 l R) (ty := 22) (tyr := 32) hP hR0 hR2 hR2 (Nat.le_refl _) hK hB (by simp +decide (disch := first | omega | rfl | (simp +decide only [go_sem, ↓reduceIte] <;> rfl) | fail) only [go_sem, ↓reduceIte]) (by simp +decide (disch := first | omega | rfl | (simp +decide only [go_sem, ↓reduceIte, Qj4] <;> rfl) | fail) only [go_sem, ↓reduceIte, Qj4]) (fun r hr => by simp +decide (disch := first | omega | rfl | (simp +decide only [go_sem, ↓reduceIte, Qg6] <;> rfl) | fail) only [go_sem, ↓reduceIte, Qg6]) ?_
  | simp +decide (disch := first | omega | rfl | (simp +decide only [go_sem, ↓reduceIte, Qb8, Qgv, Qbj] <;> rfl) | fail) only [go_sem, ↓reduceIte, Qb8, Qgv, Qbj]
 all_goals
  refine Qb (fun hlt => ?_) (fun hlt => ?_)
  ·simp +decide (disch := first | omega | rfl | (simp +decide only [go_sem, ↓reduceIte, Qb8, Qbj] <;> rfl) | fail) only [go_sem, ↓reduceIte, Qb8, Qbj]
   refine Qa hP (Qp1 (x := 0) (by omega) (by omega)) rfl rfl rfl ?_
   simp +decide (disch := first | omega | rfl | (simp +decide only [go_sem, ↓reduceIte, Qb8, Qbj] <;> rfl) | fail) only [go_sem, ↓reduceIte, Qb8, Qbj]
   refine Qba ?_
   simp +decide (disch := first | omega | rfl | (simp +decide only [go_sem, ↓reduceIte, Qb8, Qbj] <;> rfl) | fail) only [go_sem, ↓reduceIte, Qb8, Qbj]
   refine Qbo ?_ rfl rfl (Qm _) (Qm _)
   unfold Qtd
   rw [if_pos (by omega)]; rfl
  ·simp +decide (disch := first | omega | rfl | (simp +decide only [go_sem, ↓reduceIte, Qb8, Qbj] <;> rfl) | fail) only [go_sem, ↓reduceIte, Qb8, Qbj]
   refine Qba ?_
   simp +decide (disch := first | omega | rfl | (simp +decide only [go_sem, ↓reduceIte, Qb8, Qbj] <;> rfl) | fail) only [go_sem, ↓reduceIte, Qb8, Qbj]
   refine Qbo ?_ rfl rfl (Qm _) (Qm _)
   unfold Qtd
   rw [if_neg (by omega)]
end Go.Proofs.YtmnkngmmfnncoaaGreat
namespace Go.Proofs.YtmnkngmmfnncoaaGreat
open Go Go.FW
set_option linter.unusedSimpArgs false
set_option linter.unusedVariables false
set_option maxRecDepth 100000
theorem Q8v {n : Nat} (hn : n <= 2 ^ 30) : Qf Tryz.prog 116 [.int .i64 (n : Nat)] (· = .sl 3 (Q8 PV.rat (fun _ => (0 : Rat)) n)) := by
 refine Qh Qn Tryz.func116 rfl Q8i (by simp [Q4e]) fun C hP => ?_; simp only [Q4e]
 simp +decide (disch := first | omega | rfl | (simp +decide only [go_sem, ↓reduceIte] <;> rfl) | fail) only [go_sem, ↓reduceIte]
 refine Qaj (by repeat (first | exact Q2 | exact Qu | exact Qv | exact Qw | exact Qx | apply Qt | apply Qz | apply Q7 | apply Qad | apply Qae | apply Qp | apply Q5)) [(4, 4), (9, 16)] [] (fun q J hp => ∃ i xs, q = n - i /\ i <= n /\ J 9 = .int .i64 (i : Nat) /\ xs.length = n /\ hp 6 = some ⟨3, 32, xs, false⟩ /\ ∀ j, j < i -> xs[j]? = some (PV.rat 0)) n ?_ ?_
 ·refine ⟨0, List.replicate n (.agg [.bool false, .nilS, .nilS]), rfl, by omega, ?_⟩
  simp +decide (disch := first | omega | rfl | (simp +decide only [go_sem, ↓reduceIte] <;> rfl) | fail) only [go_sem, ↓reduceIte]
  exact ⟨rfl, by simp, fun j hj => by omega⟩
 rintro _ J h ⟨i, xs, rfl, hi, h9, hl, h6, hx⟩
 simp +decide (disch := first | omega | rfl | (simp +decide only [go_sem, ↓reduceIte, h9] <;> rfl) | fail) only [go_sem, ↓reduceIte, h9]
 refine Qb (fun hg => ?_) (fun hg => ?_)
 ·have hi' : i < n := by omega
  simp +decide (disch := first | omega | rfl | (simp +decide only [go_sem, ↓reduceIte, h9] <;> rfl) | fail) only [go_sem, ↓reduceIte, h9]
  refine Qa hP (Qp1 (x := 0) (by omega) (by omega)) rfl rfl rfl ?_
  rw [show ((0 : Int) : Rat) = 0 from rfl]
  generalize (0 : Rat) = z at *
  simp +decide (disch := first | omega | rfl | (simp +decide only [go_sem, ↓reduceIte, h9, h6] <;> rfl) | fail) only [go_sem, ↓reduceIte, h9, h6]
  rw [Qg1 (n := 3) (xs := xs) (v := PV.rat z) (by omega) rfl rfl]
  simp +decide (disch := first | omega | rfl | (simp +decide only [go_sem, ↓reduceIte, h9] <;> rfl) | fail) only [go_sem, ↓reduceIte, h9]
  refine Qac (n - (i + 1)) (by omega) ⟨i + 1, xs.set i (PV.rat z), rfl, by omega, ?_⟩
  simp +decide (disch := first | omega | rfl | (simp +decide only [go_sem, ↓reduceIte] <;> rfl) | fail) only [go_sem, ↓reduceIte]
  refine ⟨by simp [hl], fun j hj => ?_⟩
  rw [List.getElem?_set]
  by_cases e : i = j
  ·rw [if_pos e, if_pos (by omega)]
  ·rw [if_neg e]; exact hx j (by omega)
 ·obtain rfl : i = n := by omega
  have e : xs = Q8 PV.rat (fun _ => (0 : Rat)) i := by
   refine List.ext_getElem (by simp [Q8, hl]) fun j h1 h2 => ?_
   have := hx j (by omega)
   rw [List.getElem?_eq_getElem h1] at this
   rw [Qe3]; exact Option.some.inj this
  simp +decide (disch := first | omega | rfl | (simp +decide only [go_sem, ↓reduceIte, h9, h6] <;> rfl) | fail) only [go_sem, ↓reduceIte, h9, h6]
  refine Qc ?_ ?_
  ·simp +decide (disch := first | omega | rfl | (simp +decide only [go_sem, ↓reduceIte, Ql, List.contains_cons, List.contains_nil, List.flatMap_cons, List.flatMap_nil, List.append_nil, h6, e] <;> rfl) | fail) only [go_sem, ↓reduceIte, Ql, List.contains_cons, List.contains_nil, List.flatMap_cons, List.flatMap_nil, List.append_nil, h6, e]
   rw [List.take_of_length_le (by rw [Qa0]; omega)]
  ·simp +decide (disch := first | omega | rfl | (simp +decide only [go_sem, ↓reduceIte, Ql, List.contains_cons, List.contains_nil, List.flatMap_cons, List.flatMap_nil, List.append_nil, h6] <;> rfl) | fail) only [go_sem, ↓reduceIte, Ql, List.contains_cons, List.contains_nil, List.flatMap_cons, List.flatMap_nil, List.append_nil, h6]
theorem Qo2 {x y : Nat -> Rat} {c : Rat} {w ty1 ty2 k : Nat} (hw : w <= 2 ^ 30) (hx : ∀ i, i < w -> rs (x i) <= k) (hy : ∀ i, i < w -> rs (y i) <= k) (hc : rs c <= k) (hk : k <= 2 ^ 33) :
  Qb3 Tryz.prog 164 [.ms 1500000 w, .ms 1500001 w, PV.rat c] (fun _ => .undef) (Qi (Qi hp0 1500000 ⟨3, ty1, Q8 PV.rat x w, true⟩) 1500001 ⟨3, ty2, Q8 PV.rat y w, true⟩) (fun r _ _ => r = .sl 3 (Q8 PV.rat (Qga x y c) w)) := by
 refine Qec Qn Tryz.func164 rfl Qvc (by simp [Qtk]) fun C hP => ?_; simp only [Qtk]
 simp +decide (disch := first | omega | rfl | (simp +decide only [go_sem, ↓reduceIte] <;> rfl) | fail) only [go_sem, ↓reduceIte]
 refine Qaj (by repeat (first | exact Q2 | exact Qu | exact Qv | exact Qw | exact Qx | apply Qt | apply Qz | apply Q7 | apply Qad | apply Qae | apply Qp | apply Q5)) [(8, 8), (14, 31)] [] (fun q J hp => ∃ i xs, q = w - i /\ i <= w /\ J 14 = .int .i64 (i : Nat) /\ xs.length = w /\ hp 11 = some ⟨3, 32, xs, false⟩ /\ hp 5 = some ⟨3, 32, [PV.rat c], false⟩ /\ hp 1500000 = some ⟨3, ty1, Q8 PV.rat x w, true⟩ /\ hp 1500001 = some ⟨3, ty2, Q8 PV.rat y w, true⟩ /\ ∀ j, j < i -> xs[j]? = some (PV.rat (Qga x y c j))) w ?_ ?_
 ·refine ⟨0, List.replicate w (.agg [.bool false, .nilS, .nilS]), rfl, by omega, ?_⟩
  simp +decide (disch := first | omega | rfl | (simp +decide only [go_sem, ↓reduceIte] <;> rfl) | fail) only [go_sem, ↓reduceIte]
  exact ⟨rfl, by simp, fun j hj => by omega⟩
 rintro _ J h ⟨i, xs, rfl, hi, h14, hl, h11, h5, hx1, hy1, hxs⟩
 simp +decide (disch := first | omega | rfl | (simp +decide only [go_sem, ↓reduceIte, h14] <;> rfl) | fail) only [go_sem, ↓reduceIte, h14]
 refine Qb (fun hg => ?_) (fun hg => ?_)
 ·have hi' : i < w := by omega
  have h1 := hx i hi'
  have h2 := hy i hi'
  have hm := Qib c (y i)
  simp +decide (disch := first | omega | rfl | (simp +decide only [go_sem, ↓reduceIte, h14, h11, h5, hx1, hy1] <;> rfl) | fail) only [go_sem, ↓reduceIte, h14, h11, h5, hx1, hy1]
  refine Qa hP (Qmr (k := k) hc h2 (by omega)) rfl rfl rfl ?_
  simp +decide (disch := first | omega | rfl | (simp +decide only [go_sem, ↓reduceIte, h14, h11, h5, hx1, hy1] <;> rfl) | fail) only [go_sem, ↓reduceIte, h14, h11, h5, hx1, hy1]
  refine Qa hP (Qwq (k := 2 * k) (by omega) (by omega) (by omega)) rfl rfl rfl ?_
  simp +decide (disch := first | omega | rfl | (simp +decide only [go_sem, ↓reduceIte, h14, h11, h5, hx1, hy1] <;> rfl) | fail) only [go_sem, ↓reduceIte, h14, h11, h5, hx1, hy1]
  rw [Qg1 (n := 3) (xs := xs) (v := PV.rat (x i + c * y i)) (by omega) rfl rfl]
  simp +decide (disch := first | omega | rfl | (simp +decide only [go_sem, ↓reduceIte, h14] <;> rfl) | fail) only [go_sem, ↓reduceIte, h14]
  refine Qac (w - (i + 1)) (by omega) ⟨i + 1, xs.set i (PV.rat (x i + c * y i)), rfl, by omega, ?_⟩
  simp +decide (disch := first | omega | rfl | (simp +decide only [go_sem, ↓reduceIte, h5, hx1, hy1] <;> rfl) | fail) only [go_sem, ↓reduceIte, h5, hx1, hy1]
  refine ⟨by simp [hl], fun j hj => ?_⟩
  rw [List.getElem?_set]
  by_cases e : i = j
  ·subst e; rw [if_pos rfl, if_pos (by omega)]; rfl
  ·rw [if_neg e]; exact hxs j (by omega)
 ·obtain rfl : i = w := by omega
  have e : xs = Q8 PV.rat (Qga x y c) i := by
   refine List.ext_getElem (by simp [Q8, hl]) fun j h1 h2 => ?_
   have := hxs j (by omega)
   rw [List.getElem?_eq_getElem h1] at this
   rw [Qe3]; exact Option.some.inj this
  simp +decide (disch := first | omega | rfl | (simp +decide only [go_sem, ↓reduceIte, h14, h11] <;> rfl) | fail) only [go_sem, ↓reduceIte, h14, h11]
  refine Qdu ?_
  simp +decide (disch := first | omega | rfl | (simp +decide only [go_sem, ↓reduceIte, h11] <;> rfl) | fail) only [go_sem, ↓reduceIte, h11]
  refine Qc ?_ ?_
  ·simp +decide (disch := first | omega | rfl | (simp +decide only [go_sem, ↓reduceIte, Ql, List.contains_cons, List.contains_nil, List.flatMap_cons, List.flatMap_nil, List.append_nil, h11, e] <;> rfl) | fail) only [go_sem, ↓reduceIte, Ql, List.contains_cons, List.contains_nil, List.flatMap_cons, List.flatMap_nil, List.append_nil, h11, e]
   rw [List.take_of_length_le (by rw [Qa0]; omega)]
  ·simp +decide (disch := first | omega | rfl | (simp +decide only [go_sem, ↓reduceIte, Ql, List.contains_cons, List.contains_nil, List.flatMap_cons, List.flatMap_nil, List.append_nil, h11] <;> rfl) | fail) only [go_sem, ↓reduceIte, Ql, List.contains_cons, List.contains_nil, List.flatMap_cons, List.flatMap_nil, List.append_nil, h11]
theorem Qum {x y : Nat -> Rat} {c : Rat} {w ty2 k : Nat} (hw : w <= 2 ^ 30) (hx : ∀ i, i < w -> rs (x i) <= k) (hy : ∀ i, i < w -> rs (y i) <= k) (hc : rs c <= k) (hk : k <= 2 ^ 33) :
  Qb3 Tryz.prog 164 [.sl 3 (Q8 PV.rat x w), .ms 1500001 w, PV.rat c] (fun _ => .undef) (Qi hp0 1500001 ⟨3, ty2, Q8 PV.rat y w, true⟩) (fun r _ _ => r = .sl 3 (Q8 PV.rat (Qga x y c) w)) := by
 have hrl : (Q8 PV.rat x w).length = w := Qa0 _ _ _
 refine Qec Qn Tryz.func164 rfl Qvc (by simp [Qtk]) fun C hP => ?_; simp only [Qtk]
 simp +decide (disch := first | omega | rfl | (simp +decide only [go_sem, ↓reduceIte, hrl] <;> rfl) | fail) only [go_sem, ↓reduceIte, hrl]
 refine Qaj (by repeat (first | exact Q2 | exact Qu | exact Qv | exact Qw | exact Qx | apply Qt | apply Qz | apply Q7 | apply Qad | apply Qae | apply Qp | apply Q5)) [(8, 8), (14, 31)] [] (fun q J hp => ∃ i xs, q = w - i /\ i <= w /\ J 14 = .int .i64 (i : Nat) /\ xs.length = w /\ hp 11 = some ⟨3, 32, xs, false⟩ /\ hp 5 = some ⟨3, 32, [PV.rat c], false⟩ /\ hp 1500001 = some ⟨3, ty2, Q8 PV.rat y w, true⟩ /\ ∀ j, j < i -> xs[j]? = some (PV.rat (Qga x y c j))) w ?_ ?_
 ·refine ⟨0, List.replicate w (.agg [.bool false, .nilS, .nilS]), rfl, by omega, ?_⟩
  simp +decide (disch := first | omega | rfl | (simp +decide only [go_sem, ↓reduceIte] <;> rfl) | fail) only [go_sem, ↓reduceIte]
  exact ⟨rfl, by simp, fun j hj => by omega⟩
 rintro _ J h ⟨i, xs, rfl, hi, h14, hl, h11, h5, hy1, hxs⟩
 simp +decide (disch := first | omega | rfl | (simp +decide only [go_sem, ↓reduceIte, h14] <;> rfl) | fail) only [go_sem, ↓reduceIte, h14]
 refine Qb (fun hg => ?_) (fun hg => ?_)
 ·have hi' : i < w := by omega
  have h1 := hx i hi'
  have h2 := hy i hi'
  have hm := Qib c (y i)
  simp +decide (disch := first | omega | rfl | (simp +decide only [go_sem, ↓reduceIte, h14, h11, h5, hy1] <;> rfl) | fail) only [go_sem, ↓reduceIte, h14, h11, h5, hy1]
  refine Qa hP (Qmr (k := k) hc h2 (by omega)) rfl rfl rfl ?_
  simp +decide (disch := first | omega | rfl | (simp +decide only [go_sem, ↓reduceIte, h14, h11, h5, hy1] <;> rfl) | fail) only [go_sem, ↓reduceIte, h14, h11, h5, hy1]
  refine Qa hP (Qwq (k := 2 * k) (by omega) (by omega) (by omega)) rfl rfl rfl ?_
  simp +decide (disch := first | omega | rfl | (simp +decide only [go_sem, ↓reduceIte, h14, h11, h5, hy1] <;> rfl) | fail) only [go_sem, ↓reduceIte, h14, h11, h5, hy1]
  rw [Qg1 (n := 3) (xs := xs) (v := PV.rat (x i + c * y i)) (by omega) rfl rfl]
  simp +decide (disch := first | omega | rfl | (simp +decide only [go_sem, ↓reduceIte, h14] <;> rfl) | fail) only [go_sem, ↓reduceIte, h14]
  refine Qac (w - (i + 1)) (by omega) ⟨i + 1, xs.set i (PV.rat (x i + c * y i)), rfl, by omega, ?_⟩
  simp +decide (disch := first | omega | rfl | (simp +decide only [go_sem, ↓reduceIte, h5, hy1] <;> rfl) | fail) only [go_sem, ↓reduceIte, h5, hy1]
  refine ⟨by simp [hl], fun j hj => ?_⟩
  rw [List.getElem?_set]
  by_cases e : i = j
  ·subst e; rw [if_pos rfl, if_pos (by omega)]; rfl
  ·rw [if_neg e]; exact hxs j (by omega)
 ·obtain rfl : i = w := by omega
  have e : xs = Q8 PV.rat (Qga x y c) i := by
   refine List.ext_getElem (by simp [Q8, hl]) fun j h1 h2 => ?_
   have := hxs j (by omega)
   rw [List.getElem?_eq_getElem h1] at this
   rw [Qe3]; exact Option.some.inj this
  simp +decide (disch := first | omega | rfl | (simp +decide only [go_sem, ↓reduceIte, h14, h11] <;> rfl) | fail) only [go_sem, ↓reduceIte, h14, h11]
  refine Qdu ?_
  simp +decide (disch := first | omega | rfl | (simp +decide only [go_sem, ↓reduceIte, h11] <;> rfl) | fail) only [go_sem, ↓reduceIte, h11]
  refine Qc ?_ ?_
  ·simp +decide (disch := first | omega | rfl | (simp +decide only [go_sem, ↓reduceIte, Ql, List.contains_cons, List.contains_nil, List.flatMap_cons, List.flatMap_nil, List.append_nil, h11, e] <;> rfl) | fail) only [go_sem, ↓reduceIte, Ql, List.contains_cons, List.contains_nil, List.flatMap_cons, List.flatMap_nil, List.append_nil, h11, e]
   rw [List.take_of_length_le (by rw [Qa0]; omega)]
  ·simp +decide (disch := first | omega | rfl | (simp +decide only [go_sem, ↓reduceIte, Ql, List.contains_cons, List.contains_nil, List.flatMap_cons, List.flatMap_nil, List.append_nil, h11] <;> rfl) | fail) only [go_sem, ↓reduceIte, Ql, List.contains_cons, List.contains_nil, List.flatMap_cons, List.flatMap_nil, List.append_nil, h11]
def Qtr (M : MF) (R : Nat) : Prop := ∀ i, i < R -> ∀ k, k < i -> M i k = M k i
instance {M : MF} {R : Nat} : Decidable (Qtr M R) := by unfold Qtr; infer_instance
theorem Qun {M : MF} {R K ty tyr : Nat} (hR2 : R <= 40) (hK : K < 2 ^ 35) (hB : MBd K R R M) :
  Qb3 Tryz.prog 92 [.nso 1500000 0 R] (upd (fun _ => .undef) 1500000 (.nst 1500000 1 ty (Qaa (Qap 1600000 R R id))))
   (fun x => if x = 1500000 then some ⟨1, ty, [], true⟩ else if 1600000 <= x /\ x < 1600000 + R then some ⟨3, tyr, Q8 PV.rat (M (x - 1600000)) R, true⟩ else none) (fun r _ _ => r = .bool (decide (Qtr M R))) := by
 refine Qec Qn Tryz.func92 rfl Qabn (by simp [c92]) fun C hP => ?_; simp only [c92]
 simp +decide (disch := first | omega | rfl | (simp +decide only [go_sem, ↓reduceIte] <;> rfl) | fail) only [go_sem, ↓reduceIte]
 refine Qcp (by repeat (first | exact Q2 | exact Qu | exact Qv | exact Qw | exact Qx | apply Qt | apply Qz | apply Q7 | apply Qad | apply Qae | apply Qp | apply Q5)) [(0, 0), (2, 4), (7, 31), (1500000, 1500000)] [] (fun q J hp => ∃ i, q = R - i /\ i <= R /\ J 0 = .nso 1500000 0 R /\ J 7 = .int .i64 (i : Nat) /\ J 1500000 = .nst 1500000 1 ty (Qaa (Qap 1600000 R R id)) /\ hp 1500000 = some ⟨1, ty, [], true⟩ /\ (∀ r, r < R -> hp (1600000 + r) = some ⟨3, tyr, Q8 PV.rat (M r) R, true⟩) /\ ∀ j, j < i -> ∀ k, k < j -> M j k = M k j) R ?_ ?_
 ·refine ⟨0, rfl, by omega, ?_⟩
  simp +decide (disch := first | omega | rfl | (simp +decide only [go_sem, ↓reduceIte] <;> rfl) | fail) only [go_sem, ↓reduceIte]
  refine ⟨rfl, fun r hr => ?_, fun j hj => by omega⟩
  rw [if_pos ⟨by omega, by omega⟩, Nat.add_sub_cancel_left]
 rintro _ J h ⟨i, rfl, hi, h0, h7, hg, hh, hr, hs⟩
 simp +decide (disch := first | omega | rfl | (simp +decide only [go_sem, ↓reduceIte, h7] <;> rfl) | fail) only [go_sem, ↓reduceIte, h7]
 refine Qb (fun hc => ?_) (fun hc => ?_)
 ·have hi' : i < R := by omega
  simp +decide (disch := first | omega | rfl | (simp +decide only [go_sem, ↓reduceIte, h0, h7, hg, hh] <;> rfl) | fail) only [go_sem, ↓reduceIte, h0, h7, hg, hh]
  refine Qcp (by repeat (first | exact Q2 | exact Qu | exact Qv | exact Qw | exact Qx | apply Qt | apply Qz | apply Q7 | apply Qad | apply Qae | apply Qp | apply Q5)) [(0, 0), (2, 2), (4, 4), (11, 30), (1500000, 1500000)] [] (fun q J hp => ∃ k, q = i - k /\ k <= i /\ J 0 = .nso 1500000 0 R /\ J 11 = .int .i64 (k : Nat) /\ J 1500000 = .nst 1500000 1 ty (Qaa (Qap 1600000 R R id)) /\ h = hp /\ ∀ j, j < k -> M i j = M j i) i ?_ ?_
  ·refine ⟨0, rfl, by omega, ?_⟩
   simp +decide (disch := first | omega | rfl | (simp +decide only [go_sem, ↓reduceIte, h0, hg] <;> rfl) | fail) only [go_sem, ↓reduceIte, h0, hg]
   exact ⟨rfl, fun j hj => by omega⟩
  rintro _ J2 _ ⟨k, rfl, hk, i0, i11, ig, rfl, is⟩
  simp +decide (disch := first | omega | rfl | (simp +decide only [go_sem, ↓reduceIte, i11] <;> rfl) | fail) only [go_sem, ↓reduceIte, i11]
  refine Qb (fun hc2 => ?_) (fun hc2 => ?_)
  ·have hk' : k < i := by omega
   have r1 := hr i hi'
   have r2 := hr k (by omega)
   have b1 := hB i hi' k (by omega)
   have b2 := hB k (by omega) i hi'
   simp +decide (disch := first | omega | rfl | (simp +decide only [go_sem, ↓reduceIte, i0, i11, ig, hh, r1, r2, id] <;> rfl) | fail) only [go_sem, ↓reduceIte, i0, i11, ig, hh, r1, r2, id]
   refine Qa hP (Q7s (a := M i k) (b := M k i) b1 b2 (by omega)) rfl rfl rfl ?_
   by_cases e : M i k = M k i
   ·simp +decide (disch := first | omega | rfl | (simp +decide only [go_sem, ↓reduceIte, i11, e] <;> rfl) | fail) only [go_sem, ↓reduceIte, i11, e]
    refine Qbx (i - (k + 1)) (by omega) ⟨k + 1, rfl, by omega, ?_⟩
    simp +decide (disch := first | omega | rfl | (simp +decide only [go_sem, ↓reduceIte, i0, ig] <;> rfl) | fail) only [go_sem, ↓reduceIte, i0, ig]
    intro j hj
    by_cases e2 : j = k
    ·subst e2; exact e
    ·exact is j (by omega)
   ·simp +decide (disch := first | omega | rfl | (simp +decide only [go_sem, ↓reduceIte, e] <;> rfl) | fail) only [go_sem, ↓reduceIte, e]
    refine Qdu ?_
    simp +decide (disch := first | omega | rfl | (simp +decide only [go_sem, ↓reduceIte] <;> rfl) | fail) only [go_sem, ↓reduceIte]
    refine Qc ?_ rfl
    rw [decide_eq_false]
    exact fun h => e (h i hi' k hk')
  ·simp +decide (disch := first | omega | rfl | (simp +decide only [go_sem, ↓reduceIte, h7] <;> rfl) | fail) only [go_sem, ↓reduceIte, h7]
   simp (disch := decide) only [Qcs, Qdb, Qcy, Qdv]
   refine Qbx (R - (i + 1)) (by omega) ⟨i + 1, rfl, by omega, ?_⟩
   simp +decide (disch := first | omega | rfl | (simp +decide only [go_sem, ↓reduceIte, i0, ig, hh] <;> rfl) | fail) only [go_sem, ↓reduceIte, i0, ig, hh]
   refine ⟨hr, fun j hj k' hk' => ?_⟩
   by_cases e : j = i
   ·subst e; exact is k' (by omega)
   ·exact hs j (by omega) k' hk'
 ·simp +decide (disch := first | omega | rfl | (simp +decide only [go_sem, ↓reduceIte] <;> rfl) | fail) only [go_sem, ↓reduceIte]
  refine Qdu ?_
  simp +decide (disch := first | omega | rfl | (simp +decide only [go_sem, ↓reduceIte] <;> rfl) | fail) only [go_sem, ↓reduceIte]
  refine Qc ?_ rfl
  rw [decide_eq_true]
  exact fun j hj k hk => hs j (by omega) k hk
end Go.Proofs.YtmnkngmmfnncoaaGreat
namespace Go.FW
open Go
theorem Qaby (x y : Int) (hy : y ≠ 0) : rs ((x : Rat) / (y : Rat)) <= max (nl x.natAbs) (max (nl y.natAbs) 1) := by
 rw [<- Qox x y hy]
 have := Qko (zv (decide (x < 0) != decide (y < 0)) (dig x.natAbs)) y.natAbs
 rwa [Qbf, Qq] at this
theorem Q0c (q : Rat) (h : q ≠ 0) : rs q⁻¹ <= rs q := by
 have hn : q.num ≠ 0 := fun e => h (Rat.num_eq_zero.1 e)
 have e : q⁻¹ = (((q.den : Int) : Int) : Rat) / ((q.num : Int) : Rat) := by
  have d1 : q = (q.num : Rat) / ((q.den : Int) : Rat) := by
   conv => lhs; rw [<- Rat.mkRat_self q]
   rw [Rat.mkRat_eq_div, Rat.intCast_natCast]
  have k1 : ((q.den : Int) : Rat) ≠ 0 := by rw [Ne, Rat.intCast_eq_zero_iff]; have := q.den_nz; omega
  have k3 : ((q.num : Int) : Rat) ≠ 0 := by rw [Ne, Rat.intCast_eq_zero_iff]; exact hn
  generalize (q.num : Rat) = A at *
  generalize ((q.den : Int) : Rat) = D at *
  rw [d1]
  grind
 have h2 := Qaby (q.den : Int) q.num hn
 have h3 := Qsr q
 rw [e]
 unfold rs at h3 ⊢
 unfold rs at h2
 rw [Int.natAbs_natCast] at h2
 have h4 : 1 <= nl q.den := by
  have := q.den_nz
  apply Decidable.byContradiction; intro hc
  exact this (Qhi.1 (by omega))
 omega
end Go.FW
