/- Main, DegreeIn, Coefs and Initial of a polynomial are those of the specification, for any variable: the statement PseudoParts, for arguments of any size up to the stated one. -/
import Derived.Test.YtmnkngmmfnncoaaGreatPseudoPartsPart12
set_option linter.unusedSimpArgs false
set_option linter.unnecessarySimpa false
set_option linter.unusedVariables false
namespace Go.Proofs.YtmnkngmmfnncoaaGreat
open Go Go.FW
set_option linter.unusedSimpArgs false
set_option linter.unusedVariables false
set_option maxRecDepth 100000
def Qix (p : List Tm) (v : Nat) : List (List Tm) := (List.range (Qdu p v + 1).toNat).map fun i => Qa2 p v (i : Nat)
theorem Qsw {p : List Tm} {v : Int} {K E : Nat} (hp : PB K E p) (np : Nrm p) (hE : E ≤ 1048576) (hlp : p.length ≤ 2 ^ 30) : Qe Tryz.prog 59 [PV.poly p, .int .i64 v] (· = PV.polys (Qix p (exi v))) := by
  refine Q1m Qk Tryz.func59 rfl Qadd (by simp [c59]) fun C hP => ?_; simp only [c59]
  simp +decide (disch := first | omega | rfl | (simp +decide only [go_sem, ↓reduceIte] <;> rfl) | fail) only [go_sem, ↓reduceIte]
  refine Qa hP (Qfp hp (by omega)) rfl rfl rfl ?_
  unfold Qix
  obtain ⟨hd1, hd2, hD3⟩ := Qjl p (exi v)
  have hdb := fun h => (Q5u hp h (exi v)).2
  generalize hD : (Qdu p (exi v) + 1).toNat = D
  obtain hD2 : Qdu p (exi v) = (D : Nat) - 1 := by omega
  rw [hD2] at hd2 hdb ⊢
  rw [hD2] at hD3
  clear hD hD2
  by_cases h0 : p = []
  · subst h0
    obtain rfl : D = 0 := by rcases hD3 with h | ⟨t, ht, _⟩
                             · omega
                             · cases ht
    simp +decide (disch := first | omega | rfl | (simp +decide only [go_sem, ↓reduceIte, show (((0 : Nat) : Int) - 1 + 1) = ((0 : Nat) : Int) from rfl] <;> rfl) | fail) only [go_sem, ↓reduceIte, show (((0 : Nat) : Int) - 1 + 1) = ((0 : Nat) : Int) from rfl]
    refine Qx (by repeat (first | exact Qv | exact Qq | exact Qr | exact Qs | apply Qp | apply Qu | apply Qy | apply Q7 | apply Q8 | apply Qn)) [(7, 8), (16, 41)] [7, 38, 39] (fun n J hp => J 5 = .ms 13 0 ∧ J 16 = .int .i64 (0 : Nat) ∧ hp 13 = some ⟨1, 65, [], false⟩) 0 ?_ ?_
    · simp +decide (disch := first | omega | rfl | (simp +decide only [go_sem, ↓reduceIte] <;> rfl) | fail) only [go_sem, ↓reduceIte]
      exact ⟨rfl, rfl⟩
    rintro _ J h ⟨h5, h16, hh⟩
    simp +decide (disch := first | omega | rfl | (simp +decide only [go_sem, ↓reduceIte, h5, h16] <;> rfl) | fail) only [go_sem, ↓reduceIte, h5, h16]
    refine Q1l ?_
    simp +decide (disch := first | omega | rfl | (simp +decide only [go_sem, ↓reduceIte, hh, Qg, List.contains_cons, List.contains_nil, List.flatMap_cons, List.flatMap_nil, List.append_nil] <;> rfl) | fail) only [go_sem, ↓reduceIte, hh, Qg, List.contains_cons, List.contains_nil, List.flatMap_cons, List.flatMap_nil, List.append_nil]
    exact Qc rfl rfl
  have hDE : D ≤ 1048577 := by have := hdb h0; omega
  have hD0 : 0 < D := by
    have h1 := hd2 _ (List.getElem_mem (List.length_pos_iff.2 h0))
    have h2 := (hp.get (List.length_pos_iff.2 h0)).m.eN (exi v)
    omega
  simp +decide (disch := first | omega | rfl | (simp +decide only [go_sem, ↓reduceIte, Int.sub_add_cancel] <;> rfl) | fail) only [go_sem, ↓reduceIte, Int.sub_add_cancel]
  refine Q60 13 2000000 3000000 D 65 4 133 [5, 13] hD0 (by simp +decide (disch := first | omega | rfl | (simp +decide only [go_sem, ↓reduceIte] <;> rfl) | fail) only [go_sem, ↓reduceIte]) (by decide) (by omega) (by omega) (by omega) (by omega) (by simp +decide (disch := first | omega | rfl | (simp +decide only [go_sem, ↓reduceIte] <;> rfl) | fail) only [go_sem, ↓reduceIte]) (fun i hi => by simp +decide (disch := first | omega | rfl | (simp +decide only [go_sem, ↓reduceIte] <;> rfl) | fail) only [go_sem, ↓reduceIte]) (fun s hs => by simp only [List.mem_cons, List.not_mem_nil, or_false] at hs; rcases hs with rfl | rfl <;> simp +decide (disch := first | omega | rfl | (simp +decide only [go_sem, ↓reduceIte] <;> rfl) | fail) only [go_sem, ↓reduceIte]) ?_
  refine Q6z (by repeat (first | exact Qv | exact Qq | exact Qr | exact Qs | apply Qp | apply Qu | apply Qy | apply Q7 | apply Q8 | apply Qn)) [(5, 5), (7, 8), (16, 41), (2000000, 2000000)] [7, 38, 39] (fun n J hp => ∃ i, n = p.length - i ∧ i ≤ p.length ∧ J 5 = .nso 2000000 0 D ∧ J 16 = .int .i64 (i : Nat) ∧ J 2000000 = .nst 2000000 1 65 (Qbi (rws 3000000 D fun j => (Qa2 (p.take i) (exi v) (j : Nat)).length)) ∧
      hp 2000000 = some ⟨1, 65, [], false⟩ ∧ ∀ j, j < D → hp (3000000 + j) = some ⟨4, 133, (Qa2 (p.take i) (exi v) (j : Nat)).map PV.term, false⟩) p.length ?_ ?_
  · refine ⟨0, rfl, by omega, ?_⟩
    simp +decide (disch := first | omega | rfl | (simp +decide only [go_sem, ↓reduceIte] <;> rfl) | fail) only [go_sem, ↓reduceIte]
    exact ⟨rfl, rfl, rfl, fun j hj => Qabm hj (by omega) (by omega)⟩
  rintro _ J h ⟨i, rfl, hi, h5, h16, hg, hh, hr⟩
  simp +decide (disch := first | omega | rfl | (simp +decide only [go_sem, ↓reduceIte, h5, h16] <;> rfl) | fail) only [go_sem, ↓reduceIte, h5, h16]
  refine Qb (fun hg1 => ?_) (fun hg1 => ?_)
  · have hi' : i < p.length := by omega
    have htp := hp.get hi'
    have hle := hd2 _ (List.getElem_mem hi')
    have hck := fun n => Qlr (v := exi v) (n := n) hi'
    have hcl := fun n => Qdz (p.take i) (exi v) n
    rw [List.length_take] at hcl
    generalize hx : p[i] = x at *
    have hml := htp.m.len
    have hnn := htp.m.eN (exi v)
    simp +decide (disch := first | omega | rfl | (simp +decide only [go_sem, ↓reduceIte, h5, h16, hx] <;> rfl) | fail) only [go_sem, ↓reduceIte, h5, h16, hx]
    refine Qa hP (Qnq htp.m) rfl rfl rfl ?_
    obtain ⟨k, hk⟩ : ∃ k : Nat, eN x.2 (exi v) = k := ⟨(eN x.2 (exi v)).toNat, by omega⟩
    rw [hk] at hck hle ⊢
    have hkD : k < D := by omega
    have hmx : max (k : Int) 0 = (k : Nat) := by omega
    have hld := fun (K : Qh) (fr : Fr) (hp : HP) d => Qad5 (d := d) (fr := fr) (hp := hp) (K := K) (γ := 2000000) (i := k) (ty := 65) (B := 3000000) (n := D) (L := fun j => (Qa2 (p.take i) (exi v) (j : Nat)).length)
    have hrk := hr k hkD
    have hclk := hcl k
    simp +decide (disch := first | omega | rfl | (simp +decide only [go_sem, ↓reduceIte, h5, h16, hx, hk, hh, hg, hmx, hld] <;> rfl) | fail) only [go_sem, ↓reduceIte, h5, h16, hx, hk, hh, hg, hmx, hld]
    refine Qa hP (Qjm htp.m htp.l) rfl rfl rfl ?_
    simp +decide (disch := first | omega | rfl | (simp +decide only [go_sem, ↓reduceIte, h5, h16, hx, hk, hh, hg, hmx, hld] <;> rfl) | fail) only [go_sem, ↓reduceIte, h5, h16, hx, hk, hh, hg, hmx, hld]
    rw [Qv2 (f := PV.term) (y := (x.1, Qbq x.2 (exi v))) (xs := Qa2 (p.take i) (exi v) k) (ty' := 133) (fz := false) (by simp +decide (disch := first | omega | rfl | (simp +decide only [go_sem, ↓reduceIte, hrk] <;> rfl) | fail) only [go_sem, ↓reduceIte, hrk]) (by simp +decide (disch := first | omega | rfl | (simp +decide only [go_sem, ↓reduceIte] <;> rfl) | fail) only [go_sem, ↓reduceIte] <;> rfl) (by omega) rfl (by omega) (by omega) (by omega)]
    simp +decide (disch := first | omega | rfl | (simp +decide only [go_sem, ↓reduceIte, h5, h16, hx, hk, hh, hg, hmx, hld] <;> rfl) | fail) only [go_sem, ↓reduceIte, h5, h16, hx, hk, hh, hg, hmx, hld]
    rw [Qad6 (B := 3000000) (n := D) (L := fun j => (Qa2 (p.take i) (exi v) (j : Nat)).length) (ty := 65) (e0 := 1) (ty0 := 65) (xs0 := []) (by simp +decide (disch := first | omega | rfl | (simp +decide only [go_sem, ↓reduceIte, hg] <;> rfl) | fail) only [go_sem, ↓reduceIte, hg]; exact Q1p hkD (by omega)) (by simp +decide (disch := first | omega | rfl | (simp +decide only [go_sem, ↓reduceIte, hh] <;> rfl) | fail) only [go_sem, ↓reduceIte, hh]) hkD (by omega)]
    simp +decide (disch := first | omega | rfl | (simp +decide only [go_sem, ↓reduceIte, h5, h16] <;> rfl) | fail) only [go_sem, ↓reduceIte, h5, h16]
    refine Q0h (p.length - (i + 1)) (by omega) ⟨i + 1, rfl, by omega, ?_⟩
    simp +decide (disch := first | omega | rfl | (simp +decide only [go_sem, ↓reduceIte, h5, hh] <;> rfl) | fail) only [go_sem, ↓reduceIte, h5, hh]
    refine ⟨Qad4 (congrArg (fun L => Qbi (rws 3000000 D L)) (funext fun j => ?_)), fun j hj => ?_⟩
    · rw [hck]
      by_cases e : j = k
      · subst e; rw [if_pos rfl, if_pos rfl, List.length_append]; rfl
      · rw [if_neg e, if_neg (by omega), List.append_nil]
    · rw [hck]
      by_cases e : j = k
      · subst e; rw [if_pos rfl, if_pos rfl]
      · rw [if_neg e, if_neg (by omega), List.append_nil]; exact hr j hj
  · obtain rfl : i = p.length := by omega
    simp only [List.take_length] at hg hr
    simp +decide (disch := first | omega | rfl | (simp +decide only [go_sem, ↓reduceIte, h5] <;> rfl) | fail) only [go_sem, ↓reduceIte, h5]
    refine Qabf (Qabe 4 2000000 65 4 133 D (rws 3000000 D fun j => (Qa2 p (exi v) (j : Nat)).length) (fun j => (Qa2 p (exi v) ((j - 3000000 : Nat) : Int)).map PV.term) (fun _ => false) (Qh4 _ _ _).symm (by simp +decide (disch := first | omega | rfl | (simp +decide only [go_sem, ↓reduceIte, hg] <;> rfl) | fail) only [go_sem, ↓reduceIte, hg]) (by simp +decide (disch := first | omega | rfl | (simp +decide only [go_sem, ↓reduceIte] <;> rfl) | fail) only [go_sem, ↓reduceIte]) (by omega) (fun x hx => ?_) (fun x hx => ?_)) ?_
    · obtain ⟨j, hj, rfl⟩ := List.mem_map.1 hx; show 2000000 ≤ 3000000 + j; omega
    · obtain ⟨j, hj, rfl⟩ := List.mem_map.1 hx
      rw [hr j (List.mem_range.1 hj)]; simp [Nat.add_sub_cancel_left]
    · simp +decide (disch := first | omega | rfl | (simp +decide only [go_sem, ↓reduceIte] <;> rfl) | fail) only [go_sem, ↓reduceIte]
      refine Qc (congrArg (PV.sl 1) ?_) rfl
      rw [Q64, List.map_map]
      refine List.map_congr_left fun j _ => ?_
      simp [List.take_of_length_le]
end Go.Proofs.YtmnkngmmfnncoaaGreat
namespace Go.Proofs.YtmnkngmmfnncoaaGreat
open Go Go.FW
set_option linter.unusedSimpArgs false
set_option linter.unusedVariables false
set_option maxRecDepth 100000
def Qdc (p : List Tm) : Int := p.foldl (fun v t => max v ((t.2.length : Int) - 1)) (-1)
theorem Qyj {p : List Tm} {i : Nat} (h : i < p.length) : Qdc (p.take (i + 1)) = max (Qdc (p.take i)) ((p[i].2.length : Int) - 1) := by
  rw [List.take_succ_eq_append_getElem h, Qdc, List.foldl_append]; rfl
theorem Q1q (p : List Tm) : ∀ d : Int, d ≤ p.foldl (fun v t => max v ((t.2.length : Int) - 1)) d ∧ (∀ t ∈ p, (t.2.length : Int) - 1 ≤ p.foldl (fun v t => max v ((t.2.length : Int) - 1)) d) ∧
    (p.foldl (fun v t => max v ((t.2.length : Int) - 1)) d = d ∨ ∃ t ∈ p, p.foldl (fun v t => max v ((t.2.length : Int) - 1)) d = (t.2.length : Int) - 1) := by
  induction p with
  | nil => intro d; exact ⟨Int.le_refl _, (fun t h => by cases h), .inl rfl⟩
  | cons x p ih =>
    intro d
    obtain ⟨h1, h2, h3⟩ := ih (max d ((x.2.length : Int) - 1))
    simp only [List.foldl_cons]
    refine ⟨by omega, fun t ht => ?_, ?_⟩
    · rcases List.mem_cons.1 ht with rfl | ht
      · omega
      · exact h2 t ht
    · rcases h3 with h3 | ⟨t, ht, h3⟩
      · by_cases hc : (x.2.length : Int) - 1 ≤ d
        · left; omega
        · exact .inr ⟨x, List.mem_cons_self .., by omega⟩
      · exact .inr ⟨t, List.mem_cons_of_mem _ ht, h3⟩
theorem Qyk (p : List Tm) : -1 ≤ Qdc p ∧ (∀ t ∈ p, (t.2.length : Int) - 1 ≤ Qdc p) ∧ (Qdc p = -1 ∨ ∃ t ∈ p, Qdc p = (t.2.length : Int) - 1) := Q1q p (-1)
theorem Qabp {E : Nat} {a b : List Int} (ha : MB E a) (hl : a.getLast? ≠ some 0) (h : Qac a b < 0) : a.length ≤ b.length := by
  apply Classical.byContradiction
  intro hc
  obtain ⟨k, hk⟩ : ∃ k, a.length = k + 1 := ⟨a.length - 1, by omega⟩
  have e : max a.length b.length = k + 1 := by omega
  have h1 := ha.eN k
  have h2 : eN b k = 0 := Qbz (by omega)
  have h3 : eN a k ≠ 0 := fun h0 => by
    have := Qo0 hk
    rw [Qcy (by omega)] at h0
    rw [h0] at this
    exact hl this
  rw [Qac, e, Qbj, h2] at h
  have h4 : Qbu (eN a k) 0 = 1 := by
    rcases Q0b (eN a k) 0 with h | h | h
    · have := Qre.1 (show Qbu (eN a k) 0 < 0 by omega); omega
    · exact absurd (Qwi.1 h) h3
    · exact h
  simp only [h4] at h
  revert h
  simp [h3]
theorem Q66 {p : List Tm} {K E : Nat} (hp : PB K E p) (np : Nrm p) (h0 : p ≠ []) : Qdc p = ((hdT p).2.length : Int) - 1 := by
  obtain ⟨h1, h2, h3⟩ := Qyk p
  have h4 := h2 _ (Qck h0)
  rcases h3 with h3 | ⟨t, ht, h3⟩
  · omega
  · have htp := hp t ht
    rcases Qh2 np.s t ht with e | e
    · rw [← e]; exact h3
    · have := Qabp htp.m htp.l e
      omega
theorem Qm5 {p : List Tm} {K E : Nat} (hp : PB K E p) (hlp : p.length ≤ 2 ^ 36) : Qe Tryz.prog 54 [PV.poly p] (· = .int .i64 (Qdc p)) := by
  refine Qf Qk Tryz.func54 rfl Qadb (by simp [c54]) fun C hP => ?_; simp only [c54]
  simp +decide (disch := first | omega | rfl | (simp +decide only [go_sem, ↓reduceIte] <;> rfl) | fail) only [go_sem, ↓reduceIte]
  refine Qx (by repeat (first | exact Qv | exact Qq | exact Qr | exact Qs | apply Qp | apply Qu | apply Qy | apply Q7 | apply Q8 | apply Qn | apply Q5)) [(3, 3), (5, 5), (8, 17)] [5] (fun n J hp => ∃ i, n = p.length - i ∧ i ≤ p.length ∧ J 3 = .int .i64 (Qdc (p.take i)) ∧ J 8 = .int .i64 (i : Nat)) p.length ?_ ?_
  · refine ⟨0, rfl, by omega, ?_⟩
    simp +decide (disch := first | omega | rfl | (simp +decide only [go_sem, ↓reduceIte] <;> rfl) | fail) only [go_sem, ↓reduceIte]
    exact ⟨rfl, rfl⟩
  rintro _ J h ⟨i, rfl, hi, h5, h10⟩
  simp +decide (disch := first | omega | rfl | (simp +decide only [go_sem, ↓reduceIte, h5, h10] <;> rfl) | fail) only [go_sem, ↓reduceIte, h5, h10]
  refine Qb (fun hg => ?_) (fun hg => ?_)
  · have hi' : i < p.length := by omega
    have htp := hp.get hi'
    have htk := Qyj hi'
    generalize hx : p[i] = x at *
    have hml := htp.m.len
    have hmm := Qvr (a := x.2) (by omega)
    rw [Qua htp.l] at hmm
    simp +decide (disch := first | omega | rfl | (simp +decide only [go_sem, ↓reduceIte, h5, h10, hx] <;> rfl) | fail) only [go_sem, ↓reduceIte, h5, h10, hx]
    refine Qa hP hmm rfl rfl rfl ?_
    simp +decide (disch := first | omega | rfl | (simp +decide only [go_sem, ↓reduceIte, h5, h10, hx] <;> rfl) | fail) only [go_sem, ↓reduceIte, h5, h10, hx]
    refine Ql (p.length - (i + 1)) (by omega) ⟨i + 1, rfl, by omega, ?_⟩
    rw [htk]
    simp +decide (disch := first | omega | rfl | (simp +decide only [go_sem, ↓reduceIte] <;> rfl) | fail) only [go_sem, ↓reduceIte]
  · obtain rfl : i = p.length := by omega
    rw [List.take_length] at h5
    simp +decide (disch := first | omega | rfl | (simp +decide only [go_sem, ↓reduceIte, h5] <;> rfl) | fail) only [go_sem, ↓reduceIte, h5]
    exact Qc rfl rfl
theorem Qu8 {a : List Int} {E : Nat} (ha : MB E a) : Qe Tryz.prog 129 [PV.mono a] (· = .int .i64 ((a.length : Int) - 1)) := by
  have := ha.len
  refine Qf Qk Tryz.func129 rfl Qaaa (by simp [Q5o]) fun C hP => ?_; simp only [Q5o]
  simp +decide (disch := first | omega | rfl | (simp +decide only [go_sem, ↓reduceIte] <;> rfl) | fail) only [go_sem, ↓reduceIte]
  exact Qc rfl rfl
theorem Qm6 {p : List Tm} {K E : Nat} (hp : PB K E p) (np : Nrm p) (hlp : p.length ≤ 2 ^ 36) : Qe Tryz.prog 55 [PV.poly p] (· = .int .i64 (Qdc p)) := by
  by_cases h0 : p = []
  · subst h0
    refine Qf Qk Tryz.func55 rfl Q0y (by simp [c55]) fun C hP => ?_; simp only [c55]
    simp +decide (disch := first | omega | rfl | (simp +decide only [go_sem, ↓reduceIte] <;> rfl) | fail) only [go_sem, ↓reduceIte]
    exact Qc rfl rfl
  have hl := List.length_pos_iff.2 h0
  have hh := Qko hl
  have hm := Q66 hp np h0
  have htp := hp.get hl
  rw [hh] at htp
  have hne : ¬ ((p.length : Int) = 0) := by omega
  refine Qf Qk Tryz.func55 rfl Q0y (by simp [c55]) fun C hP => ?_; simp only [c55]
  simp +decide (disch := first | omega | rfl | (simp +decide only [go_sem, ↓reduceIte, hne, hh] <;> rfl) | fail) only [go_sem, ↓reduceIte, hne, hh]
  refine Qa hP (Qu8 htp.m) rfl rfl rfl ?_
  rw [← hm]
  simp +decide (disch := first | omega | rfl | (simp +decide only [go_sem, ↓reduceIte] <;> rfl) | fail) only [go_sem, ↓reduceIte]
  exact Qc rfl rfl
def Qjq (p : List Tm) : List Tm := if Qdc p < 0 then p else Qa2 p (exi (Qdc p)) (Qdu p (exi (Qdc p)))
theorem Qqq {p : List Tm} {K E : Nat} (hp : PB K E p) (hlp : p.length ≤ 2 ^ 36) : Qe Tryz.prog 62 [PV.poly p] (· = PV.poly (Qjq p)) := by
  refine Qf Qk Tryz.func62 rfl Qade (by simp [c62]) fun C hP => ?_; simp only [c62]
  simp +decide (disch := first | omega | rfl | (simp +decide only [go_sem, ↓reduceIte] <;> rfl) | fail) only [go_sem, ↓reduceIte]
  refine Qa hP (Qm5 hp hlp) rfl rfl rfl ?_
  unfold Qjq
  generalize Qdc p = v
  simp +decide (disch := first | omega | rfl | (simp +decide only [go_sem, ↓reduceIte] <;> rfl) | fail) only [go_sem, ↓reduceIte]
  refine Qb (fun h0 => ?_) (fun h0 => ?_)
  · rw [if_pos h0]
    simp +decide (disch := first | omega | rfl | (simp +decide only [go_sem, ↓reduceIte] <;> rfl) | fail) only [go_sem, ↓reduceIte]
    exact Qc rfl rfl
  · rw [if_neg h0]
    simp +decide (disch := first | omega | rfl | (simp +decide only [go_sem, ↓reduceIte] <;> rfl) | fail) only [go_sem, ↓reduceIte]
    refine Qa hP (Qfp hp hlp) rfl rfl rfl ?_
    simp +decide (disch := first | omega | rfl | (simp +decide only [go_sem, ↓reduceIte] <;> rfl) | fail) only [go_sem, ↓reduceIte]
    refine Qa hP (Quz hp hlp) rfl rfl rfl ?_
    simp +decide (disch := first | omega | rfl | (simp +decide only [go_sem, ↓reduceIte] <;> rfl) | fail) only [go_sem, ↓reduceIte]
    exact Qc rfl rfl
theorem Qqr {p : List Tm} {K E : Nat} (hp : PB K E p) (np : Nrm p) (hlp : p.length ≤ 2 ^ 36) (hE : E ≤ 1048576) (hK : K ≤ 2 ^ 32) : Qe Tryz.prog 63 [PV.poly p] (· = PV.poly (Qjq p)) := by
  refine Qf Qk Tryz.func63 rfl Qadj (by simp [c63]) fun C hP => ?_; simp only [c63]
  simp +decide (disch := first | omega | rfl | (simp +decide only [go_sem, ↓reduceIte] <;> rfl) | fail) only [go_sem, ↓reduceIte]
  refine Qa hP (Qm6 hp np hlp) rfl rfl rfl ?_
  unfold Qjq
  generalize Qdc p = v
  simp +decide (disch := first | omega | rfl | (simp +decide only [go_sem, ↓reduceIte] <;> rfl) | fail) only [go_sem, ↓reduceIte]
  refine Qb (fun h0 => ?_) (fun h0 => ?_)
  · rw [if_pos h0]
    simp +decide (disch := first | omega | rfl | (simp +decide only [go_sem, ↓reduceIte] <;> rfl) | fail) only [go_sem, ↓reduceIte]
    exact Qc rfl rfl
  · rw [if_neg h0]
    simp +decide (disch := first | omega | rfl | (simp +decide only [go_sem, ↓reduceIte] <;> rfl) | fail) only [go_sem, ↓reduceIte]
    refine Qa hP (Qfq hp hlp) rfl rfl rfl ?_
    simp +decide (disch := first | omega | rfl | (simp +decide only [go_sem, ↓reduceIte] <;> rfl) | fail) only [go_sem, ↓reduceIte]
    refine Qa hP (Qmy hp np hlp hE hK) rfl rfl rfl ?_
    simp +decide (disch := first | omega | rfl | (simp +decide only [go_sem, ↓reduceIte] <;> rfl) | fail) only [go_sem, ↓reduceIte]
    exact Qc rfl rfl
theorem Qsg {p : List Tm} {K E : Nat} (hp : PB K E p) (v : Nat) : ∀ c ∈ Qix p v, PB K E c ∧ c.length ≤ p.length := by
  intro c hc
  obtain ⟨i, _, rfl⟩ := List.mem_map.1 hc
  exact ⟨Qo6 hp v i, Qdz p v i⟩
theorem Qsx {p : List Tm} {v : Int} {K E : Nat} (hp : PB K E p) (np : Nrm p) (hlp : p.length ≤ 2 ^ 36) (hE : E ≤ 1048576) (hK : K ≤ 2 ^ 32) : Qe Tryz.prog 60 [PV.poly p, .int .i64 v] (· = PV.polys (Qix p (exi v))) := by
  obtain ⟨hd1, hd2, hD3⟩ := Qjl p (exi v)
  have hdb : Qdu p (exi v) ≤ E := by
    rcases hD3 with h | ⟨t, ht, h⟩
    · omega
    · rw [h]; exact ((hp t ht).m.eN _).2
  unfold Qix
  generalize hD : (Qdu p (exi v) + 1).toNat = D
  have hD2 : Qdu p (exi v) = (D : Nat) - 1 := by omega
  clear hD hD3 hd2
  refine Qf Qk Tryz.func60 rfl Qadi (by simp [c60]) fun C hP => ?_; simp only [c60]
  simp +decide (disch := first | omega | rfl | (simp +decide only [go_sem, ↓reduceIte] <;> rfl) | fail) only [go_sem, ↓reduceIte]
  refine Qe5 5 900 1 65 (by omega) (by simp +decide (disch := first | omega | rfl | (simp +decide only [go_sem, ↓reduceIte] <;> rfl) | fail) only [go_sem, ↓reduceIte]) ?_
  refine Qx (by repeat (first | exact Qv | exact Qq | exact Qr | exact Qs | apply Qp | apply Qu | apply Qy | apply Q7 | apply Q8 | apply Qn | apply Q5)) [(5, 20)] [19, 20, 900] (fun m J hp => ∃ i, m = D - i ∧ i ≤ D ∧ J 5 = .ms 900 i ∧ J 6 = .int .i64 (i : Nat) ∧ hp 900 = some ⟨1, 65, (List.range i).map fun j : Nat => PV.poly (Qa2 p (exi v) (j : Nat)), false⟩) D ?_ ?_
  · refine ⟨0, rfl, by omega, ?_⟩
    simp +decide (disch := first | omega | rfl | (simp +decide only [go_sem, ↓reduceIte] <;> rfl) | fail) only [go_sem, ↓reduceIte]
    first | exact ⟨rfl, rfl, rfl⟩ | exact ⟨rfl, rfl⟩ | rfl
  rintro _ J h ⟨i, rfl, hi, h5, h6, hh⟩
  simp +decide (disch := first | omega | rfl | (simp +decide only [go_sem, ↓reduceIte, h5, h6] <;> rfl) | fail) only [go_sem, ↓reduceIte, h5, h6]
  refine Qa hP (Qfq hp hlp) rfl rfl rfl ?_
  rw [hD2]
  simp +decide (disch := first | omega | rfl | (simp +decide only [go_sem, ↓reduceIte, h5, h6] <;> rfl) | fail) only [go_sem, ↓reduceIte, h5, h6]
  refine Qb (fun hg => ?_) (fun hg => ?_)
  · have hi' : i < D := by omega
    simp +decide (disch := first | omega | rfl | (simp +decide only [go_sem, ↓reduceIte, h5, h6] <;> rfl) | fail) only [go_sem, ↓reduceIte, h5, h6]
    refine Qa hP (Qmy hp np hlp hE hK) rfl rfl rfl ?_
    simp +decide (disch := first | omega | rfl | (simp +decide only [go_sem, ↓reduceIte, h5, h6] <;> rfl) | fail) only [go_sem, ↓reduceIte, h5, h6]
    rw [Qaa (f := fun j : Nat => PV.poly (Qa2 p (exi v) (j : Nat))) (y := i) (xs := List.range i) (ty' := 65) (fz := false) (by simp +decide (disch := first | omega | rfl | (simp +decide only [go_sem, ↓reduceIte, hh] <;> rfl) | fail) only [go_sem, ↓reduceIte, hh]) (by simp +decide (disch := first | omega | rfl | (simp +decide only [go_sem, ↓reduceIte] <;> rfl) | fail) only [go_sem, ↓reduceIte] <;> rfl) (by omega) (by simp) (by omega) (by omega)]
    simp +decide (disch := first | omega | rfl | (simp +decide only [go_sem, ↓reduceIte, h5, h6] <;> rfl) | fail) only [go_sem, ↓reduceIte, h5, h6]
    refine Ql (D - (i + 1)) (by omega) ⟨i + 1, rfl, by omega, ?_⟩
    simp +decide (disch := first | omega | rfl | (simp +decide only [go_sem, ↓reduceIte, List.range_succ] <;> rfl) | fail) only [go_sem, ↓reduceIte, List.range_succ]
  · obtain rfl : i = D := by omega
    simp +decide (disch := first | omega | rfl | (simp +decide only [go_sem, ↓reduceIte, h5, hh] <;> rfl) | fail) only [go_sem, ↓reduceIte, h5, hh]
    refine Qke hh ?_
    rw [List.take_of_length_le (by simp), PV.polys, List.map_map]
    rfl
theorem Qqs {l : List (List Tm)} {K E : Nat} (hl : ∀ c ∈ l, PB K E c ∧ c.length ≤ 2 ^ 36) (hK : K ≤ 2 ^ 33) (hE : E ≤ 2 ^ 38) (hll : l.length ≤ 2 ^ 36) : Qe Tryz.prog 58 [PV.polys l, PV.polys l] (· = .bool true) := by
  refine Qf Qk Tryz.func58 rfl Qadk (by simp [c58]) fun C hP => ?_; simp only [c58]
  simp +decide (disch := first | omega | rfl | (simp +decide only [go_sem, ↓reduceIte] <;> rfl) | fail) only [go_sem, ↓reduceIte]
  refine Qx (by repeat (first | exact Qv | exact Qq | exact Qr | exact Qs | apply Qp | apply Qu | apply Qy | apply Q7 | apply Q8 | apply Qn | apply Q5)) [(4, 5), (11, 26)] [] (fun n J hp => ∃ i, n = l.length - i ∧ i ≤ l.length ∧ J 5 = .int .i64 (i : Nat)) l.length ?_ ?_
  · refine ⟨0, rfl, by omega, ?_⟩
    simp +decide (disch := first | omega | rfl | (simp +decide only [go_sem, ↓reduceIte] <;> rfl) | fail) only [go_sem, ↓reduceIte]
    rfl
  rintro _ J h ⟨i, rfl, hi, h5⟩
  simp +decide (disch := first | omega | rfl | (simp +decide only [go_sem, ↓reduceIte, h5] <;> rfl) | fail) only [go_sem, ↓reduceIte, h5]
  refine Qb (fun hg => ?_) (fun hg => ?_)
  · have hi' : i < l.length := by omega
    have hc := hl _ (List.getElem_mem hi')
    generalize hx : l[i] = x at *
    simp +decide (disch := first | omega | rfl | (simp +decide only [go_sem, ↓reduceIte, h5, hx] <;> rfl) | fail) only [go_sem, ↓reduceIte, h5, hx]
    refine Qa hP (Qcf hc.1 hc.1 hK hE hc.2 hc.2) rfl rfl rfl ?_
    rw [decide_eq_true (p := x = x) rfl]
    simp +decide (disch := first | omega | rfl | (simp +decide only [go_sem, ↓reduceIte, h5] <;> rfl) | fail) only [go_sem, ↓reduceIte, h5]
    refine Ql (l.length - (i + 1)) (by omega) ⟨i + 1, rfl, by omega, ?_⟩
    simp +decide (disch := first | omega | rfl | (simp +decide only [go_sem, ↓reduceIte] <;> rfl) | fail) only [go_sem, ↓reduceIte]
  · simp +decide (disch := first | omega | rfl | (simp +decide only [go_sem, ↓reduceIte, h5] <;> rfl) | fail) only [go_sem, ↓reduceIte, h5]
    exact Qc rfl rfl
theorem Qo8 {p : List RTm} {v : Int} {k : Nat} (hb : ∀ t ∈ p, RB k t) (hk1 : 1 ≤ k) (hk : k < 2 ^ 36) (hl : p.length < 2 ^ 40) :
    Qe Tryz.prog 10 [PV.rpoly p, .int .i64 v] (· = .bool true) := by
  refine Qf Qk Tryz.func10 rfl Qadn (by simp [c10]) fun C hP => ?_; simp only [c10]
  simp +decide (disch := first | omega | rfl | (simp +decide only [go_sem, ↓reduceIte] <;> rfl) | fail) only [go_sem, ↓reduceIte]
  refine Qa hP (Qss (n := 10) (v := 64) (e := 20) hb hk1 hk hl) rfl rfl rfl ?_
  cases hf : Qjo 10 64 20 p
  · simp +decide (disch := first | omega | rfl | (simp +decide only [go_sem, ↓reduceIte] <;> rfl) | fail) only [go_sem, ↓reduceIte]
    refine Qa hP Qok rfl rfl rfl ?_
    simp +decide (disch := first | omega | rfl | (simp +decide only [go_sem, ↓reduceIte] <;> rfl) | fail) only [go_sem, ↓reduceIte]
    exact Qc rfl rfl
  have hs := Qyi (e := 20) hb hf
  rw [hs.eq]
  have hn := hs.va.nrm
  have hB := hs.b
  have hL := hs.ln
  generalize p.map RTm.tm = q at *
  simp +decide (disch := first | omega | rfl | (simp +decide only [go_sem, ↓reduceIte] <;> rfl) | fail) only [go_sem, ↓reduceIte]
  refine Qa hP (Qm5 hB (by omega)) rfl rfl rfl ?_
  simp +decide (disch := first | omega | rfl | (simp +decide only [go_sem, ↓reduceIte] <;> rfl) | fail) only [go_sem, ↓reduceIte]
  refine Qa hP (Qm6 hB hn (by omega)) rfl rfl rfl ?_
  simp +decide (disch := first | omega | rfl | (simp +decide only [go_sem, ↓reduceIte] <;> rfl) | fail) only [go_sem, ↓reduceIte]
  refine Qa hP (Qfp hB (by omega)) rfl rfl rfl ?_
  simp +decide (disch := first | omega | rfl | (simp +decide only [go_sem, ↓reduceIte] <;> rfl) | fail) only [go_sem, ↓reduceIte]
  refine Qa hP (Qfq hB (by omega)) rfl rfl rfl ?_
  simp +decide (disch := first | omega | rfl | (simp +decide only [go_sem, ↓reduceIte] <;> rfl) | fail) only [go_sem, ↓reduceIte]
  refine Qa hP (Qsw hB hn (by omega) (by omega)) rfl rfl rfl ?_
  simp +decide (disch := first | omega | rfl | (simp +decide only [go_sem, ↓reduceIte] <;> rfl) | fail) only [go_sem, ↓reduceIte]
  refine Qa hP (Qsx hB hn (by omega) (by omega) (by omega)) rfl rfl rfl ?_
  have hD : (Qix q (exi v)).length ≤ 21 := by
    obtain ⟨_, _, h3⟩ := Qjl q (exi v)
    simp only [Qix, List.length_map, List.length_range]
    rcases h3 with h | ⟨t, ht, h⟩
    · omega
    · have := ((hB t ht).m.eN (exi v)).2; omega
  simp +decide (disch := first | omega | rfl | (simp +decide only [go_sem, ↓reduceIte] <;> rfl) | fail) only [go_sem, ↓reduceIte]
  refine Qa hP (Qqs (fun c hc => ⟨(Qsg hB _ c hc).1, by have := (Qsg hB _ c hc).2; omega⟩) (by omega) (by omega) (by omega)) rfl rfl rfl ?_
  simp +decide (disch := first | omega | rfl | (simp +decide only [go_sem, ↓reduceIte] <;> rfl) | fail) only [go_sem, ↓reduceIte]
  refine Qa hP (Qqq hB (by omega)) rfl rfl rfl ?_
  simp +decide (disch := first | omega | rfl | (simp +decide only [go_sem, ↓reduceIte] <;> rfl) | fail) only [go_sem, ↓reduceIte]
  refine Qa hP (Qqr hB hn (by omega) (by omega) (by omega)) rfl rfl rfl ?_
  have hI : PB 5 20 (Qjq q) ∧ (Qjq q).length ≤ 10 := by
    unfold Qjq; split
    · exact ⟨hB, hL⟩
    · exact ⟨Qo6 hB _ _, by have := Qdz q (exi (Qdc q)) (Qdu q (exi (Qdc q))); omega⟩
  generalize Qjq q = R at *
  simp +decide (disch := first | omega | rfl | (simp +decide only [go_sem, ↓reduceIte] <;> rfl) | fail) only [go_sem, ↓reduceIte]
  refine Qa hP (Qcf hI.1 hI.1 (by omega) (by omega) (by omega) (by omega)) rfl rfl rfl ?_
  rw [decide_eq_true (p := R = R) rfl]
  simp +decide (disch := first | omega | rfl | (simp +decide only [go_sem, ↓reduceIte] <;> rfl) | fail) only [go_sem, ↓reduceIte]
  refine Qa hP Qok rfl rfl rfl ?_
  simp +decide (disch := first | omega | rfl | (simp +decide only [go_sem, ↓reduceIte] <;> rfl) | fail) only [go_sem, ↓reduceIte]
  exact Qc rfl rfl
theorem Qqt {p : List RTm} {v : Int} (h1 : Qx1 p) (hv : -9223372036854775808 ≤ v ∧ v ≤ 9223372036854775807) : Qe Tryz.prog 10 [PV.rpoly p, .int .i64 v] (· = .bool true) :=
  Qo8 (k := 1048576) (fun t ht => (h1.2 t ht).1) (by omega) (by omega) (by have := h1.1; omega)
end Go.Proofs.YtmnkngmmfnncoaaGreat
namespace Go.Proofs.YtmnkngmmfnncoaaGreat
open Go Go.FW Go.ChangeShapes Go.WideShapes Go.ChangeAt Go.RowKit
set_option linter.unusedSimpArgs false
set_option linter.unusedVariables false
set_option maxRecDepth 100000
theorem Qlv (H : Type) (enc : TypeId × Value → H) (W : World) (base : Nat) (args : Array Value) (ds gs : List (DataW H)) (before : List MemPlace)
    (Qcb : ∀ (j : Nat) t v, Tryz.f10.params[j]? = some t → args[j]? = some v → Value.okWide Tryz.prog W .any base t v)
    (hW : DataW.Whole enc Tryz.prog Tryz.f10.params.toList Rows.pseudoPartsSpec.vars false W args.toList ds gs before) (hk : Rows.uptoSmall H (ds ++ gs) = true) :
    Calls Tryz.prog 10 args W fun e W' => ∃ v, e = .returned v ∧ Rows.pseudoPartsSpec.post enc Tryz.prog Tryz.f10 false true false false W args v W' := by
  have hW' := hW
  obtain ⟨p, q, hA0, hV, rfl, hfz, hnd⟩ := hW
  have hA : DataW.TrodAll enc Tryz.prog W 0 (fun _ => true) true Tryz.f10.params.toList args.toList ds p := hA0
  rw [Tryz.params10] at hA Qcb
  obtain ⟨v0, vs0, e0, ds0, p0, q0, hargs, rfl, rfl, h0, r0⟩ := trodAll_cons hA
  obtain ⟨v1, vs1, e1, ds1, p1, q1, rfl, rfl, rfl, h1, r1⟩ := trodAll_cons r0
  obtain ⟨rfl, rfl, rfl⟩ := trodAll_nil r1
  obtain rfl : args = #[v0, v1] := by cases args; simp_all
  obtain ⟨rfl, rfl⟩ := trodVars_none hV
  have hb := Q4f hk
  simp only [List.append_nil, Rows.uptoBulkAll] at hb
  obtain ⟨a0, g0, b0⟩ := Q4g (Qcb 0 _ v0 rfl rfl) h0 (by omega)
  obtain ⟨a1, g1, b1⟩ := Q87 (Qcb 1 _ v1 rfl rfl) h1 (by omega)
  exact Q0p hW' rfl (by kernel_rfl) (by kernel_rfl) rfl (Qqt b0 b1) rfl
    (Q4h (vs := [v0, v1]) (by
      intro i x hx v hv
      match i, hx, hv with
      | 0, hx, hv => simp at hx hv; subst hx hv; exact g0
      | 1, hx, hv => simp at hx hv; subst hx hv; exact g1
      | i + 2, hx, hv => simp at hx) rfl)
theorem Qm7 (os : Os) (started : os.Started) (H : Type) (enc : TypeId × Value → H) (F : Stop.Interp) :
    ReturnsInHanded {} Tryz.checked os 10 .any ((Rows.OpenSpec.upto Rows.pseudoPartsSpec).pre6 enc Tryz.prog Tryz.f10 Rows.pseudoPartsUptoRow.domain false) (((Rows.OpenSpec.upto Rows.pseudoPartsSpec).at F).post enc Tryz.prog Tryz.f10 false true false false) := by
  refine returnsInHanded_of_cond (C := Tryz.checked) (s := Rows.OpenSpec.upto Rows.pseudoPartsSpec) (k := Rows.uptoSmall) rfl own started (by kernel_rfl) Tryz.func10
    (OpenSpec.witness (enc := enc) (C := Tryz.checked) (s := Rows.OpenSpec.upto Rows.pseudoPartsSpec) (k := Rows.uptoSmall) rfl false ⟨#[], #[.slice none 0 0, .int .i64 0], []⟩ 8 (by kernel_rfl) (by kernel_rfl) (by kernel_rfl)
      (x := ([.nil, .lit (.int .i64 0)], [], [])) (by kernel_rfl) rfl (by kernel_rfl)) ?_
  intro W base args ds gs before Qcb hW _ hk _
  exact Qlv H enc W base args ds gs before Qcb hW hk
theorem pseudoParts_proved : Rows.PseudoPartsUptoSaid :=
  OpenClaim.holds_of_cond 10 Tryz.f10 rfl rfl rfl rfl rfl rfl rfl ⟨rfl, rfl, rfl, rfl, rfl⟩ rfl rfl rfl rfl rfl (by kernel_rfl) Tryz.func10 (by kernel_rfl)
    (of_decide_eq_true (by kernel_rfl)) (by unfold Func.isWrapper; first | (rw [if_pos (by decide +kernel)]; kernel_rfl) | (rw [if_neg (by decide +kernel)]; exact ⟨rfl, rfl⟩))
    (fun os started H enc _ F => Qm7 os started H enc F)
end Go.Proofs.YtmnkngmmfnncoaaGreat
