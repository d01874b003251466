/- Part 13 of the proof of PseudoBack: W13, W14, FwUH. Own lemmas; no conditions. -/
import Derived.Test.YtmnkngmmfnncoaaGreatPseudoBackPart12
set_option linter.unusedSimpArgs false
set_option linter.unnecessarySimpa false
set_option linter.unusedVariables false
namespace Go.Proofs.YtmnkngmmfnncoaaGreat
open Go Go.FW
set_option linter.unusedSimpArgs false
set_option linter.unusedVariables false
set_option maxRecDepth 100000
def Qfj (p : List Tm) (v : Nat) : List (List Tm) := (List.range (Qfv p v + 1).toNat).map fun i => Qa4 p v (i : Nat)
theorem Qt4 {p : List Tm} {v : Int} {K E : Nat} (hp : PB K E p) (np : Nrm p) (hE : E ≤ 1048576) (hlp : p.length ≤ 2 ^ 30) : Qe Tryz.prog 59 [PV.poly p, .int .i64 v] (· = PV.polys (Qfj p (exi v))) := by
  refine Q3f Qk Tryz.func59 rfl Qafa (by simp [c59]) fun C hP => ?_; simp only [c59]
  simp +decide (disch := first | omega | rfl | (simp +decide only [go_sem, ↓reduceIte] <;> rfl) | fail) only [go_sem, ↓reduceIte]
  refine Qa hP (Qp0 hp (by omega)) rfl rfl rfl ?_
  unfold Qfj
  obtain ⟨hd1, hd2, hD3⟩ := Qkb p (exi v)
  have hdb := fun h => (Q7q hp h (exi v)).2
  generalize hD : (Qfv p (exi v) + 1).toNat = D
  obtain hD2 : Qfv p (exi v) = (D : Nat) - 1 := by omega
  rw [hD2] at hd2 hdb ⊢
  rw [hD2] at hD3
  clear hD hD2
  by_cases h0 : p = []
  · subst h0
    obtain rfl : D = 0 := by rcases hD3 with h | ⟨t, ht, _⟩
                             · omega
                             · cases ht
    simp +decide (disch := first | omega | rfl | (simp +decide only [go_sem, ↓reduceIte, show (((0 : Nat) : Int) - 1 + 1) = ((0 : Nat) : Int) from rfl] <;> rfl) | fail) only [go_sem, ↓reduceIte, show (((0 : Nat) : Int) - 1 + 1) = ((0 : Nat) : Int) from rfl]
    refine Qx (by repeat (first | exact Qw | exact Qq | exact Qr | exact Qs | apply Qp | apply Qv | apply Q2 | apply Q7 | apply Q8 | apply Qn)) [(7, 8), (16, 41)] [7, 38, 39] (fun n J hp => J 5 = .ms 13 0 ∧ J 16 = .int .i64 (0 : Nat) ∧ hp 13 = some ⟨1, 65, [], false⟩) 0 ?_ ?_
    · simp +decide (disch := first | omega | rfl | (simp +decide only [go_sem, ↓reduceIte] <;> rfl) | fail) only [go_sem, ↓reduceIte]
      exact ⟨rfl, rfl⟩
    rintro _ J h ⟨h5, h16, hh⟩
    simp +decide (disch := first | omega | rfl | (simp +decide only [go_sem, ↓reduceIte, h5, h16] <;> rfl) | fail) only [go_sem, ↓reduceIte, h5, h16]
    refine Q3e ?_
    simp +decide (disch := first | omega | rfl | (simp +decide only [go_sem, ↓reduceIte, hh, Qd, List.contains_cons, List.contains_nil, List.flatMap_cons, List.flatMap_nil, List.append_nil] <;> rfl) | fail) only [go_sem, ↓reduceIte, hh, Qd, List.contains_cons, List.contains_nil, List.flatMap_cons, List.flatMap_nil, List.append_nil]
    exact Qc rfl rfl
  have hDE : D ≤ 1048577 := by have := hdb h0; omega
  have hD0 : 0 < D := by
    have h1 := hd2 _ (List.getElem_mem (List.length_pos_iff.2 h0))
    have h2 := (hp.get (List.length_pos_iff.2 h0)).m.eN (exi v)
    omega
  simp +decide (disch := first | omega | rfl | (simp +decide only [go_sem, ↓reduceIte, Int.sub_add_cancel] <;> rfl) | fail) only [go_sem, ↓reduceIte, Int.sub_add_cancel]
  refine Q8w 13 2000000 3000000 D 65 4 133 [5, 13] hD0 (by simp +decide (disch := first | omega | rfl | (simp +decide only [go_sem, ↓reduceIte] <;> rfl) | fail) only [go_sem, ↓reduceIte]) (by decide) (by omega) (by omega) (by omega) (by omega) (by simp +decide (disch := first | omega | rfl | (simp +decide only [go_sem, ↓reduceIte] <;> rfl) | fail) only [go_sem, ↓reduceIte]) (fun i hi => by simp +decide (disch := first | omega | rfl | (simp +decide only [go_sem, ↓reduceIte] <;> rfl) | fail) only [go_sem, ↓reduceIte]) (fun s hs => by simp only [List.mem_cons, List.not_mem_nil, or_false] at hs; rcases hs with rfl | rfl <;> simp +decide (disch := first | omega | rfl | (simp +decide only [go_sem, ↓reduceIte] <;> rfl) | fail) only [go_sem, ↓reduceIte]) ?_
  refine Q8v (by repeat (first | exact Qw | exact Qq | exact Qr | exact Qs | apply Qp | apply Qv | apply Q2 | apply Q7 | apply Q8 | apply Qn)) [(5, 5), (7, 8), (16, 41), (2000000, 2000000)] [7, 38, 39] (fun n J hp => ∃ i, n = p.length - i ∧ i ≤ p.length ∧ J 5 = .nso 2000000 0 D ∧ J 16 = .int .i64 (i : Nat) ∧ J 2000000 = .nst 2000000 1 65 (Qbn (rws 3000000 D fun j => (Qa4 (p.take i) (exi v) (j : Nat)).length)) ∧
      hp 2000000 = some ⟨1, 65, [], false⟩ ∧ ∀ j, j < D → hp (3000000 + j) = some ⟨4, 133, (Qa4 (p.take i) (exi v) (j : Nat)).map PV.term, false⟩) p.length ?_ ?_
  · refine ⟨0, rfl, by omega, ?_⟩
    simp +decide (disch := first | omega | rfl | (simp +decide only [go_sem, ↓reduceIte] <;> rfl) | fail) only [go_sem, ↓reduceIte]
    exact ⟨rfl, rfl, rfl, fun j hj => Qadi hj (by omega) (by omega)⟩
  rintro _ J h ⟨i, rfl, hi, h5, h16, hg, hh, hr⟩
  simp +decide (disch := first | omega | rfl | (simp +decide only [go_sem, ↓reduceIte, h5, h16] <;> rfl) | fail) only [go_sem, ↓reduceIte, h5, h16]
  refine Qb (fun hg1 => ?_) (fun hg1 => ?_)
  · have hi' : i < p.length := by omega
    have htp := hp.get hi'
    have hle := hd2 _ (List.getElem_mem hi')
    have hck := fun n => Qz0 (v := exi v) (n := n) hi'
    have hcl := fun n => Qnn (p.take i) (exi v) n
    rw [List.length_take] at hcl
    generalize hx : p[i] = x at *
    have hml := htp.m.len
    have hnn := htp.m.eN (exi v)
    simp +decide (disch := first | omega | rfl | (simp +decide only [go_sem, ↓reduceIte, h5, h16, hx] <;> rfl) | fail) only [go_sem, ↓reduceIte, h5, h16, hx]
    refine Qa hP (Qsi htp.m) rfl rfl rfl ?_
    obtain ⟨k, hk⟩ : ∃ k : Nat, eN x.2 (exi v) = k := ⟨(eN x.2 (exi v)).toNat, by omega⟩
    rw [hk] at hck hle ⊢
    have hkD : k < D := by omega
    have hmx : max (k : Int) 0 = (k : Nat) := by omega
    have hld := fun (K : Qh) (fr : Fr) (hp : HP) d => Qafx (d := d) (fr := fr) (hp := hp) (K := K) (γ := 2000000) (i := k) (ty := 65) (B := 3000000) (n := D) (L := fun j => (Qa4 (p.take i) (exi v) (j : Nat)).length)
    have hrk := hr k hkD
    have hclk := hcl k
    simp +decide (disch := first | omega | rfl | (simp +decide only [go_sem, ↓reduceIte, h5, h16, hx, hk, hh, hg, hmx, hld] <;> rfl) | fail) only [go_sem, ↓reduceIte, h5, h16, hx, hk, hh, hg, hmx, hld]
    refine Qa hP (Qrd htp.m htp.l) rfl rfl rfl ?_
    simp +decide (disch := first | omega | rfl | (simp +decide only [go_sem, ↓reduceIte, h5, h16, hx, hk, hh, hg, hmx, hld] <;> rfl) | fail) only [go_sem, ↓reduceIte, h5, h16, hx, hk, hh, hg, hmx, hld]
    rw [Qxq (f := PV.term) (y := (x.1, Qb0 x.2 (exi v))) (xs := Qa4 (p.take i) (exi v) k) (ty' := 133) (fz := false) (by simp +decide (disch := first | omega | rfl | (simp +decide only [go_sem, ↓reduceIte, hrk] <;> rfl) | fail) only [go_sem, ↓reduceIte, hrk]) (by simp +decide (disch := first | omega | rfl | (simp +decide only [go_sem, ↓reduceIte] <;> rfl) | fail) only [go_sem, ↓reduceIte] <;> rfl) (by omega) rfl (by omega) (by omega) (by omega)]
    simp +decide (disch := first | omega | rfl | (simp +decide only [go_sem, ↓reduceIte, h5, h16, hx, hk, hh, hg, hmx, hld] <;> rfl) | fail) only [go_sem, ↓reduceIte, h5, h16, hx, hk, hh, hg, hmx, hld]
    rw [Qafy (B := 3000000) (n := D) (L := fun j => (Qa4 (p.take i) (exi v) (j : Nat)).length) (ty := 65) (e0 := 1) (ty0 := 65) (xs0 := []) (by simp +decide (disch := first | omega | rfl | (simp +decide only [go_sem, ↓reduceIte, hg] <;> rfl) | fail) only [go_sem, ↓reduceIte, hg]; exact Q3i hkD (by omega)) (by simp +decide (disch := first | omega | rfl | (simp +decide only [go_sem, ↓reduceIte, hh] <;> rfl) | fail) only [go_sem, ↓reduceIte, hh]) hkD (by omega)]
    simp +decide (disch := first | omega | rfl | (simp +decide only [go_sem, ↓reduceIte, h5, h16] <;> rfl) | fail) only [go_sem, ↓reduceIte, h5, h16]
    refine Q17 (p.length - (i + 1)) (by omega) ⟨i + 1, rfl, by omega, ?_⟩
    simp +decide (disch := first | omega | rfl | (simp +decide only [go_sem, ↓reduceIte, h5, hh] <;> rfl) | fail) only [go_sem, ↓reduceIte, h5, hh]
    refine ⟨Qafw (congrArg (fun L => Qbn (rws 3000000 D L)) (funext fun j => ?_)), fun j hj => ?_⟩
    · rw [hck]
      by_cases e : j = k
      · subst e; rw [if_pos rfl, if_pos rfl, List.length_append]; rfl
      · rw [if_neg e, if_neg (by omega), List.append_nil]
    · rw [hck]
      by_cases e : j = k
      · subst e; rw [if_pos rfl, if_pos rfl]
      · rw [if_neg e, if_neg (by omega), List.append_nil]; exact hr j hj
  · obtain rfl : i = p.length := by omega
    simp only [List.take_length] at hg hr
    simp +decide (disch := first | omega | rfl | (simp +decide only [go_sem, ↓reduceIte, h5] <;> rfl) | fail) only [go_sem, ↓reduceIte, h5]
    refine Qadb (Qada 4 2000000 65 4 133 D (rws 3000000 D fun j => (Qa4 p (exi v) (j : Nat)).length) (fun j => (Qa4 p (exi v) ((j - 3000000 : Nat) : Int)).map PV.term) (fun _ => false) (Qiv _ _ _).symm (by simp +decide (disch := first | omega | rfl | (simp +decide only [go_sem, ↓reduceIte, hg] <;> rfl) | fail) only [go_sem, ↓reduceIte, hg]) (by simp +decide (disch := first | omega | rfl | (simp +decide only [go_sem, ↓reduceIte] <;> rfl) | fail) only [go_sem, ↓reduceIte]) (by omega) (fun x hx => ?_) (fun x hx => ?_)) ?_
    · obtain ⟨j, hj, rfl⟩ := List.mem_map.1 hx; show 2000000 ≤ 3000000 + j; omega
    · obtain ⟨j, hj, rfl⟩ := List.mem_map.1 hx
      rw [hr j (List.mem_range.1 hj)]; simp [Nat.add_sub_cancel_left]
    · simp +decide (disch := first | omega | rfl | (simp +decide only [go_sem, ↓reduceIte] <;> rfl) | fail) only [go_sem, ↓reduceIte]
      refine Qc (congrArg (PV.sl 1) ?_) rfl
      rw [Q80, List.map_map]
      refine List.map_congr_left fun j _ => ?_
      simp [List.take_of_length_le]
end Go.Proofs.YtmnkngmmfnncoaaGreat
namespace Go.Proofs.YtmnkngmmfnncoaaGreat
open Go Go.FW
set_option linter.unusedSimpArgs false
set_option linter.unusedVariables false
set_option maxRecDepth 100000
theorem Q3j {p : List Tm} {K E : Nat} (hp : PB K E p) (v : Nat) : ∀ c ∈ Qfj p v, PB K E c ∧ c.length ≤ p.length := by
  intro c hc
  obtain ⟨i, _, rfl⟩ := List.mem_map.1 hc
  exact ⟨Q7n hp v i, Qnn p v i⟩
end Go.Proofs.YtmnkngmmfnncoaaGreat
namespace Go.FW
open Go
end Go.FW
