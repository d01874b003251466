/- Part 13 of the proof of PseudoEquation: W13, W14, FwUH. Own lemmas; no conditions. -/
import Derived.Test.YtmnkngmmfnncoaaGreatPseudoEquationPart12
set_option linter.unusedSimpArgs false
set_option linter.unnecessarySimpa false
set_option linter.unusedVariables false
namespace Go.Proofs.YtmnkngmmfnncoaaGreat
open Go Go.FW
set_option linter.unusedSimpArgs false
set_option linter.unusedVariables false
set_option maxRecDepth 100000
def Qih (p : List Tm) (v : Nat) : List (List Tm) := (List.range (Qai p v + 1).toNat).map fun i => Q7 p v (i : Nat)
theorem Qug {p : List Tm} {v : Int} {K E : Nat} (hp : PB K E p) (np : Nrm p) (hE : E <= 1048576) (hlp : p.length <= 2 ^ 30) : Qe Tryz.prog 59 [PV.poly p, .int .i64 v] (· = PV.polys (Qih p (exi v))) := by
  refine Q3d Qk Tryz.func59 rfl Qafq (by simp [c59]) fun C hP => ?_; simp only [c59]
  simp +decide (disch := first | omega | rfl | (simp +decide only [go_sem, ↓reduceIte] <;> rfl) | fail) only [go_sem, ↓reduceIte]
  refine Qa hP (Qce hp (by omega)) rfl rfl rfl ?_
  unfold Qih
  obtain ⟨hd1, hd2, hD3⟩ := Qgj p (exi v)
  have hdb := fun h => (Qhk hp h (exi v)).2
  generalize hD : (Qai p (exi v) + 1).toNat = D
  obtain hD2 : Qai p (exi v) = (D : Nat) - 1 := by omega
  rw [hD2] at hd2 hdb ⊢
  rw [hD2] at hD3
  clear hD hD2
  by_cases h0 : p = []
  · subst h0
    obtain rfl : D = 0 := by rcases hD3 with h | ⟨t, ht, _⟩
                             · omega
                             · cases ht
    simp +decide (disch := first | omega | rfl | (simp +decide only [go_sem, ↓reduceIte, show (((0 : Nat) : Int) - 1 + 1) = ((0 : Nat) : Int) from rfl] <;> rfl) | fail) only [go_sem, ↓reduceIte, show (((0 : Nat) : Int) - 1 + 1) = ((0 : Nat) : Int) from rfl]
    refine Qy (by repeat (first | exact Qv | exact Qp | exact Qq | exact Qr | apply Qo | apply Qu | apply Qz | apply Q8 | apply Q9 | apply Qn)) [(7, 8), (16, 41)] [7, 38, 39] (fun n J hp => J 5 = .ms 13 0 /\ J 16 = .int .i64 (0 : Nat) /\ hp 13 = some ⟨1, 65, [], false⟩) 0 ?_ ?_
    · simp +decide (disch := first | omega | rfl | (simp +decide only [go_sem, ↓reduceIte] <;> rfl) | fail) only [go_sem, ↓reduceIte]
      exact ⟨rfl, rfl⟩
    rintro _ J h ⟨h5, h16, hh⟩
    simp +decide (disch := first | omega | rfl | (simp +decide only [go_sem, ↓reduceIte, h5, h16] <;> rfl) | fail) only [go_sem, ↓reduceIte, h5, h16]
    refine Q3c ?_
    simp +decide (disch := first | omega | rfl | (simp +decide only [go_sem, ↓reduceIte, hh, Qd, List.contains_cons, List.contains_nil, List.flatMap_cons, List.flatMap_nil, List.append_nil] <;> rfl) | fail) only [go_sem, ↓reduceIte, hh, Qd, List.contains_cons, List.contains_nil, List.flatMap_cons, List.flatMap_nil, List.append_nil]
    exact Qc rfl rfl
  have hDE : D <= 1048577 := by have := hdb h0; omega
  have hD0 : 0 < D := by
    have h1 := hd2 _ (List.getElem_mem (List.length_pos_iff.2 h0))
    have h2 := (hp.get (List.length_pos_iff.2 h0)).m.eN (exi v)
    omega
  simp +decide (disch := first | omega | rfl | (simp +decide only [go_sem, ↓reduceIte, Int.sub_add_cancel] <;> rfl) | fail) only [go_sem, ↓reduceIte, Int.sub_add_cancel]
  refine Q81 13 2000000 3000000 D 65 4 133 [5, 13] hD0 (by simp +decide (disch := first | omega | rfl | (simp +decide only [go_sem, ↓reduceIte] <;> rfl) | fail) only [go_sem, ↓reduceIte]) (by decide) (by omega) (by omega) (by omega) (by omega) (by simp +decide (disch := first | omega | rfl | (simp +decide only [go_sem, ↓reduceIte] <;> rfl) | fail) only [go_sem, ↓reduceIte]) (fun i hi => by simp +decide (disch := first | omega | rfl | (simp +decide only [go_sem, ↓reduceIte] <;> rfl) | fail) only [go_sem, ↓reduceIte]) (fun s hs => by simp only [List.mem_cons, List.not_mem_nil, or_false] at hs; rcases hs with rfl | rfl <;> simp +decide (disch := first | omega | rfl | (simp +decide only [go_sem, ↓reduceIte] <;> rfl) | fail) only [go_sem, ↓reduceIte]) ?_
  refine Q80 (by repeat (first | exact Qv | exact Qp | exact Qq | exact Qr | apply Qo | apply Qu | apply Qz | apply Q8 | apply Q9 | apply Qn)) [(5, 5), (7, 8), (16, 41), (2000000, 2000000)] [7, 38, 39] (fun n J hp => ∃ i, n = p.length - i /\ i <= p.length /\ J 5 = .nso 2000000 0 D /\ J 16 = .int .i64 (i : Nat) /\ J 2000000 = .nst 2000000 1 65 (Qbq (rws 3000000 D fun j => (Q7 (p.take i) (exi v) (j : Nat)).length)) /\
      hp 2000000 = some ⟨1, 65, [], false⟩ /\ ∀ j, j < D -> hp (3000000 + j) = some ⟨4, 133, (Q7 (p.take i) (exi v) (j : Nat)).map PV.term, false⟩) p.length ?_ ?_
  · refine ⟨0, rfl, by omega, ?_⟩
    simp +decide (disch := first | omega | rfl | (simp +decide only [go_sem, ↓reduceIte] <;> rfl) | fail) only [go_sem, ↓reduceIte]
    exact ⟨rfl, rfl, rfl, fun j hj => Qadz hj (by omega) (by omega)⟩
  rintro _ J h ⟨i, rfl, hi, h5, h16, hg, hh, hr⟩
  simp +decide (disch := first | omega | rfl | (simp +decide only [go_sem, ↓reduceIte, h5, h16] <;> rfl) | fail) only [go_sem, ↓reduceIte, h5, h16]
  refine Qb (fun hg1 => ?_) (fun hg1 => ?_)
  · have hi' : i < p.length := by omega
    have htp := hp.get hi'
    have hle := hd2 _ (List.getElem_mem hi')
    have hck := fun n => Qrs (v := exi v) (n := n) hi'
    have hcl := fun n => Qcw (p.take i) (exi v) n
    rw [List.length_take] at hcl
    generalize hx : p[i] = x at *
    have hml := htp.m.len
    have hnn := htp.m.eN (exi v)
    simp +decide (disch := first | omega | rfl | (simp +decide only [go_sem, ↓reduceIte, h5, h16, hx] <;> rfl) | fail) only [go_sem, ↓reduceIte, h5, h16, hx]
    refine Qa hP (Qou htp.m) rfl rfl rfl ?_
    obtain ⟨k, hk⟩ : ∃ k : Nat, eN x.2 (exi v) = k := ⟨(eN x.2 (exi v)).toNat, by omega⟩
    rw [hk] at hck hle ⊢
    have hkD : k < D := by omega
    have hmx : max (k : Int) 0 = (k : Nat) := by omega
    have hld := fun (K : Qh) (fr : Fr) (hp : HP) d => Qagf (d := d) (fr := fr) (hp := hp) (K := K) (γ := 2000000) (i := k) (ty := 65) (B := 3000000) (n := D) (L := fun j => (Q7 (p.take i) (exi v) (j : Nat)).length)
    have hrk := hr k hkD
    have hclk := hcl k
    simp +decide (disch := first | omega | rfl | (simp +decide only [go_sem, ↓reduceIte, h5, h16, hx, hk, hh, hg, hmx, hld] <;> rfl) | fail) only [go_sem, ↓reduceIte, h5, h16, hx, hk, hh, hg, hmx, hld]
    refine Qa hP (Qkl htp.m htp.l) rfl rfl rfl ?_
    simp +decide (disch := first | omega | rfl | (simp +decide only [go_sem, ↓reduceIte, h5, h16, hx, hk, hh, hg, hmx, hld] <;> rfl) | fail) only [go_sem, ↓reduceIte, h5, h16, hx, hk, hh, hg, hmx, hld]
    rw [Qxq (f := PV.term) (y := (x.1, Qb0 x.2 (exi v))) (xs := Q7 (p.take i) (exi v) k) (ty' := 133) (fz := false) (by simp +decide (disch := first | omega | rfl | (simp +decide only [go_sem, ↓reduceIte, hrk] <;> rfl) | fail) only [go_sem, ↓reduceIte, hrk]) (by simp +decide (disch := first | omega | rfl | (simp +decide only [go_sem, ↓reduceIte] <;> rfl) | fail) only [go_sem, ↓reduceIte] <;> rfl) (by omega) rfl (by omega) (by omega) (by omega)]
    simp +decide (disch := first | omega | rfl | (simp +decide only [go_sem, ↓reduceIte, h5, h16, hx, hk, hh, hg, hmx, hld] <;> rfl) | fail) only [go_sem, ↓reduceIte, h5, h16, hx, hk, hh, hg, hmx, hld]
    rw [Qagg (B := 3000000) (n := D) (L := fun j => (Q7 (p.take i) (exi v) (j : Nat)).length) (ty := 65) (e0 := 1) (ty0 := 65) (xs0 := []) (by simp +decide (disch := first | omega | rfl | (simp +decide only [go_sem, ↓reduceIte, hg] <;> rfl) | fail) only [go_sem, ↓reduceIte, hg]; exact Q3g hkD (by omega)) (by simp +decide (disch := first | omega | rfl | (simp +decide only [go_sem, ↓reduceIte, hh] <;> rfl) | fail) only [go_sem, ↓reduceIte, hh]) hkD (by omega)]
    simp +decide (disch := first | omega | rfl | (simp +decide only [go_sem, ↓reduceIte, h5, h16] <;> rfl) | fail) only [go_sem, ↓reduceIte, h5, h16]
    refine Q17 (p.length - (i + 1)) (by omega) ⟨i + 1, rfl, by omega, ?_⟩
    simp +decide (disch := first | omega | rfl | (simp +decide only [go_sem, ↓reduceIte, h5, hh] <;> rfl) | fail) only [go_sem, ↓reduceIte, h5, hh]
    refine ⟨Qage (congrArg (fun L => Qbq (rws 3000000 D L)) (funext fun j => ?_)), fun j hj => ?_⟩
    · rw [hck]
      by_cases e : j = k
      · subst e; rw [if_pos rfl, if_pos rfl, List.length_append]; rfl
      · rw [if_neg e, if_neg (by omega), List.append_nil]
    · rw [hck]
      by_cases e : j = k
      · subst e; rw [if_pos rfl, if_pos rfl]
      · rw [if_neg e, if_neg (by omega), List.append_nil]; exact hr j hj
  · obtain rfl : i = p.length := by omega
    simp only [List.take_length] at hg hr
    simp +decide (disch := first | omega | rfl | (simp +decide only [go_sem, ↓reduceIte, h5] <;> rfl) | fail) only [go_sem, ↓reduceIte, h5]
    refine Qads (Qadr 4 2000000 65 4 133 D (rws 3000000 D fun j => (Q7 p (exi v) (j : Nat)).length) (fun j => (Q7 p (exi v) ((j - 3000000 : Nat) : Int)).map PV.term) (fun _ => false) (Qi1 _ _ _).symm (by simp +decide (disch := first | omega | rfl | (simp +decide only [go_sem, ↓reduceIte, hg] <;> rfl) | fail) only [go_sem, ↓reduceIte, hg]) (by simp +decide (disch := first | omega | rfl | (simp +decide only [go_sem, ↓reduceIte] <;> rfl) | fail) only [go_sem, ↓reduceIte]) (by omega) (fun x hx => ?_) (fun x hx => ?_)) ?_
    · obtain ⟨j, hj, rfl⟩ := List.mem_map.1 hx; show 2000000 <= 3000000 + j; omega
    · obtain ⟨j, hj, rfl⟩ := List.mem_map.1 hx
      rw [hr j (List.mem_range.1 hj)]; simp [Nat.add_sub_cancel_left]
    · simp +decide (disch := first | omega | rfl | (simp +decide only [go_sem, ↓reduceIte] <;> rfl) | fail) only [go_sem, ↓reduceIte]
      refine Qc (congrArg (PV.sl 1) ?_) rfl
      rw [Q85, List.map_map]
      refine List.map_congr_left fun j _ => ?_
      simp [List.take_of_length_le]
end Go.Proofs.YtmnkngmmfnncoaaGreat
namespace Go.Proofs.YtmnkngmmfnncoaaGreat
open Go Go.FW
set_option linter.unusedSimpArgs false
set_option linter.unusedVariables false
set_option maxRecDepth 100000
end Go.Proofs.YtmnkngmmfnncoaaGreat
namespace Go.FW
open Go
theorem Q3h {q r g : List Tm} {v n d K E Kg Eg M : Nat} (hq : PB K E q) (hr : PB K E r) (hg : PB Kg Eg g) (hM : g.length <= M) (hv : v < 64) (hn : n <= E) (hE : Eg <= E) :
  PB (M * (Kg + K) + (K + 2)) (E + E) (dvQ q r g v n d) /\ PB (M * (Kg + K) + (M * (K + 2 + Kg) + 2)) (E + E + E) (dvR r g v n d) /\
  (dvQ q r g v n d).length <= M * q.length + r.length /\ (dvR r g v n d).length <= M * r.length + r.length * M := by
 have hcl : (Q7 g v d).length <= M := Nat.le_trans (Qcw _ _ _) hM
 have hcb := Qgg hg v (d : Int)
 obtain ⟨b1, b2⟩ := Qm3 (n := n - d) (Qgg hr v (n : Int)) hv
 have b2' : (dvB r v n d).length <= r.length := Nat.le_trans b2 (Qcw _ _ _)
 have b1' : PB (K + 2) (E + E) (dvB r v n d) := b1.mono (Nat.le_refl _) (by omega)
 obtain ⟨m1, m2⟩ := Qcu hcb hq
 obtain ⟨m3, m4⟩ := Qcu hcb hr
 obtain ⟨m5, m6⟩ := Qcu b1' hg
 have e1 := Nat.mul_le_mul_right (Kg + K) (show min (Q7 g v d).length q.length <= M by omega)
 have e2 := Nat.mul_le_mul_right (Kg + K) (show min (Q7 g v d).length r.length <= M by omega)
 have e3 := Nat.mul_le_mul_right (K + 2 + Kg) (show min (dvB r v n d).length g.length <= M by omega)
 have e4 := Nat.mul_le_mul_right q.length hcl
 have e5 := Nat.mul_le_mul_right r.length hcl
 have e6 := Nat.mul_le_mul b2' hM
 have hneg : (Qmf (Qad (dvB r v n d) g)).length <= (Qad (dvB r v n d) g).length := Qf7 _ _
 refine ⟨Qlg _ _ (m1.mono e1 (by omega)) b1', Qlg _ _ (m3.mono e2 (by omega)) (Qsr (m5.mono e3 (by omega))), Nat.le_trans (Qf5 _ _) (by omega), Nat.le_trans (Qf5 _ _) (by omega)⟩
def dK : Nat -> Nat
 | 0 => 5
 | k + 1 => 10 * dK k + 62
def dE : Nat -> Nat
 | 0 => 4
 | k + 1 => 3 * dE k
def dL : Nat -> Nat
 | 0 => 5
 | k + 1 => 10 * dL k
theorem Qqd {f g : List Tm} {v d : Nat} (bf : PB 5 4 f) (bg : PB 5 4 g) (lf : f.length <= 5) (lg : g.length <= 5) (hv : v < 64) : ∀ k,
  4 <= dE k /\ PB (dK k) (dE k) (dvS g v d f k).1 /\ PB (dK k) (dE k) (dvS g v d f k).2 /\ (dvS g v d f k).1.length <= dL k /\ (dvS g v d f k).2.length <= dL k
 | 0 => ⟨Nat.le_refl _, PB.nil _ _, bf, by simp [dvS], lf⟩
 | k + 1 => by
  obtain ⟨h0, h1, h2, h3, h4⟩ := Qqd (d := d) bf bg lf lg hv k
  have hn : (Qai (dvS g v d f k).2 v).toNat <= dE k := by
   obtain ⟨_, _, h | ⟨t, ht, e⟩⟩ := Qgj (dvS g v d f k).2 v
   ·omega
   ·have := (h2 t ht).m.eN v; omega
  obtain ⟨c1, c2, c3, c4⟩ := Q3h (d := d) h1 h2 bg lg hv hn h0
  refine ⟨by rw [dE]; omega, c1.mono ?_ ?_, c2.mono ?_ ?_, Nat.le_trans c3 ?_, Nat.le_trans c4 ?_⟩ <;> simp only [dK, dE, dL] <;> omega
theorem d5 {k : Nat} (h : k <= 5) : dK k <= 1188882 /\ dE k <= 972 /\ dL k <= 500000 /\ (k < 5 -> dK k <= 118882) := by
 have : k = 0 ∨ k = 1 ∨ k = 2 ∨ k = 3 ∨ k = 4 ∨ k = 5 := by omega
 rcases this with rfl | rfl | rfl | rfl | rfl | rfl <;> decide
end Go.FW
