/- Part 6 of the proof of PseudoEquation: W1, FwSM, FwUC. Own lemmas; no conditions. -/
import Derived.Test.YtmnkngmmfnncoaaGreatPseudoEquationPart5
set_option linter.unusedSimpArgs false
set_option linter.unnecessarySimpa false
set_option linter.unusedVariables false
namespace Go.Proofs.YtmnkngmmfnncoaaGreat
open Go Go.FW
set_option linter.unusedSimpArgs false
set_option linter.unusedVariables false
set_option maxRecDepth 100000
def exi (v : Int) : Nat := if v < 0 then 64 else v.toNat
theorem Qfc (n : Nat) : exi n = n := by unfold exi; rw [if_neg (by omega)]; omega
theorem Qou {a : List Int} {v : Int} {E : Nat} (h : MB E a) : Qe Tryz.prog 130 [PV.mono a, .int .i64 v] (· = .int .i64 (eN a (exi v))) := by
 have hl := h.len
 have := Qrd (a := a) (v := v) (by omega)
 have e : (if v < 0 then 0 else eN a v.toNat) = eN a (exi v) := by
  unfold exi; split
  ·rw [Qck (by omega)]
  ·rfl
 rwa [e] at this
theorem Qz3 {m : List Int} {v : Nat} (hl : m.getLast? ≠ some 0) (h : eN m v = 0) : Qb0 m v = m :=
 Qds (Qms m v) hl fun i => by
  rw [Qhj]; split
  ·rename_i e; rw [e, h]
  ·rfl
theorem Qce {p : List Tm} {v : Int} {K E : Nat} (hp : PB K E p) (hlp : p.length <= 2 ^ 36) : Qe Tryz.prog 56 [PV.poly p, .int .i64 v] (· = .int .i64 (Qai p (exi v))) := by
 refine Qg Qk Tryz.func56 rfl Qafp (by simp [c56]) fun C hP => ?_; simp only [c56]
 simp +decide (disch := first | omega | rfl | (simp +decide only [go_sem, ↓reduceIte] <;> rfl) | fail) only [go_sem, ↓reduceIte]
 refine Qy (by repeat (first | exact Qv | exact Qp | exact Qq | exact Qr | apply Qo | apply Qu | apply Qz | apply Q8 | apply Q9 | apply Qn)) [(5, 5), (7, 7), (10, 20)] [7] (fun n J hp => ∃ i, n = p.length - i /\ i <= p.length /\ J 5 = .int .i64 (Qai (p.take i) (exi v)) /\ J 10 = .int .i64 (i : Nat)) p.length ?_ ?_
 ·refine ⟨0, rfl, by omega, ?_⟩
  simp +decide (disch := first | omega | rfl | (simp +decide only [go_sem, ↓reduceIte] <;> rfl) | fail) only [go_sem, ↓reduceIte]
  exact ⟨rfl, rfl⟩
 rintro _ J h ⟨i, rfl, hi, h5, h10⟩
 simp +decide (disch := first | omega | rfl | (simp +decide only [go_sem, ↓reduceIte, h5, h10] <;> rfl) | fail) only [go_sem, ↓reduceIte, h5, h10]
 refine Qb (fun hg => ?_) (fun hg => ?_)
 ·have hi' : i < p.length := by omega
  have htp := hp.get hi'
  have htk := Q2r (v := exi v) hi'
  generalize hx : p[i] = x at *
  have hml := htp.m.len
  simp +decide (disch := first | omega | rfl | (simp +decide only [go_sem, ↓reduceIte, h5, h10, hx] <;> rfl) | fail) only [go_sem, ↓reduceIte, h5, h10, hx]
  refine Qa hP (Qou htp.m) rfl rfl rfl ?_
  simp +decide (disch := first | omega | rfl | (simp +decide only [go_sem, ↓reduceIte, h5, h10, hx] <;> rfl) | fail) only [go_sem, ↓reduceIte, h5, h10, hx]
  refine Ql (p.length - (i + 1)) (by omega) ⟨i + 1, rfl, by omega, ?_⟩
  rw [htk]
  simp +decide (disch := first | omega | rfl | (simp +decide only [go_sem, ↓reduceIte] <;> rfl) | fail) only [go_sem, ↓reduceIte]
 ·obtain rfl : i = p.length := by omega
  rw [List.take_length] at h5
  simp +decide (disch := first | omega | rfl | (simp +decide only [go_sem, ↓reduceIte, h5] <;> rfl) | fail) only [go_sem, ↓reduceIte, h5]
  exact Qc rfl rfl
theorem Qkl {m : List Int} {v : Int} {E : Nat} (hm : MB E m) (hl : m.getLast? ≠ some 0) : Qe Tryz.prog 132 [PV.mono m, .int .i64 v] (· = PV.mono (Qb0 m (exi v))) := by
 have hml := hm.len
 refine Qg Qk Tryz.func132 rfl Qack (by simp [Q7p]) fun C hP => ?_; simp only [Q7p]
 simp +decide (disch := first | omega | rfl | (simp +decide only [go_sem, ↓reduceIte] <;> rfl) | fail) only [go_sem, ↓reduceIte]
 refine Qa hP (Qou hm) rfl rfl rfl ?_
 simp +decide (disch := first | omega | rfl | (simp +decide only [go_sem, ↓reduceIte] <;> rfl) | fail) only [go_sem, ↓reduceIte]
 refine Qb (fun h0 => ?_) (fun h0 => ?_)
 ·simp +decide (disch := first | omega | rfl | (simp +decide only [go_sem, ↓reduceIte] <;> rfl) | fail) only [go_sem, ↓reduceIte]
  exact Qc (congrArg PV.mono (Qz3 hl (by omega)).symm) rfl
 ·obtain ⟨n, rfl⟩ : ∃ n : Nat, v = n := by
   refine ⟨v.toNat, ?_⟩
   apply Decidable.byContradiction; intro hn
   rw [exi, if_pos (by omega), Qck (by omega)] at h0; omega
  rw [Qfc] at h0 ⊢
  generalize n = v at *
  have hsl : (m.set v 0).length = m.length := by simp
  have hvl : v < m.length := by
   apply Decidable.byContradiction; intro hn
   rw [Qck (by omega)] at h0; omega
  simp +decide (disch := first | omega | rfl | (simp +decide only [go_sem, ↓reduceIte] <;> rfl) | fail) only [go_sem, ↓reduceIte]
  refine Q7x 5 (by simp +decide (disch := first | omega | rfl | (simp +decide only [go_sem, ↓reduceIte, Qd, List.contains_cons, List.contains_nil, List.flatMap_cons, List.flatMap_nil, List.append_nil] <;> rfl) | fail) only [go_sem, ↓reduceIte, Qd, List.contains_cons, List.contains_nil, List.flatMap_cons, List.flatMap_nil, List.append_nil]) ?_
  simp +decide (disch := first | omega | rfl | (simp +decide only [go_sem, ↓reduceIte, Qd, List.contains_cons, List.contains_nil, List.flatMap_cons, List.flatMap_nil, List.append_nil] <;> rfl) | fail) only [go_sem, ↓reduceIte, Qd, List.contains_cons, List.contains_nil, List.flatMap_cons, List.flatMap_nil, List.append_nil]
  rw [show List.take m.length (Qf2 (m.set v 0)) = Qf2 (m.set v 0) from List.take_of_length_le (by simp [Qf2])]
  refine Qy (by repeat (first | exact Qv | exact Qp | exact Qq | exact Qr | apply Qo | apply Qu | apply Qz | apply Q8 | apply Q9 | apply Qn)) [(6, 6), (19, 30)] [] (fun n J hp => n <= m.length /\ Qfr (m.set v 0) n = Qb0 m v /\ J 6 = .int .i64 n) m.length ?_ ?_
  ·refine ⟨Nat.le_refl _, by rw [Qb0, Qcs, hsl], ?_⟩
   simp +decide (disch := first | omega | rfl | (simp +decide only [go_sem, ↓reduceIte] <;> rfl) | fail) only [go_sem, ↓reduceIte]
  rintro n J _ ⟨hn, hc, h6⟩
  simp +decide (disch := first | omega | rfl | (simp +decide only [go_sem, ↓reduceIte, h6] <;> rfl) | fail) only [go_sem, ↓reduceIte, h6]
  refine Qar (fun hg => ?_) (fun hg => ?_)
  ·obtain _ | n := n
   ·omega
   have e : ((n + 1 : Nat) : Int) - 1 = n := by omega
   simp only [Qfr] at hc
   simp +decide (disch := first | omega | rfl | (simp +decide only [go_sem, ↓reduceIte, h6, e] <;> rfl) | fail) only [go_sem, ↓reduceIte, h6, e]
   refine Qb (fun hz => ?_) (fun hz => ?_)
   ·rw [if_pos (by simp [hz, show n < m.length by omega])] at hc
    simp +decide (disch := first | omega | rfl | (simp +decide only [go_sem, ↓reduceIte, h6, e] <;> rfl) | fail) only [go_sem, ↓reduceIte, h6, e]
    refine Ql n (by omega) ⟨by omega, hc, ?_⟩
    simp +decide (disch := first | omega | rfl | (simp +decide only [go_sem, ↓reduceIte] <;> rfl) | fail) only [go_sem, ↓reduceIte]
   ·rw [if_neg (by simpa [show n < m.length by omega] using hz)] at hc
    simp +decide (disch := first | omega | rfl | (simp +decide only [go_sem, ↓reduceIte, h6, e] <;> rfl) | fail) only [go_sem, ↓reduceIte, h6, e]
    exact Qc (congrArg PV.mono hc) rfl
  ·obtain rfl : n = 0 := by omega
   simp +decide (disch := first | omega | rfl | (simp +decide only [go_sem, ↓reduceIte, h6] <;> rfl) | fail) only [go_sem, ↓reduceIte, h6]
   exact Qc (congrArg PV.mono hc) rfl
theorem Qn1 {p : List Tm} {v n : Int} {K E : Nat} (hp : PB K E p) (hlp : p.length <= 2 ^ 36) : Qe Tryz.prog 135 [PV.poly p, .int .i64 v, .int .i64 n] (· = PV.poly (Q7 p (exi v) n)) := by
 refine Qg Qk Tryz.func135 rfl Qacl (by simp [Q7q]) fun C hP => ?_; simp only [Q7q]
 simp +decide (disch := first | omega | rfl | (simp +decide only [go_sem, ↓reduceIte] <;> rfl) | fail) only [go_sem, ↓reduceIte]
 refine Qi6 7 900 4 133 (by omega) (by simp +decide (disch := first | omega | rfl | (simp +decide only [go_sem, ↓reduceIte] <;> rfl) | fail) only [go_sem, ↓reduceIte]) ?_
 refine Qy (by repeat (first | exact Qv | exact Qp | exact Qq | exact Qr | apply Qo | apply Qu | apply Qz | apply Q8 | apply Q9 | apply Qn)) [(7, 7), (9, 9), (12, 32)] [9, 30, 31, 900] (fun m J hp => ∃ i, m = p.length - i /\ i <= p.length /\ J 7 = .ms 900 (Q7 (p.take i) (exi v) n).length /\ J 12 = .int .i64 (i : Nat) /\ hp 900 = some ⟨4, 133, (Q7 (p.take i) (exi v) n).map PV.term, false⟩) p.length ?_ ?_
 ·refine ⟨0, rfl, by omega, ?_⟩
  simp +decide (disch := first | omega | rfl | (simp +decide only [go_sem, ↓reduceIte] <;> rfl) | fail) only [go_sem, ↓reduceIte]
  exact ⟨rfl, rfl, rfl⟩
 rintro _ J h ⟨i, rfl, hi, h7, h12, hh⟩
 simp +decide (disch := first | omega | rfl | (simp +decide only [go_sem, ↓reduceIte, h7, h12] <;> rfl) | fail) only [go_sem, ↓reduceIte, h7, h12]
 refine Qb (fun hg => ?_) (fun hg => ?_)
 ·have hi' : i < p.length := by omega
  have htp := hp.get hi'
  have hck := Qrs (v := exi v) (n := n) hi'
  have hcl := Qcw (p.take i) (exi v) n
  rw [List.length_take] at hcl
  generalize hx : p[i] = x at *
  have hml := htp.m.len
  simp +decide (disch := first | omega | rfl | (simp +decide only [go_sem, ↓reduceIte, h7, h12, hx] <;> rfl) | fail) only [go_sem, ↓reduceIte, h7, h12, hx]
  refine Qa hP (Qou htp.m) rfl rfl rfl ?_
  simp +decide (disch := first | omega | rfl | (simp +decide only [go_sem, ↓reduceIte, h7, h12, hx] <;> rfl) | fail) only [go_sem, ↓reduceIte, h7, h12, hx]
  refine Qb (fun hc => ?_) (fun hc => ?_)
  ·rw [if_pos hc] at hck
   simp +decide (disch := first | omega | rfl | (simp +decide only [go_sem, ↓reduceIte, h7, h12, hx] <;> rfl) | fail) only [go_sem, ↓reduceIte, h7, h12, hx]
   refine Qa hP (Qkl htp.m htp.l) rfl rfl rfl ?_
   simp +decide (disch := first | omega | rfl | (simp +decide only [go_sem, ↓reduceIte, h7, h12, hx] <;> rfl) | fail) only [go_sem, ↓reduceIte, h7, h12, hx]
   rw [Qak (f := PV.term) (y := (x.1, Qb0 x.2 (exi v))) (xs := Q7 (p.take i) (exi v) n) (ty' := 133) (fz := false) (by simp +decide (disch := first | omega | rfl | (simp +decide only [go_sem, ↓reduceIte, hh] <;> rfl) | fail) only [go_sem, ↓reduceIte, hh]) (by simp +decide (disch := first | omega | rfl | (simp +decide only [go_sem, ↓reduceIte] <;> rfl) | fail) only [go_sem, ↓reduceIte] <;> rfl) (by omega) rfl (by omega) (by omega)]
   simp +decide (disch := first | omega | rfl | (simp +decide only [go_sem, ↓reduceIte, h7, h12, hx] <;> rfl) | fail) only [go_sem, ↓reduceIte, h7, h12, hx]
   refine Ql (p.length - (i + 1)) (by omega) ⟨i + 1, rfl, by omega, ?_⟩
   rw [hck]
   simp +decide (disch := first | omega | rfl | (simp +decide only [go_sem, ↓reduceIte, List.length_append] <;> rfl) | fail) only [go_sem, ↓reduceIte, List.length_append]
  ·rw [if_neg hc, List.append_nil] at hck
   simp +decide (disch := first | omega | rfl | (simp +decide only [go_sem, ↓reduceIte, h7, h12, hx] <;> rfl) | fail) only [go_sem, ↓reduceIte, h7, h12, hx]
   refine Ql (p.length - (i + 1)) (by omega) ⟨i + 1, rfl, by omega, ?_⟩
   rw [hck]
   simp +decide (disch := first | omega | rfl | (simp +decide only [go_sem, ↓reduceIte, h7, hh] <;> rfl) | fail) only [go_sem, ↓reduceIte, h7, hh]
 ·obtain rfl : i = p.length := by omega
  rw [List.take_length] at h7 hh
  simp +decide (disch := first | omega | rfl | (simp +decide only [go_sem, ↓reduceIte, h7, hh, Qd, List.contains_cons, List.contains_nil, List.flatMap_cons, List.flatMap_nil, List.append_nil] <;> rfl) | fail) only [go_sem, ↓reduceIte, h7, hh, Qd, List.contains_cons, List.contains_nil, List.flatMap_cons, List.flatMap_nil, List.append_nil]
  exact Qc (by simp [List.take_of_length_le]) rfl
theorem Qin {p : List Tm} {E : Nat} (hp : ∀ t ∈ p, MB E t.2) (hlp : p.length <= 2 ^ 36) : Qe Tryz.prog 149 [PV.poly p] (· = .bool (Qba p)) := by
 have bad : (∃ t ∈ p, ∃ x ∈ t.2, 1048576 < x) -> Qba p = true := fun ⟨t, ht, x, hx, h⟩ => by
  unfold Qba
  have : (p.any fun t => t.2.any fun x => decide (1048576 < x)) = true := by
   rw [List.any_eq_true]; exact ⟨t, ht, by rw [List.any_eq_true]; exact ⟨x, hx, decide_eq_true h⟩⟩
  rw [this, Bool.or_true]
 refine Qg Qk Tryz.func149 rfl Qacj (by simp [Q7o]) fun C hP => ?_; simp only [Q7o]
 simp +decide (disch := first | omega | rfl | (simp +decide only [go_sem, ↓reduceIte] <;> rfl) | fail) only [go_sem, ↓reduceIte]
 refine Qb (fun hl => ?_) (fun hl => ?_)
 ·simp +decide (disch := first | omega | rfl | (simp +decide only [go_sem, ↓reduceIte] <;> rfl) | fail) only [go_sem, ↓reduceIte]
  exact Qc (by rw [Qba, decide_eq_true (by omega), Bool.true_or]) rfl
 simp +decide (disch := first | omega | rfl | (simp +decide only [go_sem, ↓reduceIte] <;> rfl) | fail) only [go_sem, ↓reduceIte]
 refine Qy (by repeat (first | exact Qv | exact Qp | exact Qq | exact Qr | apply Qo | apply Qu | apply Qz | apply Q8 | apply Q9 | apply Qn)) [(2, 2), (4, 4), (6, 6), (12, 26)] [4] (fun n J hp => ∃ i, n = p.length - i /\ i <= p.length /\ (∀ t ∈ p.take i, ∀ x ∈ t.2, ¬ 1048576 < x) /\ J 12 = .int .i64 (i : Nat)) p.length ?_ ?_
 ·refine ⟨0, rfl, by omega, by simp, ?_⟩
  simp +decide (disch := first | omega | rfl | (simp +decide only [go_sem, ↓reduceIte] <;> rfl) | fail) only [go_sem, ↓reduceIte]
  rfl
 rintro _ J h ⟨i, rfl, hi, h1, h12⟩
 simp +decide (disch := first | omega | rfl | (simp +decide only [go_sem, ↓reduceIte, h12] <;> rfl) | fail) only [go_sem, ↓reduceIte, h12]
 refine Qb (fun hg => ?_) (fun hg => ?_)
 ·have hi' : i < p.length := by omega
  have hmem := List.getElem_mem hi'
  have hmb := hp _ hmem
  have htk : p.take (i + 1) = p.take i ++ [p[i]] := List.take_succ_eq_append_getElem hi'
  generalize hx : p[i] = x at *
  have hml := hmb.len
  simp +decide (disch := first | omega | rfl | (simp +decide only [go_sem, ↓reduceIte, h12, hx] <;> rfl) | fail) only [go_sem, ↓reduceIte, h12, hx]
  refine Qy (by repeat (first | exact Qv | exact Qp | exact Qq | exact Qr | apply Qo | apply Qu | apply Qz | apply Q8 | apply Q9 | apply Qn)) [(2, 2), (6, 6), (19, 25)] [] (fun n J hp => ∃ j, n = x.2.length - j /\ j <= x.2.length /\ (∀ y ∈ x.2.take j, ¬ 1048576 < y) /\ J 19 = .int .i64 (j : Nat)) x.2.length ?_ ?_
  ·refine ⟨0, rfl, by omega, by simp, ?_⟩
   simp +decide (disch := first | omega | rfl | (simp +decide only [go_sem, ↓reduceIte] <;> rfl) | fail) only [go_sem, ↓reduceIte]
   rfl
  rintro _ J2 h' ⟨j, rfl, hj, h2, h19⟩
  simp +decide (disch := first | omega | rfl | (simp +decide only [go_sem, ↓reduceIte, h19, hx] <;> rfl) | fail) only [go_sem, ↓reduceIte, h19, hx]
  refine Qb (fun hg2 => ?_) (fun hg2 => ?_)
  ·have hj' : j < x.2.length := by omega
   have hmem2 := List.getElem_mem hj'
   have htk2 : x.2.take (j + 1) = x.2.take j ++ [x.2[j]] := List.take_succ_eq_append_getElem hj'
   generalize hy : x.2[j] = y at *
   simp +decide (disch := first | omega | rfl | (simp +decide only [go_sem, ↓reduceIte, h19, hx, hy] <;> rfl) | fail) only [go_sem, ↓reduceIte, h19, hx, hy]
   refine Qb (fun hb => ?_) (fun hb => ?_)
   ·simp +decide (disch := first | omega | rfl | (simp +decide only [go_sem, ↓reduceIte] <;> rfl) | fail) only [go_sem, ↓reduceIte]
    exact Qc (by rw [bad ⟨x, hmem, y, hmem2, hb⟩]) rfl
   ·simp +decide (disch := first | omega | rfl | (simp +decide only [go_sem, ↓reduceIte, h19] <;> rfl) | fail) only [go_sem, ↓reduceIte, h19]
    refine Ql (x.2.length - (j + 1)) (by omega) ⟨j + 1, rfl, by omega, fun z hz => ?_, ?_⟩
    ·rw [htk2, List.mem_append, List.mem_singleton] at hz
     rcases hz with hz | rfl
     ·exact h2 z hz
     ·exact hb
    ·simp +decide (disch := first | omega | rfl | (simp +decide only [go_sem, ↓reduceIte] <;> rfl) | fail) only [go_sem, ↓reduceIte]
  ·obtain rfl : j = x.2.length := by omega
   rw [List.take_length] at h2
   simp +decide (disch := first | omega | rfl | (simp +decide only [go_sem, ↓reduceIte, h12] <;> rfl) | fail) only [go_sem, ↓reduceIte, h12]
   simp (disch := decide) only [Qcr, Qle]
   refine Ql (p.length - (i + 1)) (by omega) ⟨i + 1, rfl, by omega, fun t ht => ?_, ?_⟩
   ·rw [htk, List.mem_append, List.mem_singleton] at ht
    rcases ht with ht | rfl
    ·exact h1 t ht
    ·exact h2
   ·simp +decide (disch := first | omega | rfl | (simp +decide only [go_sem, ↓reduceIte] <;> rfl) | fail) only [go_sem, ↓reduceIte]
 ·obtain rfl : i = p.length := by omega
  rw [List.take_length] at h1
  simp +decide (disch := first | omega | rfl | (simp +decide only [go_sem, ↓reduceIte] <;> rfl) | fail) only [go_sem, ↓reduceIte]
  refine Qc (congrArg PV.bool ?_) rfl
  rw [Qba, decide_eq_false (by omega), Bool.false_or, eq_comm, List.any_eq_false]
  intro t ht
  rw [List.any_eq_true]
  rintro ⟨y, hy, hd⟩
  exact h1 t ht y hy (of_decide_eq_true hd)
end Go.Proofs.YtmnkngmmfnncoaaGreat
namespace Go.FW
open Go
variable {C : Ctx} {fr : Fr} {hp : HP} {w : World} {K R : Qh}
end Go.FW
namespace Go.FW
open Go
variable {C : Ctx} {fr : Fr} {hp : HP} {K : Qh}
def Qz4 (R : PV -> Prop) (p q s t : PV) : Prop := (p.isData = true /\ q.isData = true /\ s.isData = true /\ t.isData = true) /\ ∃ r, PV.leR (.tup [p, q, s, t]) r /\ R r
theorem Q2 {a b c d : Nat} {Rr : PV -> Prop} : Qdq [.t a, .t b, .t c, .t d] Rr fr hp = Qz4 Rr (Q4 hp (fr a)) (Q4 hp (fr b)) (Q4 hp (fr c)) (Q4 hp (fr d)) := by simp [Qdq, Qz4, okR, rvP]
theorem Qqb {p q s t p' q' s' t' r : PV} (h : r = .tup [p', q', s', t']) (d1 : p.isData = true) (d2 : q.isData = true) (d3 : s.isData = true) (d4 : t.isData = true) (h1 : PV.le p p') (h2 : PV.le q q') (h3 : PV.le s s') (h4 : PV.le t t') : Qz4 (· = r) p q s t :=
 ⟨⟨d1, d2, d3, d4⟩, r, by subst h; exact ⟨h1, h2, h3, h4, trivial⟩, rfl⟩
theorem Qam {p q s t : PV} {d : Nat} (h : t.isData = true) : Qg5 (.tup [p, q, s, t]) 3 d fr hp K = K (upd fr d t) hp := by simp [Qg5, h]
theorem Qum {z : List PV} {o n o2 n2 d β m e ty : Nat} {p : PV} {xs : List PV} {fz : Bool} (h : p.flat = true) (hb : hp β = some ⟨e, ty, xs, fz⟩) (hm : m = xs.length) (hB : isB β = false := by decide) :
  Qg6 z [(o, n, p), (o2, n2, .ms β m)] d fr hp K = ((p.cells.length = n /\ o + n <= z.length) /\ (1 = n2 /\ o2 + n2 <= z.length) /\ K (upd fr d (.agg (Qdy z [(o, p.cells), (o2, [.sl e xs])]))) (Qan hp [β])) := by
 obtain ⟨s1, s2, s3⟩ := Qd7 (hp := hp) h
 have s4 : Q4 hp (.ms β m) = .sl e xs := by simp [Q4, Qa6, hB, hb, hm]
 have r4 : (PV.ms β m).refs = [β] := rfl
 have c4 : (PV.sl e xs).cells = [.sl e xs] := rfl
 have d4 : (PV.sl e xs).isData = true := rfl
 unfold Qg6 Qus
 apply propext
 simp only [List.mem_cons, List.not_mem_nil, or_false, forall_eq_or_imp, forall_eq, s1, s3, s4, d4, c4, List.length_cons, List.length_nil, true_and, List.map_cons, List.map_nil, List.flatMap_cons, List.flatMap_nil, s2, r4, List.nil_append, List.append_nil, and_assoc, Nat.zero_add]
theorem Qz5 (q : List Tm) : Qad [] q = [] := by
 rw [List.eq_nil_iff_forall_not_mem]
 intro t ht
 obtain ⟨a, ha, _⟩ := Qjr ht
 cases ha
theorem Qacr {v n K : Nat} (hv : v < 64) (h0 : 0 < n) (hK : 2 <= K) : PB K n [((1 : Rat), Qbl v n)] := fun t ht => by
 obtain rfl : t = (1, Qbl v n) := by simpa using ht
 have := Qsq
 exact ⟨by show rs 1 + 1 <= K; omega, Qsx hv, Qkk h0⟩
def Qafz (l : List (List Tm)) (v : Nat) : Nat -> List Tm
 | 0 => []
 | n + 1 => Q3 (Qafz l v n) (Qdu (l.getD n []) v n)
theorem Qm3 {p : List Tm} {v n K E : Nat} (hp : PB K E p) (hv : v < 64) : PB (K + 2) (E + n) (Qdu p v n) /\ (Qdu p v n).length <= p.length := by
 unfold Qdu
 split
 ·exact ⟨hp.mono (by omega) (by omega), Nat.le_refl _⟩
 ·obtain ⟨h1, h2⟩ := Qcu hp (Qacr (n := n) hv (by omega) (Nat.le_refl 2))
  refine ⟨h1.mono ?_ (Nat.le_refl _), by simpa using h2⟩
  have : min p.length [((1 : Rat), Qbl v n)].length * (K + 2) <= 1 * (K + 2) := Nat.mul_le_mul_right _ (by simp; omega)
  omega
def dvS (g : List Tm) (v d : Nat) (f : List Tm) : Nat -> List Tm × List Tm
 | 0 => ([], f)
 | k + 1 => (dvQ (dvS g v d f k).1 (dvS g v d f k).2 g v (Qai (dvS g v d f k).2 v).toNat d, dvR (dvS g v d f k).2 g v (Qai (dvS g v d f k).2 v).toNat d)
theorem Qlm {g : List Tm} {v d : Nat} {f : List Tm} (hf : Nrm f) (hg : Nrm g) : ∀ k, Nrm (dvS g v d f k).1 /\ Nrm (dvS g v d f k).2
 | 0 => ⟨Nrm.nil, hf⟩
 | k + 1 => by
  obtain ⟨h1, h2⟩ := Qlm (v := v) (d := d) hf hg k
  exact ⟨Qacp h1 h2 hg, Qacq h2 hg⟩
theorem Qmu {g : List Tm} {v d : Nat} {q r : List Tm} {k : Nat} (h : r = [] ∨ Qai r v < d) : ∀ fuel, Qem g v d fuel q r k = .tup [PV.poly q, PV.poly r, .int .i64 k, .int .i64 0]
 | 0 => rfl
 | n + 1 => by rw [Qem, if_pos h]
theorem Qpi {g : List Tm} {v d : Nat} {q r : List Tm} {k fuel : Nat} (h : ¬ (r = [] ∨ Qai r v < d)) (h2 : Qba (dvQ q r g v (Qai r v).toNat d) = true ∨ Qba (dvR r g v (Qai r v).toNat d) = true) :
  Qem g v d (fuel + 1) q r k = .tup [PV.poly [], PV.poly [], .int .i64 0, .int .i64 4] := by rw [Qem, if_neg h, if_pos h2]
theorem Qru {g : List Tm} {v d : Nat} {q r : List Tm} {k fuel : Nat} (h : ¬ (r = [] ∨ Qai r v < d)) (h2 : ¬ (Qba (dvQ q r g v (Qai r v).toNat d) = true ∨ Qba (dvR r g v (Qai r v).toNat d) = true)) :
  Qem g v d (fuel + 1) q r k = Qem g v d fuel (dvQ q r g v (Qai r v).toNat d) (dvR r g v (Qai r v).toNat d) (k + 1) := by rw [Qem, if_neg h, if_neg h2]
theorem Q7y {q r g : List Tm} {v n d K E M : Nat} (hq : PB K E q) (hr : PB K E r) (hg : PB K E g) (hM : g.length <= M) (hv : v < 64) (hn : n <= E) :
  PB (K + 2) (E + E) (dvB r v n d) /\ (dvB r v n d).length <= r.length /\
  PB (M * (K + K)) (E + E) (Qad (Q7 g v d) q) /\ (Qad (Q7 g v d) q).length <= M * q.length /\
  PB (M * (K + K)) (E + E) (Qad (Q7 g v d) r) /\ (Qad (Q7 g v d) r).length <= M * r.length /\
  PB (M * (K + K + 2)) (E + E + E) (Qad (dvB r v n d) g) /\ (Qad (dvB r v n d) g).length <= r.length * M := by
 have hcl : (Q7 g v d).length <= M := Nat.le_trans (Qcw _ _ _) hM
 have hcb := Qgg hg v (d : Int)
 obtain ⟨b1, b2⟩ := Qm3 (n := n - d) (Qgg hr v (n : Int)) hv
 have b2' : (dvB r v n d).length <= r.length := Nat.le_trans b2 (Qcw _ _ _)
 have b1' : PB (K + 2) (E + E) (dvB r v n d) := b1.mono (Nat.le_refl _) (by omega)
 obtain ⟨m1, m2⟩ := Qcu hcb hq
 obtain ⟨m3, m4⟩ := Qcu hcb hr
 obtain ⟨m5, m6⟩ := Qcu b1' hg
 refine ⟨b1', b2', m1.mono (Nat.mul_le_mul_right _ (by omega)) (Nat.le_refl _), Nat.le_trans m2 (Nat.mul_le_mul_right _ hcl), m3.mono (Nat.mul_le_mul_right _ (by omega)) (Nat.le_refl _), Nat.le_trans m4 (Nat.mul_le_mul_right _ hcl), m5.mono ?_ (by omega), Nat.le_trans m6 (Nat.mul_le_mul b2' hM)⟩
 have e : K + 2 + K = K + K + 2 := by omega
 rw [e]
 exact Nat.mul_le_mul_right _ (by omega)
end Go.FW
namespace Go.FW
open Go
theorem Qrv : ∀ {p : List Tm}, Qa3 p -> ∀ n, Qa3 (p.take n)
 | _, _, 0 => trivial
 | [], _, n + 1 => trivial
 | t :: p, h, n + 1 => ⟨fun s hs => h.1 s (List.mem_of_mem_take hs), Qrv h.2 n⟩
theorem Nrm.take {p : List Tm} (h : Nrm p) (n : Nat) : Nrm (p.take n) := ⟨fun t ht => h.c t (List.mem_of_mem_take ht), fun t ht => h.z t (List.mem_of_mem_take ht), Qrv h.s n⟩
theorem Qrw {p : List Tm} (h : Nrm p) : Qlk [] p = p := by rw [Q2q Nrm.nil h, Qfs]
theorem Qz6 {p : List Tm} (h : Nrm p) {i : Nat} (hi : i < p.length) : Qdz (p.take i) p[i].1 p[i].2 = p.take (i + 1) := by
 have e := Qrw (h.take (i + 1))
 rwa [List.take_succ_eq_append_getElem hi, Qxi, Qrw (h.take i), <- List.take_succ_eq_append_getElem hi] at e
end Go.FW
