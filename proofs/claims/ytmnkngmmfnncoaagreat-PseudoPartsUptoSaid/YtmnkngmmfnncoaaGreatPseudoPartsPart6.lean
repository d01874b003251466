/- Part 6 of the proof of PseudoParts: W1, FwSM, FwUC. Own lemmas; no conditions. -/
import Derived.Test.YtmnkngmmfnncoaaGreatPseudoPartsPart5
set_option linter.unusedSimpArgs false
set_option linter.unnecessarySimpa false
set_option linter.unusedVariables false
namespace Go.Proofs.YtmnkngmmfnncoaaGreat
open Go Go.FW
set_option linter.unusedSimpArgs false
set_option linter.unusedVariables false
set_option maxRecDepth 100000
def exi (v : Int) : Nat := if v < 0 then 64 else v.toNat
theorem Qaad (n : Nat) : exi n = n := by unfold exi; rw [if_neg (by omega)]; omega
theorem Qnq {a : List Int} {v : Int} {E : Nat} (h : MB E a) : Qe Tryz.prog 130 [PV.mono a, .int .i64 v] (· = .int .i64 (eN a (exi v))) := by
  have hl := h.len
  have := Qp8 (a := a) (v := v) (by omega)
  have e : (if v < 0 then 0 else eN a v.toNat) = eN a (exi v) := by
    unfold exi; split
    · rw [Qbz (by omega)]
    · rfl
  rwa [e] at this
theorem Qya {m : List Int} {v : Nat} (hl : m.getLast? ≠ some 0) (h : eN m v = 0) : Qbq m v = m :=
  Qfl (Qhz m v) hl fun i => by
    rw [Qlq]; split
    · rename_i e; rw [e, h]
    · rfl
theorem Qfp {p : List Tm} {v : Int} {K E : Nat} (hp : PB K E p) (hlp : p.length ≤ 2 ^ 36) : Qe Tryz.prog 56 [PV.poly p, .int .i64 v] (· = .int .i64 (Qdu p (exi v))) := by
  refine Qf Qk Tryz.func56 rfl Qadc (by simp [c56]) fun C hP => ?_; simp only [c56]
  simp +decide (disch := first | omega | rfl | (simp +decide only [go_sem, ↓reduceIte] <;> rfl) | fail) only [go_sem, ↓reduceIte]
  refine Qx (by repeat (first | exact Qv | exact Qq | exact Qr | exact Qs | apply Qp | apply Qu | apply Qy | apply Q7 | apply Q8 | apply Qn)) [(5, 5), (7, 7), (10, 20)] [7] (fun n J hp => ∃ i, n = p.length - i ∧ i ≤ p.length ∧ J 5 = .int .i64 (Qdu (p.take i) (exi v)) ∧ J 10 = .int .i64 (i : Nat)) p.length ?_ ?_
  · refine ⟨0, rfl, by omega, ?_⟩
    simp +decide (disch := first | omega | rfl | (simp +decide only [go_sem, ↓reduceIte] <;> rfl) | fail) only [go_sem, ↓reduceIte]
    exact ⟨rfl, rfl⟩
  rintro _ J h ⟨i, rfl, hi, h5, h10⟩
  simp +decide (disch := first | omega | rfl | (simp +decide only [go_sem, ↓reduceIte, h5, h10] <;> rfl) | fail) only [go_sem, ↓reduceIte, h5, h10]
  refine Qb (fun hg => ?_) (fun hg => ?_)
  · have hi' : i < p.length := by omega
    have htp := hp.get hi'
    have htk := Qsb (v := exi v) hi'
    generalize hx : p[i] = x at *
    have hml := htp.m.len
    simp +decide (disch := first | omega | rfl | (simp +decide only [go_sem, ↓reduceIte, h5, h10, hx] <;> rfl) | fail) only [go_sem, ↓reduceIte, h5, h10, hx]
    refine Qa hP (Qnq htp.m) rfl rfl rfl ?_
    simp +decide (disch := first | omega | rfl | (simp +decide only [go_sem, ↓reduceIte, h5, h10, hx] <;> rfl) | fail) only [go_sem, ↓reduceIte, h5, h10, hx]
    refine Ql (p.length - (i + 1)) (by omega) ⟨i + 1, rfl, by omega, ?_⟩
    rw [htk]
    simp +decide (disch := first | omega | rfl | (simp +decide only [go_sem, ↓reduceIte] <;> rfl) | fail) only [go_sem, ↓reduceIte]
  · obtain rfl : i = p.length := by omega
    rw [List.take_length] at h5
    simp +decide (disch := first | omega | rfl | (simp +decide only [go_sem, ↓reduceIte, h5] <;> rfl) | fail) only [go_sem, ↓reduceIte, h5]
    exact Qc rfl rfl
theorem Qjm {m : List Int} {v : Int} {E : Nat} (hm : MB E m) (hl : m.getLast? ≠ some 0) : Qe Tryz.prog 132 [PV.mono m, .int .i64 v] (· = PV.mono (Qbq m (exi v))) := by
  have hml := hm.len
  refine Qf Qk Tryz.func132 rfl Q96 (by simp [Q5k]) fun C hP => ?_; simp only [Q5k]
  simp +decide (disch := first | omega | rfl | (simp +decide only [go_sem, ↓reduceIte] <;> rfl) | fail) only [go_sem, ↓reduceIte]
  refine Qa hP (Qnq hm) rfl rfl rfl ?_
  simp +decide (disch := first | omega | rfl | (simp +decide only [go_sem, ↓reduceIte] <;> rfl) | fail) only [go_sem, ↓reduceIte]
  refine Qb (fun h0 => ?_) (fun h0 => ?_)
  · simp +decide (disch := first | omega | rfl | (simp +decide only [go_sem, ↓reduceIte] <;> rfl) | fail) only [go_sem, ↓reduceIte]
    exact Qc (congrArg PV.mono (Qya hl (by omega)).symm) rfl
  · obtain ⟨n, rfl⟩ : ∃ n : Nat, v = n := by
      refine ⟨v.toNat, ?_⟩
      apply Decidable.byContradiction; intro hn
      rw [exi, if_pos (by omega), Qbz (by omega)] at h0; omega
    rw [Qaad] at h0 ⊢
    generalize n = v at *
    have hsl : (m.set v 0).length = m.length := by simp
    have hvl : v < m.length := by
      apply Decidable.byContradiction; intro hn
      rw [Qbz (by omega)] at h0; omega
    simp +decide (disch := first | omega | rfl | (simp +decide only [go_sem, ↓reduceIte] <;> rfl) | fail) only [go_sem, ↓reduceIte]
    refine Q5w 5 (by simp +decide (disch := first | omega | rfl | (simp +decide only [go_sem, ↓reduceIte, Qg, List.contains_cons, List.contains_nil, List.flatMap_cons, List.flatMap_nil, List.append_nil] <;> rfl) | fail) only [go_sem, ↓reduceIte, Qg, List.contains_cons, List.contains_nil, List.flatMap_cons, List.flatMap_nil, List.append_nil]) ?_
    simp +decide (disch := first | omega | rfl | (simp +decide only [go_sem, ↓reduceIte, Qg, List.contains_cons, List.contains_nil, List.flatMap_cons, List.flatMap_nil, List.append_nil] <;> rfl) | fail) only [go_sem, ↓reduceIte, Qg, List.contains_cons, List.contains_nil, List.flatMap_cons, List.flatMap_nil, List.append_nil]
    rw [show List.take m.length (Qfj (m.set v 0)) = Qfj (m.set v 0) from List.take_of_length_le (by simp [Qfj])]
    refine Qx (by repeat (first | exact Qv | exact Qq | exact Qr | exact Qs | apply Qp | apply Qu | apply Qy | apply Q7 | apply Q8 | apply Qn)) [(6, 6), (19, 30)] [] (fun n J hp => n ≤ m.length ∧ Qey (m.set v 0) n = Qbq m v ∧ J 6 = .int .i64 n) m.length ?_ ?_
    · refine ⟨Nat.le_refl _, by rw [Qbq, Qb0, hsl], ?_⟩
      simp +decide (disch := first | omega | rfl | (simp +decide only [go_sem, ↓reduceIte] <;> rfl) | fail) only [go_sem, ↓reduceIte]
    rintro n J _ ⟨hn, hc, h6⟩
    simp +decide (disch := first | omega | rfl | (simp +decide only [go_sem, ↓reduceIte, h6] <;> rfl) | fail) only [go_sem, ↓reduceIte, h6]
    refine Qap (fun hg => ?_) (fun hg => ?_)
    · obtain _ | n := n
      · omega
      have e : ((n + 1 : Nat) : Int) - 1 = n := by omega
      simp only [Qey] at hc
      simp +decide (disch := first | omega | rfl | (simp +decide only [go_sem, ↓reduceIte, h6, e] <;> rfl) | fail) only [go_sem, ↓reduceIte, h6, e]
      refine Qb (fun hz => ?_) (fun hz => ?_)
      · rw [if_pos (by simp [hz, show n < m.length by omega])] at hc
        simp +decide (disch := first | omega | rfl | (simp +decide only [go_sem, ↓reduceIte, h6, e] <;> rfl) | fail) only [go_sem, ↓reduceIte, h6, e]
        refine Ql n (by omega) ⟨by omega, hc, ?_⟩
        simp +decide (disch := first | omega | rfl | (simp +decide only [go_sem, ↓reduceIte] <;> rfl) | fail) only [go_sem, ↓reduceIte]
      · rw [if_neg (by simpa [show n < m.length by omega] using hz)] at hc
        simp +decide (disch := first | omega | rfl | (simp +decide only [go_sem, ↓reduceIte, h6, e] <;> rfl) | fail) only [go_sem, ↓reduceIte, h6, e]
        exact Qc (congrArg PV.mono hc) rfl
    · obtain rfl : n = 0 := by omega
      simp +decide (disch := first | omega | rfl | (simp +decide only [go_sem, ↓reduceIte, h6] <;> rfl) | fail) only [go_sem, ↓reduceIte, h6]
      exact Qc (congrArg PV.mono hc) rfl
theorem Quz {p : List Tm} {v n : Int} {K E : Nat} (hp : PB K E p) (hlp : p.length ≤ 2 ^ 36) : Qe Tryz.prog 135 [PV.poly p, .int .i64 v, .int .i64 n] (· = PV.poly (Qa2 p (exi v) n)) := by
  refine Qf Qk Tryz.func135 rfl Q97 (by simp [Q5l]) fun C hP => ?_; simp only [Q5l]
  simp +decide (disch := first | omega | rfl | (simp +decide only [go_sem, ↓reduceIte] <;> rfl) | fail) only [go_sem, ↓reduceIte]
  refine Qe5 7 900 4 133 (by omega) (by simp +decide (disch := first | omega | rfl | (simp +decide only [go_sem, ↓reduceIte] <;> rfl) | fail) only [go_sem, ↓reduceIte]) ?_
  refine Qx (by repeat (first | exact Qv | exact Qq | exact Qr | exact Qs | apply Qp | apply Qu | apply Qy | apply Q7 | apply Q8 | apply Qn)) [(7, 7), (9, 9), (12, 32)] [9, 30, 31, 900] (fun m J hp => ∃ i, m = p.length - i ∧ i ≤ p.length ∧ J 7 = .ms 900 (Qa2 (p.take i) (exi v) n).length ∧ J 12 = .int .i64 (i : Nat) ∧ hp 900 = some ⟨4, 133, (Qa2 (p.take i) (exi v) n).map PV.term, false⟩) p.length ?_ ?_
  · refine ⟨0, rfl, by omega, ?_⟩
    simp +decide (disch := first | omega | rfl | (simp +decide only [go_sem, ↓reduceIte] <;> rfl) | fail) only [go_sem, ↓reduceIte]
    exact ⟨rfl, rfl, rfl⟩
  rintro _ J h ⟨i, rfl, hi, h7, h12, hh⟩
  simp +decide (disch := first | omega | rfl | (simp +decide only [go_sem, ↓reduceIte, h7, h12] <;> rfl) | fail) only [go_sem, ↓reduceIte, h7, h12]
  refine Qb (fun hg => ?_) (fun hg => ?_)
  · have hi' : i < p.length := by omega
    have htp := hp.get hi'
    have hck := Qlr (v := exi v) (n := n) hi'
    have hcl := Qdz (p.take i) (exi v) n
    rw [List.length_take] at hcl
    generalize hx : p[i] = x at *
    have hml := htp.m.len
    simp +decide (disch := first | omega | rfl | (simp +decide only [go_sem, ↓reduceIte, h7, h12, hx] <;> rfl) | fail) only [go_sem, ↓reduceIte, h7, h12, hx]
    refine Qa hP (Qnq htp.m) rfl rfl rfl ?_
    simp +decide (disch := first | omega | rfl | (simp +decide only [go_sem, ↓reduceIte, h7, h12, hx] <;> rfl) | fail) only [go_sem, ↓reduceIte, h7, h12, hx]
    refine Qb (fun hc => ?_) (fun hc => ?_)
    · rw [if_pos hc] at hck
      simp +decide (disch := first | omega | rfl | (simp +decide only [go_sem, ↓reduceIte, h7, h12, hx] <;> rfl) | fail) only [go_sem, ↓reduceIte, h7, h12, hx]
      refine Qa hP (Qjm htp.m htp.l) rfl rfl rfl ?_
      simp +decide (disch := first | omega | rfl | (simp +decide only [go_sem, ↓reduceIte, h7, h12, hx] <;> rfl) | fail) only [go_sem, ↓reduceIte, h7, h12, hx]
      rw [Qaa (f := PV.term) (y := (x.1, Qbq x.2 (exi v))) (xs := Qa2 (p.take i) (exi v) n) (ty' := 133) (fz := false) (by simp +decide (disch := first | omega | rfl | (simp +decide only [go_sem, ↓reduceIte, hh] <;> rfl) | fail) only [go_sem, ↓reduceIte, hh]) (by simp +decide (disch := first | omega | rfl | (simp +decide only [go_sem, ↓reduceIte] <;> rfl) | fail) only [go_sem, ↓reduceIte] <;> rfl) (by omega) rfl (by omega) (by omega)]
      simp +decide (disch := first | omega | rfl | (simp +decide only [go_sem, ↓reduceIte, h7, h12, hx] <;> rfl) | fail) only [go_sem, ↓reduceIte, h7, h12, hx]
      refine Ql (p.length - (i + 1)) (by omega) ⟨i + 1, rfl, by omega, ?_⟩
      rw [hck]
      simp +decide (disch := first | omega | rfl | (simp +decide only [go_sem, ↓reduceIte, List.length_append] <;> rfl) | fail) only [go_sem, ↓reduceIte, List.length_append]
    · rw [if_neg hc, List.append_nil] at hck
      simp +decide (disch := first | omega | rfl | (simp +decide only [go_sem, ↓reduceIte, h7, h12, hx] <;> rfl) | fail) only [go_sem, ↓reduceIte, h7, h12, hx]
      refine Ql (p.length - (i + 1)) (by omega) ⟨i + 1, rfl, by omega, ?_⟩
      rw [hck]
      simp +decide (disch := first | omega | rfl | (simp +decide only [go_sem, ↓reduceIte, h7, hh] <;> rfl) | fail) only [go_sem, ↓reduceIte, h7, hh]
  · obtain rfl : i = p.length := by omega
    rw [List.take_length] at h7 hh
    simp +decide (disch := first | omega | rfl | (simp +decide only [go_sem, ↓reduceIte, h7, hh, Qg, List.contains_cons, List.contains_nil, List.flatMap_cons, List.flatMap_nil, List.append_nil] <;> rfl) | fail) only [go_sem, ↓reduceIte, h7, hh, Qg, List.contains_cons, List.contains_nil, List.flatMap_cons, List.flatMap_nil, List.append_nil]
    exact Qc (by simp [List.take_of_length_le]) rfl
end Go.Proofs.YtmnkngmmfnncoaaGreat
namespace Go.FW
open Go
variable {C : Ctx} {fr : Fr} {hp : HP} {w : World} {K R : Qh}
end Go.FW
namespace Go.FW
open Go
variable {C : Ctx} {fr : Fr} {hp : HP} {K : Qh}
theorem Qyb {z : List PV} {o n o2 n2 d β m e ty : Nat} {p : PV} {xs : List PV} {fz : Bool} (h : p.flat = true) (hb : hp β = some ⟨e, ty, xs, fz⟩) (hm : m = xs.length) (hB : isB β = false := by decide) :
    Qge z [(o, n, p), (o2, n2, .ms β m)] d fr hp K = ((p.cells.length = n ∧ o + n ≤ z.length) ∧ (1 = n2 ∧ o2 + n2 ≤ z.length) ∧ K (upd fr d (.agg (Qda z [(o, p.cells), (o2, [.sl e xs])]))) (Qag hp [β])) := by
  obtain ⟨s1, s2, s3⟩ := Qdj (hp := hp) h
  have s4 : Qz hp (.ms β m) = .sl e xs := by simp [Qz, Qay, hB, hb, hm]
  have r4 : (PV.ms β m).refs = [β] := rfl
  have c4 : (PV.sl e xs).cells = [.sl e xs] := rfl
  have d4 : (PV.sl e xs).isData = true := rfl
  unfold Qge Qs6
  apply propext
  simp only [List.mem_cons, List.not_mem_nil, or_false, forall_eq_or_imp, forall_eq, s1, s3, s4, d4, c4, List.length_cons, List.length_nil, true_and, List.map_cons, List.map_nil, List.flatMap_cons, List.flatMap_nil, s2, r4, List.nil_append, List.append_nil, and_assoc, Nat.zero_add]
end Go.FW
namespace Go.FW
open Go
theorem Qqh : ∀ {p : List Tm}, Qa6 p → ∀ n, Qa6 (p.take n)
  | _, _, 0 => trivial
  | [], _, n + 1 => trivial
  | t :: p, h, n + 1 => ⟨fun s hs => h.1 s (List.mem_of_mem_take hs), Qqh h.2 n⟩
theorem Nrm.take {p : List Tm} (h : Nrm p) (n : Nat) : Nrm (p.take n) := ⟨fun t ht => h.c t (List.mem_of_mem_take ht), fun t ht => h.z t (List.mem_of_mem_take ht), Qqh h.s n⟩
theorem Qqi {p : List Tm} (h : Nrm p) : Qkm [] p = p := by rw [Q01 Nrm.nil h, Qfo]
theorem Qyc {p : List Tm} (h : Nrm p) {i : Nat} (hi : i < p.length) : Qdb (p.take i) p[i].1 p[i].2 = p.take (i + 1) := by
  have e := Qqi (h.take (i + 1))
  rwa [List.take_succ_eq_append_getElem hi, Qvv, Qqi (h.take i), ← List.take_succ_eq_append_getElem hi] at e
end Go.FW
