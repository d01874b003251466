/- PseudoExacts: Exact and Primitive are those of the specification, for small polynomials; no conditions. -/
import Derived.Test.YtjkbalanglgoiaaGreatPseudoExactsPart11
set_option linter.unusedSimpArgs false
set_option linter.unnecessarySimpa false
set_option linter.unusedVariables false
namespace Go.Proofs.YtjkbalanglgoiaaGreat
open Go Go.FW
set_option linter.unusedSimpArgs false
set_option linter.unusedVariables false
set_option maxRecDepth 100000
end Go.Proofs.YtjkbalanglgoiaaGreat
namespace Go.Proofs.YtjkbalanglgoiaaGreat
open Go Go.FW
set_option linter.unusedSimpArgs false
set_option linter.unusedVariables false
set_option maxRecDepth 100000
end Go.Proofs.YtjkbalanglgoiaaGreat
namespace Go.Proofs.YtjkbalanglgoiaaGreat
open Go Go.FW
set_option linter.unusedSimpArgs false
set_option linter.unusedVariables false
set_option maxRecDepth 100000
end Go.Proofs.YtjkbalanglgoiaaGreat
namespace Go.Proofs.YtjkbalanglgoiaaGreat
open Go Go.FW
set_option linter.unusedSimpArgs false
set_option linter.unusedVariables false
set_option maxRecDepth 100000
theorem Qvm {n : Bool} {a d : List Nat} {k : Nat} (h : Raw k n a d) (hk : k < 2 ^ 36) : Qd Tryz.prog 16 [PV.rr n a d, PV.rr n a d] (· = .bool true) := by
  have := Qu5 h h hk
  rwa [decide_eq_true (show (n = n ∧ a = a) ∧ d = d from ⟨⟨rfl, rfl⟩, rfl⟩)] at this
end Go.Proofs.YtjkbalanglgoiaaGreat
namespace Go.Proofs.YtjkbalanglgoiaaGreat
open Go Go.FW
set_option linter.unusedSimpArgs false
set_option linter.unusedVariables false
set_option maxRecDepth 100000
theorem Qyu {p q : List Tm} (np : Nrm p) (nq : Nrm q) (bp : PB 5 8 p) (bq : PB 5 8 q) (mp : ML 4 p) (mq : ML 4 q) (lp : p.length ≤ 25) (lq : q.length ≤ 25) : ∃ (x : List Tm) (b : Bool),
    Qd Tryz.prog 11 [PV.poly p, PV.poly q] (· = .tup [PV.poly x, .bool b]) ∧
    Qd Tryz.prog 12 [PV.poly p, PV.poly q] (· = .tup [PV.poly x, .bool b]) ∧ PB (2 ^ 21) 6560 x ∧ x.length ≤ 2 ^ 34 := by
  by_cases hq : q = []
  · subst hq
    exact ⟨[], false, Qvg, Qvh, PB.nil _ _, by simp⟩
  obtain ⟨k0, hk, hb, hgo, hst⟩ := Q5q np nq bp bq mp mq lp lq hq
  have bq' : PB (2 ^ 20) 6560 q := bq.mono (by omega) (by omega)
  have hbQ : ∀ k, k ≤ k0 → PB (2 ^ 20 + 2 ^ 20) 6560 (exQ q p k) := by
    intro k
    induction k with
    | zero => intro _; exact PB.nil _ _
    | succ k ih =>
      intro hk t ht
      rcases List.mem_append.1 ht with ht | ht
      · exact ih (by omega) t ht
      · obtain rfl : t = exT q (exP q p k) := by simpa using ht
        exact Qvf (hb k (by omega)).1 bq' nq hq (hgo k (by omega))
  have h1 := Qmg (L := 2 ^ 32) np nq bq' hq (by omega) hb hgo hst (by omega) (by omega) (by omega) (by omega) (by omega)
  have h2 := Qs1 (L := 2 ^ 32) np nq bq' hq (by omega) hb hgo hst hbQ (by omega) (by omega) (by omega) (by omega) (by omega)
  unfold exR at h1 h2
  split at h1
  · rename_i h
    rw [if_pos h] at h2
    exact ⟨_, _, h1, h2, hbQ k0 (Nat.le_refl _), by rw [Qkl]; omega⟩
  · rename_i h
    rw [if_neg h] at h2
    exact ⟨_, _, h1, h2, PB.nil _ _, by simp⟩
theorem Qrt {p : List Tm} {K E L : Nat} (np : Nrm p) (bp : PB K E p) (lp : p.length ≤ L) (hL : L ≤ 2 ^ 20) (hK1 : 4 ≤ K) (hK : L * K + (K + K) ≤ 2 ^ 30) (hE : E ≤ 2 ^ 38) : ∃ (x : List Tm) (a : Rat),
    Qd Tryz.prog 13 [PV.poly p] (· = .tup [PV.poly x, PV.rat a]) ∧
    Qd Tryz.prog 14 [PV.poly p] (· = .tup [PV.poly x, PV.rat a]) ∧ PB (4 + L * K + (K + K)) E x ∧ x.length ≤ L ∧ rs a ≤ 1 + L * K + K := by
  have hm : p.length * K ≤ L * K := Nat.mul_le_mul_right _ lp
  by_cases h0 : p = []
  · subst h0
    refine ⟨[], ((1 : Int) : Rat), Qpe, Qpf, PB.nil _ _, by simp, ?_⟩
    have := Qx5
    rw [show ((1 : Int) : Rat) = 1 from rfl]; omega
  · have h1 := Qhu bp np h0 (by omega) (by omega) hE
    have h2 := Qn0 bp np h0 (by omega) (by omega) hE
    have h3 := Qrp bp np.z h0
    have h4 := Qm4 (L := 2 + L * K + K) bp (a := Qft p) (by omega)
    exact ⟨_, _, h1, h2, h4.mono (by omega) (Nat.le_refl _), Nat.le_trans (Qff _ _) lp, by omega⟩
theorem Qn1 {p q : List RTm} {k : Nat} (hb : ∀ t ∈ p, RB k t) (hb2 : ∀ t ∈ q, RB k t) (hk1 : 1 ≤ k) (hk : k < 2 ^ 36) (hl : p.length < 2 ^ 40) (hl2 : q.length < 2 ^ 40) :
    Qd Tryz.prog 3 [PV.rpoly p, PV.rpoly q] (· = .bool true) := by
  refine Qf Qk Tryz.func3 rfl Qace (by simp [c3]) fun C hP => ?_; simp only [c3]
  simp +decide (disch := first | omega | rfl | (simp +decide only [go_sem, ↓reduceIte] <;> rfl) | fail) only [go_sem, ↓reduceIte]
  refine Qa hP (Qme (n := 25) (v := 4) (e := 8) hb hk1 hk hl) rfl rfl rfl ?_
  simp +decide (disch := first | omega | rfl | (simp +decide only [go_sem, ↓reduceIte] <;> rfl) | fail) only [go_sem, ↓reduceIte]
  cases hs1 : Qh4 25 4 8 p
  · simp +decide (disch := first | omega | rfl | (simp +decide only [go_sem, ↓reduceIte] <;> rfl) | fail) only [go_sem, ↓reduceIte]
    refine Qa hP Qjz rfl rfl rfl ?_
    simp +decide (disch := first | omega | rfl | (simp +decide only [go_sem, ↓reduceIte] <;> rfl) | fail) only [go_sem, ↓reduceIte]
    exact Qc rfl rfl
  simp +decide (disch := first | omega | rfl | (simp +decide only [go_sem, ↓reduceIte] <;> rfl) | fail) only [go_sem, ↓reduceIte]
  refine Qa hP (Qme (n := 25) (v := 4) (e := 8) hb2 hk1 hk hl2) rfl rfl rfl ?_
  simp +decide (disch := first | omega | rfl | (simp +decide only [go_sem, ↓reduceIte] <;> rfl) | fail) only [go_sem, ↓reduceIte]
  cases hs2 : Qh4 25 4 8 q
  · simp +decide (disch := first | omega | rfl | (simp +decide only [go_sem, ↓reduceIte] <;> rfl) | fail) only [go_sem, ↓reduceIte]
    refine Qa hP Qjz rfl rfl rfl ?_
    simp +decide (disch := first | omega | rfl | (simp +decide only [go_sem, ↓reduceIte] <;> rfl) | fail) only [go_sem, ↓reduceIte]
    exact Qc rfl rfl
  have s1 := Qqx (e := 8) hb hs1
  have s2 := Qqx (e := 8) hb2 hs2
  rw [s1.eq, s2.eq]
  obtain ⟨x, b, h1, h2, bx, lx⟩ := Qyu s1.va.nrm s2.va.nrm s1.b s2.b s1.ml s2.ml s1.ln s2.ln
  obtain ⟨y, a, h3, h4, b_y, ly, ha⟩ := Qrt (L := 25) s1.va.nrm s1.b s1.ln (by omega) (by omega) (by omega) (by omega)
  have hsame := Qvm (Qbh (q := a) (k := 200) (by omega)) (by omega)
  simp +decide (disch := first | omega | rfl | (simp +decide only [go_sem, ↓reduceIte] <;> rfl) | fail) only [go_sem, ↓reduceIte]
  refine Qa hP h1 rfl rfl rfl ?_
  simp +decide (disch := first | omega | rfl | (simp +decide only [go_sem, ↓reduceIte] <;> rfl) | fail) only [go_sem, ↓reduceIte]
  refine Qa hP h2 rfl rfl rfl ?_
  simp +decide (disch := first | omega | rfl | (simp +decide only [go_sem, ↓reduceIte] <;> rfl) | fail) only [go_sem, ↓reduceIte]
  refine Qa hP h3 rfl rfl rfl ?_
  simp +decide (disch := first | omega | rfl | (simp +decide only [go_sem, ↓reduceIte] <;> rfl) | fail) only [go_sem, ↓reduceIte]
  refine Qa hP h4 rfl rfl rfl ?_
  simp +decide (disch := first | omega | rfl | (simp +decide only [go_sem, ↓reduceIte] <;> rfl) | fail) only [go_sem, ↓reduceIte]
  refine Qa hP (Qci bx bx (by omega) (by omega) (by omega) (by omega)) rfl rfl rfl ?_
  rw [decide_eq_true (p := x = x) rfl]
  simp +decide (disch := first | omega | rfl | (simp +decide only [go_sem, ↓reduceIte, beq_self_eq_true] <;> rfl) | fail) only [go_sem, ↓reduceIte, beq_self_eq_true]
  refine Qa hP (Qci b_y b_y (by omega) (by omega) (by omega) (by omega)) rfl rfl rfl ?_
  rw [decide_eq_true (p := y = y) rfl]
  simp +decide (disch := first | omega | rfl | (simp +decide only [go_sem, ↓reduceIte] <;> rfl) | fail) only [go_sem, ↓reduceIte]
  refine Qa hP hsame rfl rfl rfl ?_
  simp +decide (disch := first | omega | rfl | (simp +decide only [go_sem, ↓reduceIte] <;> rfl) | fail) only [go_sem, ↓reduceIte]
  refine Qa hP Qjz rfl rfl rfl ?_
  simp +decide (disch := first | omega | rfl | (simp +decide only [go_sem, ↓reduceIte] <;> rfl) | fail) only [go_sem, ↓reduceIte]
  exact Qc rfl rfl
theorem Qpi {p q : List RTm} (h1 : Qs5 p) (h2 : Qs5 q) : Qd Tryz.prog 3 [PV.rpoly p, PV.rpoly q] (· = .bool true) :=
  Qn1 (k := 1048576) (fun t ht => (h1.2 t ht).1) (fun t ht => (h2.2 t ht).1) (by omega) (by omega) (by have := h1.1; omega) (by have := h2.1; omega)
end Go.Proofs.YtjkbalanglgoiaaGreat
namespace Go.Proofs.YtjkbalanglgoiaaGreat
open Go Go.FW Go.ChangeShapes Go.WideShapes Go.ChangeAt Go.RowKit
set_option linter.unusedSimpArgs false
set_option linter.unusedVariables false
set_option maxRecDepth 100000
theorem Qkn (H : Type) (enc : TypeId × Value → H) (W : World) (base : Nat) (args : Array Value) (ds gs : List (DataW H)) (before : List MemPlace)
    (Qcq : ∀ (j : Nat) t v, Tryz.f3.params[j]? = some t → args[j]? = some v → Value.okWide Tryz.prog W .any base t v)
    (hW : DataW.Whole enc Tryz.prog Tryz.f3.params.toList Rows.pseudoExactsSpec.vars false W args.toList ds gs before) (hk : Rows.uptoSmall H (ds ++ gs) = true) :
    Calls Tryz.prog 3 args W fun e W' => ∃ v, e = .returned v ∧ Rows.pseudoExactsSpec.post enc Tryz.prog Tryz.f3 false true false false W args v W' := by
  have hW' := hW
  obtain ⟨p, q, hA0, hV, rfl, hfz, hnd⟩ := hW
  have hA : DataW.TrodAll enc Tryz.prog W 0 (fun _ => true) true Tryz.f3.params.toList args.toList ds p := hA0
  rw [Tryz.params3] at hA Qcq
  obtain ⟨v0, vs0, e0, ds0, p0, q0, hargs, rfl, rfl, h0, r0⟩ := trodAll_cons hA
  obtain ⟨v1, vs1, e1, ds1, p1, q1, rfl, rfl, rfl, h1, r1⟩ := trodAll_cons r0
  obtain ⟨rfl, rfl, rfl⟩ := trodAll_nil r1
  obtain rfl : args = #[v0, v1] := by cases args; simp_all
  obtain ⟨rfl, rfl⟩ := trodVars_none hV
  have hb := Q37 hk
  simp only [List.append_nil, Rows.uptoBulkAll] at hb
  obtain ⟨a0, g0, b0⟩ := Quo (Qcq 0 _ v0 rfl rfl) h0 (by omega)
  obtain ⟨a1, g1, b1⟩ := Quo (Qcq 1 _ v1 rfl rfl) h1 (by omega)
  exact Q0u hW' rfl (by kernel_rfl) (by kernel_rfl) rfl (Qpi b0 b1) rfl
    (Q38 (vs := [v0, v1]) (by
      intro i x hx v hv
      match i, hx, hv with
      | 0, hx, hv => simp at hx hv; subst hx hv; exact g0
      | 1, hx, hv => simp at hx hv; subst hx hv; exact g1
      | i + 2, hx, hv => simp at hx) rfl)
theorem Qmi (os : Os) (started : os.Started) (H : Type) (enc : TypeId × Value → H) (F : Stop.Interp) :
    ReturnsInHanded {} Tryz.checked os 3 .any ((Rows.OpenSpec.upto Rows.pseudoExactsSpec).pre6 enc Tryz.prog Tryz.f3 Rows.pseudoExactsUptoRow.domain false) (((Rows.OpenSpec.upto Rows.pseudoExactsSpec).at F).post enc Tryz.prog Tryz.f3 false true false false) := by
  refine returnsInHanded_of_cond (C := Tryz.checked) (s := Rows.OpenSpec.upto Rows.pseudoExactsSpec) (k := Rows.uptoSmall) rfl own started (by kernel_rfl) Tryz.func3
    (OpenSpec.witness (enc := enc) (C := Tryz.checked) (s := Rows.OpenSpec.upto Rows.pseudoExactsSpec) (k := Rows.uptoSmall) rfl false ⟨#[], #[.slice none 0 0, .slice none 0 0], []⟩ 8 (by kernel_rfl) (by kernel_rfl) (by kernel_rfl)
      (x := ([.nil, .nil], [], [])) (by kernel_rfl) rfl (by kernel_rfl)) ?_
  intro W base args ds gs before Qcq hW _ hk _
  exact Qkn H enc W base args ds gs before Qcq hW hk
theorem pseudoExacts_proved : Rows.PseudoExactsUptoSaid :=
  OpenClaim.holds_of_cond 3 Tryz.f3 rfl rfl rfl rfl rfl rfl rfl ⟨rfl, rfl, rfl, rfl, rfl⟩ rfl rfl rfl rfl rfl (by kernel_rfl) Tryz.func3 (by kernel_rfl)
    (of_decide_eq_true (by kernel_rfl)) (by unfold Func.isWrapper; first | (rw [if_pos (by decide +kernel)]; kernel_rfl) | (rw [if_neg (by decide +kernel)]; exact ⟨rfl, rfl⟩))
    (fun os started H enc _ F => Qmi os started H enc F)
end Go.Proofs.YtjkbalanglgoiaaGreat
