/- Part 7 of the proof of PolyValues: U11, P9, P5, U6, P6, V1, V5, CT, FwSH. Own lemmas; no conditions. -/
import Derived.Test.YtfhmockdgbkpnaaGreatPolyValuesPart6
set_option linter.unusedSimpArgs false
set_option linter.unnecessarySimpa false
set_option linter.unusedVariables false
namespace Go.Proofs.YtfhmockdgbkpnaaGreat
open Go Go.FW
set_option linter.unusedSimpArgs false
set_option linter.unusedVariables false
set_option maxRecDepth 100000
end Go.Proofs.YtfhmockdgbkpnaaGreat
namespace Go.Proofs.YtfhmockdgbkpnaaGreat
open Go Go.FW
set_option linter.unusedSimpArgs false
set_option linter.unusedVariables false
set_option maxRecDepth 100000
theorem p_power_spec {a : Rat} {n : Nat} (hB : 1 + rs a * n ≤ 2 ^ 33) (hn : n ≤ 2 ^ 40) (ha : rs a ≤ 2 ^ 33) : FnSpec Tryz.prog 63 [PV.rat a, .int .i64 n] (· = PV.rat (qpow a n)) := by
  have h1 := rs_1
  have h1' : ((1 : Int) : Rat) = 1 := rfl
  refine fn_of_vc mixed Tryz.func63 rfl c63_ok (by simp [c63]) fun C hP => ?_; simp only [c63]
  simp +decide (disch := first | omega | rfl | (simp +decide only [go_sem, ↓reduceIte] <;> rfl) | fail) only [go_sem, ↓reduceIte, mk_empty, sl_3n, app_nil_map, mk_i64, max_nat]
  refine call_eq0 hP (q_Of_spec (x := 1) (by omega) (by omega)) rfl rfl rfl ?_
  simp +decide (disch := first | omega | rfl | (simp +decide only [go_sem, ↓reduceIte] <;> rfl) | fail) only [go_sem, ↓reduceIte, mk_empty, sl_3n, app_nil_map, mk_i64, max_nat]
  refine vc_loopF (by repeat (first | exact okSk_ret | exact okSk_retM | exact okSk_retO | apply okSk_back | apply okSk_out | apply okSk_eb | apply okSk_c | apply okSk_o | apply okSk_again)) [(1, 1), (7, 21)] [] (fun m J hp => ∃ x o : Rat, m ≤ n ∧ rs o + rs x * m ≤ 2 ^ 33 ∧ o * qpow x m = qpow a n ∧ J 1 = .int .i64 (m : Nat) ∧ hp 2 = some ⟨3, 40, [PV.rat x], false⟩ ∧ hp 4 = some ⟨3, 40, [.agg [.bool false, .nilS, .nilS]], false⟩ ∧ hp 5 = some ⟨3, 40, [PV.rat o], false⟩) n ?_ ?_
  · refine ⟨a, ((1 : Int) : Rat), by omega, by rw [h1']; omega, by rw [h1']; grind, ?_⟩
    simp +decide (disch := first | omega | rfl | (simp +decide only [go_sem, ↓reduceIte] <;> rfl) | fail) only [go_sem, ↓reduceIte, mk_empty, sl_3n, app_nil_map, mk_i64, max_nat]
    rfl
  rintro m J h ⟨x, o, hm, hrs, hq, hJ, hh2, hh4, hh5⟩
  simp +decide (disch := first | omega | rfl | (simp +decide only [go_sem, ↓reduceIte, hJ] <;> rfl) | fail) only [go_sem, ↓reduceIte, mk_empty, sl_3n, app_nil_map, mk_i64, max_nat, hJ]
  refine cond_split (fun hg => ?_) (fun hg => ?_)
  · have hx : rs x ≤ rs x * m := Nat.le_mul_of_pos_right _ (by omega)
    have e2 : (2 : Int) = ((2 : Nat) : Int) := rfl
    have hrem : ∀ d fr hp K, binK .rem false (.int .i64 (m : Int)) (.int .i64 2) d fr hp K = K (upd fr d (.int .i64 ((m % 2 : Nat) : Int))) hp := fun d fr hp K => by
      rw [e2, rem_nat (by omega)]
    have hquo : ∀ d fr hp K, binK .quo false (.int .i64 (m : Int)) (.int .i64 2) d fr hp K = K (upd fr d (.int .i64 ((m / 2 : Nat) : Int))) hp := fun d fr hp K => by
      rw [e2, quo_i64 (by omega) (by omega)]
    have hmm := rs_mul x x
    have hom := rs_mul o x
    have hd2 : rs (x * x) * (m / 2) ≤ rs x * (2 * (m / 2)) := by
      rw [← Nat.mul_assoc]; exact Nat.mul_le_mul_right _ (by omega)
    simp +decide (disch := first | omega | rfl | (simp +decide only [go_sem, ↓reduceIte, hJ, hh2, hh5, hrem, hquo] <;> rfl) | fail) only [go_sem, ↓reduceIte, mk_empty, sl_3n, app_nil_map, mk_i64, max_nat, hJ, hh2, hh5, hrem, hquo]
    refine cond_split (fun h2 => ?_) (fun h2 => ?_)
    · have hodd : m % 2 = 1 := by omega
      have hqa : o * x * qpow (x * x) (m / 2) = qpow a n := by rw [← hq, ← qpow_half_odd hodd]; grind
      have hqb : m = 1 → o * x * qpow x (1 / 2) = qpow a n := fun h => by
        rw [← hq, h]
        show o * x * 1 = o * qpow x 1
        rw [qpow_one]; grind
      have hm2 : rs x * m = rs x * (2 * (m / 2)) + rs x := by
        rw [show m = 2 * (m / 2) + 1 by omega, Nat.mul_add, Nat.mul_one]; congr 2; omega
      simp +decide (disch := first | omega | rfl | (simp +decide only [go_sem, ↓reduceIte, hJ, hh2, hh5, hrem, hquo] <;> rfl) | fail) only [go_sem, ↓reduceIte, mk_empty, sl_3n, app_nil_map, mk_i64, max_nat, hJ, hh2, hh5, hrem, hquo]
      refine call_eq0 hP (q_Mul (a := o) (b := x) (k := 2 ^ 33) (by omega) (by omega) (by omega)) rfl rfl rfl ?_
      simp +decide (disch := first | omega | rfl | (simp +decide only [go_sem, ↓reduceIte, hJ, hh2, hh5, hrem, hquo] <;> rfl) | fail) only [go_sem, ↓reduceIte, mk_empty, sl_3n, app_nil_map, mk_i64, max_nat, hJ, hh2, hh5, hrem, hquo]
      refine cond_split (fun h3 => ?_) (fun h3 => ?_)
      · simp +decide (disch := first | omega | rfl | (simp +decide only [go_sem, ↓reduceIte, hJ, hh2, hh5, hrem, hquo] <;> rfl) | fail) only [go_sem, ↓reduceIte, mk_empty, sl_3n, app_nil_map, mk_i64, max_nat, hJ, hh2, hh5, hrem, hquo]
        refine call_eq0 hP (q_Mul (a := x) (b := x) (k := 2 ^ 33) (by omega) (by omega) (by omega)) rfl rfl rfl ?_
        simp +decide (disch := first | omega | rfl | (simp +decide only [go_sem, ↓reduceIte, hJ, hh2, hh5, hrem, hquo] <;> rfl) | fail) only [go_sem, ↓reduceIte, mk_empty, sl_3n, app_nil_map, mk_i64, max_nat, hJ, hh2, hh5, hrem, hquo]
        refine back_ovr (m / 2) (by omega) ⟨x * x, o * x, by omega, by omega, hqa, ?_⟩
        simp +decide (disch := first | omega | rfl | (simp +decide only [go_sem, ↓reduceIte, hh2, hh4, hh5] <;> rfl) | fail) only [go_sem, ↓reduceIte, mk_empty, sl_3n, app_nil_map, mk_i64, max_nat, hh2, hh4, hh5]
      · obtain rfl : m = 1 := by omega
        simp +decide (disch := first | omega | rfl | (simp +decide only [go_sem, ↓reduceIte, hJ, hh2, hh5, hrem, hquo] <;> rfl) | fail) only [go_sem, ↓reduceIte, mk_empty, sl_3n, app_nil_map, mk_i64, max_nat, hJ, hh2, hh5, hrem, hquo]
        refine back_ovr (1 / 2) (by omega) ⟨x, o * x, by omega, by omega, (hqb rfl), ?_⟩
        simp +decide (disch := first | omega | rfl | (simp +decide only [go_sem, ↓reduceIte, hh2, hh4, hh5] <;> rfl) | fail) only [go_sem, ↓reduceIte, mk_empty, sl_3n, app_nil_map, mk_i64, max_nat, hh2, hh4, hh5]
    · have heven : m % 2 = 0 := by omega
      have hqa : o * qpow (x * x) (m / 2) = qpow a n := by rw [← hq, ← qpow_half_even heven]
      have hqb : m = 1 → o * qpow x (1 / 2) = qpow a n := fun h => by omega
      have hm2 : rs x * m = rs x * (2 * (m / 2)) := by
        congr 1; omega
      simp +decide (disch := first | omega | rfl | (simp +decide only [go_sem, ↓reduceIte, hJ, hh2, hh5, hrem, hquo] <;> rfl) | fail) only [go_sem, ↓reduceIte, mk_empty, sl_3n, app_nil_map, mk_i64, max_nat, hJ, hh2, hh5, hrem, hquo]
      refine cond_split (fun h3 => ?_) (fun h3 => ?_)
      · simp +decide (disch := first | omega | rfl | (simp +decide only [go_sem, ↓reduceIte, hJ, hh2, hh5, hrem, hquo] <;> rfl) | fail) only [go_sem, ↓reduceIte, mk_empty, sl_3n, app_nil_map, mk_i64, max_nat, hJ, hh2, hh5, hrem, hquo]
        refine call_eq0 hP (q_Mul (a := x) (b := x) (k := 2 ^ 33) (by omega) (by omega) (by omega)) rfl rfl rfl ?_
        simp +decide (disch := first | omega | rfl | (simp +decide only [go_sem, ↓reduceIte, hJ, hh2, hh5, hrem, hquo] <;> rfl) | fail) only [go_sem, ↓reduceIte, mk_empty, sl_3n, app_nil_map, mk_i64, max_nat, hJ, hh2, hh5, hrem, hquo]
        refine back_ovr (m / 2) (by omega) ⟨x * x, o, by omega, by omega, hqa, ?_⟩
        simp +decide (disch := first | omega | rfl | (simp +decide only [go_sem, ↓reduceIte, hh2, hh4, hh5] <;> rfl) | fail) only [go_sem, ↓reduceIte, mk_empty, sl_3n, app_nil_map, mk_i64, max_nat, hh2, hh4, hh5]
      · obtain rfl : m = 1 := by omega
        simp +decide (disch := first | omega | rfl | (simp +decide only [go_sem, ↓reduceIte, hJ, hh2, hh5, hrem, hquo] <;> rfl) | fail) only [go_sem, ↓reduceIte, mk_empty, sl_3n, app_nil_map, mk_i64, max_nat, hJ, hh2, hh5, hrem, hquo]
        refine back_ovr (1 / 2) (by omega) ⟨x, o, by omega, by omega, (hqb rfl), ?_⟩
        simp +decide (disch := first | omega | rfl | (simp +decide only [go_sem, ↓reduceIte, hh2, hh4, hh5] <;> rfl) | fail) only [go_sem, ↓reduceIte, mk_empty, sl_3n, app_nil_map, mk_i64, max_nat, hh2, hh4, hh5]
  · obtain rfl : m = 0 := by omega
    have hq' : o = qpow a n := by rw [← hq, qpow_zero]; grind
    simp +decide (disch := first | omega | rfl | (simp +decide only [go_sem, ↓reduceIte, hh2, hh4, hh5] <;> rfl) | fail) only [go_sem, ↓reduceIte, mk_empty, sl_3n, app_nil_map, mk_i64, max_nat, hh2, hh4, hh5]
    refine ret_1 ?_
    simp +decide (disch := first | omega | rfl | (simp +decide only [go_sem, ↓reduceIte] <;> rfl) | fail) only [go_sem, ↓reduceIte, mk_empty, sl_3n, app_nil_map, mk_i64, max_nat]
    exact retV_eq (by rw [hq']) rfl
theorem p_Eval_spec {p : List Tm} {vs : List Rat} {K E W : Nat} (hp : PB K E p) (hv : ∀ v ∈ vs, rs v ≤ W) (hW : 1 ≤ W) (hB : 1 + p.length * (K + 64 * (1 + W * E)) + (K + 64 * (1 + W * E)) ≤ 2 ^ 33) (hE : E ≤ 2 ^ 38) (hlp : p.length ≤ 2 ^ 36) (hlv : vs.length ≤ 2 ^ 36) :
    FnSpec Tryz.prog 19 [PV.poly p, PV.rats vs] (· = evR vs p) := by
  have h0 : ((0 : Int) : Rat) = 0 := rfl
  refine fn_of_vc mixed Tryz.func19 rfl c19_ok (by simp [c19]) fun C hP => ?_; simp only [c19]
  simp +decide (disch := first | omega | rfl | (simp +decide only [go_sem, ↓reduceIte] <;> rfl) | fail) only [go_sem, ↓reduceIte, mk_empty, sl_3n, app_nil_map, mk_i64, max_nat]
  refine vc_loopF (by repeat (first | exact okSk_ret | exact okSk_retM | exact okSk_retO | apply okSk_back | apply okSk_out | apply okSk_eb | apply okSk_c | apply okSk_o | apply okSk_again)) [(5, 5), (7, 7), (16, 27)] [7] (fun n J hp => ∃ i, n = p.length - i ∧ i ≤ p.length ∧ (∀ t ∈ p.take i, ¬ vs.length < t.2.length) ∧ J 16 = .int .i64 (i : Nat) ∧ hp 4 = some ⟨3, 40, [.agg [.bool false, .nilS, .nilS]], false⟩) p.length ?_ ?_
  · refine ⟨0, rfl, by omega, by simp, ?_⟩
    simp +decide (disch := first | omega | rfl | (simp +decide only [go_sem, ↓reduceIte] <;> rfl) | fail) only [go_sem, ↓reduceIte, mk_empty, sl_3n, app_nil_map, mk_i64, max_nat]
    rfl
  rintro _ J h ⟨i, rfl, hi, h1, h16, hh4⟩
  simp +decide (disch := first | omega | rfl | (simp +decide only [go_sem, ↓reduceIte, h16] <;> rfl) | fail) only [go_sem, ↓reduceIte, mk_empty, sl_3n, app_nil_map, mk_i64, max_nat, h16]
  refine cond_split (fun hg => ?_) (fun hg => ?_)
  · have hi' : i < p.length := by omega
    have htp := hp.get hi'
    have hmem := List.getElem_mem hi'
    have htk : p.take (i + 1) = p.take i ++ [p[i]] := List.take_succ_eq_append_getElem hi'
    generalize hx : p[i] = x at *
    have hml := htp.m.len
    have htr := trimI_of htp.l
    simp +decide (disch := first | omega | rfl | (simp +decide only [go_sem, ↓reduceIte, h16, hx] <;> rfl) | fail) only [go_sem, ↓reduceIte, mk_empty, sl_3n, app_nil_map, mk_i64, max_nat, h16, hx]
    refine call_eq0 hP (m_Main_spec (a := x.2) (by omega)) rfl rfl rfl ?_
    rw [htr]
    simp +decide (disch := first | omega | rfl | (simp +decide only [go_sem, ↓reduceIte, h16, hx] <;> rfl) | fail) only [go_sem, ↓reduceIte, mk_empty, sl_3n, app_nil_map, mk_i64, max_nat, h16, hx]
    refine cond_split (fun hc => ?_) (fun hc => ?_)
    · have ho : pout vs p = true := by
        unfold pout; rw [List.any_eq_true]; exact ⟨x, hmem, decide_eq_true (by omega)⟩
      simp +decide (disch := first | omega | rfl | (simp +decide only [go_sem, ↓reduceIte, hh4] <;> rfl) | fail) only [go_sem, ↓reduceIte, mk_empty, sl_3n, app_nil_map, mk_i64, max_nat, hh4]
      refine ret_2 ?_
      simp +decide (disch := first | omega | rfl | (simp +decide only [go_sem, ↓reduceIte] <;> rfl) | fail) only [go_sem, ↓reduceIte, mk_empty, sl_3n, app_nil_map, mk_i64, max_nat]
      exact ret2 (p' := PV.rr false [] []) (q' := .int .i64 2) (by rw [evR, if_pos ho]) rfl rfl ⟨rfl, trivial, trivial, trivial⟩ (le_refl _)
    · simp +decide (disch := first | omega | rfl | (simp +decide only [go_sem, ↓reduceIte, h16] <;> rfl) | fail) only [go_sem, ↓reduceIte, mk_empty, sl_3n, app_nil_map, mk_i64, max_nat, h16]
      refine back_ovr (p.length - (i + 1)) (by omega) ⟨i + 1, rfl, by omega, ?_, ?_⟩
      · rw [htk]
        intro z hz
        rcases List.mem_append.1 hz with hz | hz
        · exact h1 z hz
        · simp only [List.mem_singleton] at hz; subst hz; omega
      · simp +decide (disch := first | omega | rfl | (simp +decide only [go_sem, ↓reduceIte, hh4] <;> rfl) | fail) only [go_sem, ↓reduceIte, mk_empty, sl_3n, app_nil_map, mk_i64, max_nat, hh4]
  · obtain rfl : i = p.length := by omega
    rw [List.take_length] at h1
    have ho : pout vs p = false := by
      unfold pout; rw [List.any_eq_false]; intro t ht; simpa using h1 t ht
    simp +decide (disch := first | omega | rfl | (simp +decide only [go_sem, ↓reduceIte, hh4] <;> rfl) | fail) only [go_sem, ↓reduceIte, mk_empty, sl_3n, app_nil_map, mk_i64, max_nat, hh4]
    refine call_eq0 hP (q_Of_spec (x := 0) (by omega) (by omega)) rfl rfl rfl ?_
    simp +decide (disch := first | omega | rfl | (simp +decide only [go_sem, ↓reduceIte, hh4] <;> rfl) | fail) only [go_sem, ↓reduceIte, mk_empty, sl_3n, app_nil_map, mk_i64, max_nat, hh4]
    refine vc_loopF (by repeat (first | exact okSk_ret | exact okSk_retM | exact okSk_retO | apply okSk_back | apply okSk_out | apply okSk_eb | apply okSk_c | apply okSk_o | apply okSk_again)) [(10, 13), (31, 59)] [10, 11] (fun n J hp => ∃ i, n = p.length - i ∧ i ≤ p.length ∧ J 31 = .int .i64 (i : Nat) ∧ hp 4 = some ⟨3, 40, [.agg [.bool false, .nilS, .nilS]], false⟩ ∧ hp 8 = some ⟨3, 40, [PV.rat (peval vs (p.take i))], false⟩) p.length ?_ ?_
    · refine ⟨0, rfl, by omega, ?_⟩
      simp +decide (disch := first | omega | rfl | (simp +decide only [go_sem, ↓reduceIte, hh4] <;> rfl) | fail) only [go_sem, ↓reduceIte, mk_empty, sl_3n, app_nil_map, mk_i64, max_nat, hh4]
      exact ⟨rfl, rfl⟩
    rintro _ J1 h1' ⟨i, rfl, hi1, h31, hk4, hk8⟩
    simp +decide (disch := first | omega | rfl | (simp +decide only [go_sem, ↓reduceIte, h31] <;> rfl) | fail) only [go_sem, ↓reduceIte, mk_empty, sl_3n, app_nil_map, mk_i64, max_nat, h31]
    refine cond_split (fun hg1 => ?_) (fun hg1 => ?_)
    · have hi' : i < p.length := by omega
      have htp := hp.get hi'
      have hxl := h1 _ (List.getElem_mem hi')
      have htk := peval_take (vs := vs) hi'
      have hrp := rs_peval hp hv hW i (by omega)
      generalize hx : p[i] = x at *
      have hml := htp.m.len
      have hxc := htp.c
      have hmono : i * (K + 64 * (1 + W * E)) ≤ p.length * (K + 64 * (1 + W * E)) := Nat.mul_le_mul_right _ hi1
      have hme := fun j => rs_mevN (vs := vs) htp.m hv hW x.1 j
      have hjm : ∀ j, j ≤ x.2.length → j * (1 + W * E) ≤ 64 * (1 + W * E) := fun j hj => Nat.mul_le_mul_right _ (by omega)
      simp +decide (disch := first | omega | rfl | (simp +decide only [go_sem, ↓reduceIte, h31, hx] <;> rfl) | fail) only [go_sem, ↓reduceIte, mk_empty, sl_3n, app_nil_map, mk_i64, max_nat, h31, hx]
      refine vc_loopF (by repeat (first | exact okSk_ret | exact okSk_retM | exact okSk_retO | apply okSk_back | apply okSk_out | apply okSk_eb | apply okSk_c | apply okSk_o | apply okSk_again)) [(12, 13), (40, 55)] [] (fun n J hp => ∃ j, n = x.2.length - j ∧ j ≤ x.2.length ∧ J 40 = .int .i64 (j : Nat) ∧ hp 4 = some ⟨3, 40, [.agg [.bool false, .nilS, .nilS]], false⟩ ∧ hp 8 = some ⟨3, 40, [PV.rat (peval vs (p.take i))], false⟩ ∧ hp 11 = some ⟨3, 40, [PV.rat (x.1 * mevN vs x.2 j)], false⟩) x.2.length ?_ ?_
      · refine ⟨0, rfl, by omega, ?_⟩
        have e0 : x.1 * mevN vs x.2 0 = x.1 := by show x.1 * 1 = x.1; grind
        rw [e0]
        simp +decide (disch := first | omega | rfl | (simp +decide only [go_sem, ↓reduceIte, hk4, hk8] <;> rfl) | fail) only [go_sem, ↓reduceIte, mk_empty, sl_3n, app_nil_map, mk_i64, max_nat, hk4, hk8]
        rfl
      rintro _ J2 h2 ⟨j, rfl, hj, h40, hl4, hl8, hl11⟩
      simp +decide (disch := first | omega | rfl | (simp +decide only [go_sem, ↓reduceIte, h40] <;> rfl) | fail) only [go_sem, ↓reduceIte, mk_empty, sl_3n, app_nil_map, mk_i64, max_nat, h40]
      refine cond_split (fun hg2 => ?_) (fun hg2 => ?_)
      · have hj' : j < x.2.length := by omega
        have hje := eN_lt hj'
        have hjb := htp.m.eN j
        have hms : mevN vs x.2 (j + 1) = mevN vs x.2 j * qpow (vs.getD j 0) (eN x.2 j).toNat := rfl
        generalize hy : x.2[j] = y at *
        obtain ⟨m, rfl⟩ : ∃ m : Nat, y = m := ⟨y.toNat, by omega⟩
        rw [hje, Int.toNat_natCast] at hms
        rw [hje] at hjb
        simp +decide (disch := first | omega | rfl | (simp +decide only [go_sem, ↓reduceIte, h40, hy] <;> rfl) | fail) only [go_sem, ↓reduceIte, mk_empty, sl_3n, app_nil_map, mk_i64, max_nat, h40, hy]
        refine cond_split (fun hz => ?_) (fun hz => ?_)
        · have hjv : j < vs.length := by omega
          have hvg : vs.getD j 0 = vs[j] := by simp [List.getD_eq_getElem?_getD, hjv]
          have hvw := hv _ (List.getElem_mem hjv)
          rw [hvg] at hms
          generalize hvj : vs[j] = v at *
          have hwe : rs v * m ≤ W * E := Nat.mul_le_mul hvw (by omega)
          have hv1 : rs v ≤ rs v * m := Nat.le_mul_of_pos_right _ (by omega)
          have hqp := rs_qpow v m
          have hm1 := hme j
          have hm2 := hjm j hj
          simp +decide (disch := first | omega | rfl | (simp +decide only [go_sem, ↓reduceIte, h40, hy, hl11, hvj] <;> rfl) | fail) only [go_sem, ↓reduceIte, mk_empty, sl_3n, app_nil_map, mk_i64, max_nat, h40, hy, hl11, hvj]
          refine call_eq0 hP (p_power_spec (a := v) (n := m) (by omega) (by omega) (by omega)) rfl rfl rfl ?_
          simp +decide (disch := first | omega | rfl | (simp +decide only [go_sem, ↓reduceIte, h40, hy, hl11, hvj] <;> rfl) | fail) only [go_sem, ↓reduceIte, mk_empty, sl_3n, app_nil_map, mk_i64, max_nat, h40, hy, hl11, hvj]
          refine call_eq0 hP (q_Mul (a := x.1 * mevN vs x.2 j) (b := qpow v m) (k := 2 ^ 33) (by omega) (by omega) (by omega)) rfl rfl rfl ?_
          simp +decide (disch := first | omega | rfl | (simp +decide only [go_sem, ↓reduceIte, h40, hy, hl11, hvj] <;> rfl) | fail) only [go_sem, ↓reduceIte, mk_empty, sl_3n, app_nil_map, mk_i64, max_nat, h40, hy, hl11, hvj]
          refine back_ovr (x.2.length - (j + 1)) (by omega) ⟨j + 1, rfl, by omega, ?_⟩
          have e1 : x.1 * mevN vs x.2 (j + 1) = x.1 * mevN vs x.2 j * qpow v m := by rw [hms]; grind
          rw [e1]
          simp +decide (disch := first | omega | rfl | (simp +decide only [go_sem, ↓reduceIte, hl4, hl8] <;> rfl) | fail) only [go_sem, ↓reduceIte, mk_empty, sl_3n, app_nil_map, mk_i64, max_nat, hl4, hl8]
        · obtain rfl : m = 0 := by omega
          simp +decide (disch := first | omega | rfl | (simp +decide only [go_sem, ↓reduceIte, h40, hy] <;> rfl) | fail) only [go_sem, ↓reduceIte, mk_empty, sl_3n, app_nil_map, mk_i64, max_nat, h40, hy]
          refine back_ovr (x.2.length - (j + 1)) (by omega) ⟨j + 1, rfl, by omega, ?_⟩
          have e1 : x.1 * mevN vs x.2 (j + 1) = x.1 * mevN vs x.2 j := by rw [hms, qpow_zero]; grind
          rw [e1]
          simp +decide (disch := first | omega | rfl | (simp +decide only [go_sem, ↓reduceIte, hl4, hl8, hl11] <;> rfl) | fail) only [go_sem, ↓reduceIte, mk_empty, sl_3n, app_nil_map, mk_i64, max_nat, hl4, hl8, hl11]
      · obtain rfl : j = x.2.length := by omega
        have hm1 := hme x.2.length
        have hm2 := hjm x.2.length (Nat.le_refl _)
        have hra := rs_add (peval vs (p.take i)) (x.1 * mev vs x.2)
        rw [show mevN vs x.2 x.2.length = mev vs x.2 from rfl] at hl11 hm1
        simp +decide (disch := first | omega | rfl | (simp +decide only [go_sem, ↓reduceIte, h31, h40, hl8, hl11] <;> rfl) | fail) only [go_sem, ↓reduceIte, mk_empty, sl_3n, app_nil_map, mk_i64, max_nat, h31, h40, hl8, hl11]
        refine call_eq0 hP (q_Add (a := peval vs (p.take i)) (b := x.1 * mev vs x.2) (k := 2 ^ 33) (by omega) (by omega) (by omega)) rfl rfl rfl ?_
        simp +decide (disch := first | omega | rfl | (simp +decide only [go_sem, ↓reduceIte, h31, h40, hl8, hl11] <;> rfl) | fail) only [go_sem, ↓reduceIte, mk_empty, sl_3n, app_nil_map, mk_i64, max_nat, h31, h40, hl8, hl11]
        simp (disch := decide) only [killFs_nil, ovr_sub]
        refine back_ovr (p.length - (i + 1)) (by omega) ⟨i + 1, rfl, by omega, ?_⟩
        rw [htk]
        simp +decide (disch := first | omega | rfl | (simp +decide only [go_sem, ↓reduceIte, hl4] <;> rfl) | fail) only [go_sem, ↓reduceIte, mk_empty, sl_3n, app_nil_map, mk_i64, max_nat, hl4]
    · obtain rfl : i = p.length := by omega
      rw [List.take_length] at hk8
      simp +decide (disch := first | omega | rfl | (simp +decide only [go_sem, ↓reduceIte, hk4, hk8] <;> rfl) | fail) only [go_sem, ↓reduceIte, mk_empty, sl_3n, app_nil_map, mk_i64, max_nat, hk4, hk8]
      refine ret_2 ?_
      simp +decide (disch := first | omega | rfl | (simp +decide only [go_sem, ↓reduceIte] <;> rfl) | fail) only [go_sem, ↓reduceIte, mk_empty, sl_3n, app_nil_map, mk_i64, max_nat]
      exact ret2 (by rw [evR, if_neg (by simp [ho])]) rfl rfl (le_refl _) (le_refl _)
end Go.Proofs.YtfhmockdgbkpnaaGreat
namespace Go.Proofs.YtfhmockdgbkpnaaGreat
open Go Go.FW
set_option linter.unusedSimpArgs false
set_option linter.unusedVariables false
set_option maxRecDepth 100000
theorem pdeg_take {p : List Tm} {i : Nat} (h : i < p.length) : pdeg (p.take (i + 1)) = max (pdeg (p.take i)) (degM p[i].2) := by
  rw [List.take_succ_eq_append_getElem h, pdeg, List.foldl_append]; rfl
theorem pdeg_range {K E : Nat} {p : List Tm} (hp : PB K E p) : -1 ≤ pdeg p ∧ pdeg p ≤ 64 * E := by
  have key : ∀ (p : List Tm) (d : Int), PB K E p → -1 ≤ d → d ≤ 64 * E → -1 ≤ p.foldl (fun d t => max d (degM t.2)) d ∧ p.foldl (fun d t => max d (degM t.2)) d ≤ 64 * E := by
    intro p
    induction p with
    | nil => intro d _ h1 h2; exact ⟨h1, h2⟩
    | cons t p ih =>
      intro d h h1 h2
      have := degM_le (PB.cons.1 h).1.m
      exact ih (max d (degM t.2)) (PB.cons.1 h).2 (by omega) (by omega)
  exact key p (-1) hp (by omega) (by omega)
theorem p_Degree_spec {p : List Tm} {K E : Nat} (hp : PB K E p) (hE : E ≤ 2 ^ 38) (hlp : p.length ≤ 2 ^ 36) : FnSpec Tryz.prog 24 [PV.poly p] (· = .int .i64 (pdeg p)) := by
  refine fn_of_vc mixed Tryz.func24 rfl c24_ok (by simp [c24]) fun C hP => ?_; simp only [c24]
  simp +decide (disch := first | omega | rfl | (simp +decide only [go_sem, ↓reduceIte] <;> rfl) | fail) only [go_sem, ↓reduceIte, mk_empty, sl_3n, app_nil_map, mk_i64, max_nat]
  refine vc_loopF (by repeat (first | exact okSk_ret | exact okSk_retM | exact okSk_retO | apply okSk_back | apply okSk_out | apply okSk_eb | apply okSk_c | apply okSk_o | apply okSk_again)) [(3, 3), (5, 5), (8, 17)] [5] (fun n J hp => ∃ i, n = p.length - i ∧ i ≤ p.length ∧ J 3 = .int .i64 (pdeg (p.take i)) ∧ J 8 = .int .i64 (i : Nat)) p.length ?_ ?_
  · refine ⟨0, rfl, by omega, ?_⟩
    simp +decide (disch := first | omega | rfl | (simp +decide only [go_sem, ↓reduceIte] <;> rfl) | fail) only [go_sem, ↓reduceIte, mk_empty, sl_3n, app_nil_map, mk_i64, max_nat]
    simp [pdeg]
  rintro _ J h ⟨i, rfl, hi, h3, h8⟩
  simp +decide (disch := first | omega | rfl | (simp +decide only [go_sem, ↓reduceIte, h3, h8] <;> rfl) | fail) only [go_sem, ↓reduceIte, mk_empty, sl_3n, app_nil_map, mk_i64, max_nat, h3, h8]
  refine cond_split (fun hg => ?_) (fun hg => ?_)
  · have hi' : i < p.length := by omega
    have htp := hp.get hi'
    have htk := pdeg_take hi'
    generalize hx : p[i] = x at *
    have hl := htp.m.len
    have hd := degM_le htp.m
    simp +decide (disch := first | omega | rfl | (simp +decide only [go_sem, ↓reduceIte, h3, h8, hx] <;> rfl) | fail) only [go_sem, ↓reduceIte, mk_empty, sl_3n, app_nil_map, mk_i64, max_nat, h3, h8, hx]
    refine call_eq0 hP (m_Degree_spec (a := x.2) (by omega) (fun y hy => ⟨htp.m.lo y hy, by have := htp.m.hi y hy; omega⟩)) rfl rfl rfl ?_
    simp +decide (disch := first | omega | rfl | (simp +decide only [go_sem, ↓reduceIte, h3, h8, hx] <;> rfl) | fail) only [go_sem, ↓reduceIte, mk_empty, sl_3n, app_nil_map, mk_i64, max_nat, h3, h8, hx]
    refine back_ovr (p.length - (i + 1)) (by omega) ⟨i + 1, rfl, by omega, ?_⟩
    rw [htk]
    simp +decide (disch := first | omega | rfl | (simp +decide only [go_sem, ↓reduceIte] <;> rfl) | fail) only [go_sem, ↓reduceIte, mk_empty, sl_3n, app_nil_map, mk_i64, max_nat]
  · obtain rfl : i = p.length := by omega
    rw [List.take_length] at h3
    simp +decide (disch := first | omega | rfl | (simp +decide only [go_sem, ↓reduceIte, h3] <;> rfl) | fail) only [go_sem, ↓reduceIte, mk_empty, sl_3n, app_nil_map, mk_i64, max_nat, h3]
    exact retV_eq rfl rfl
theorem p_Lead1_spec {s t : Tm} {o : Int} {E : Nat} (hs : MB E s.2) (ht : MB E t.2) (hE : E ≤ 2 ^ 38) : FnSpec Tryz.prog 72 [PV.term s, PV.term t, .pt [.int .i64 o]] (· = .int .i64 (cmpO o s.2 t.2)) := by
  refine fn_of_vc mixed Tryz.func72 rfl c72_ok (by simp [c72]) fun C hP => ?_; simp only [c72]
  simp +decide (disch := first | omega | rfl | (simp +decide only [go_sem, ↓reduceIte] <;> rfl) | fail) only [go_sem, ↓reduceIte, mk_empty, sl_3n, app_nil_map, mk_i64, max_nat]
  refine call_eq0 hP (m_Cmp_spec (o := o) hs ht (by omega)) rfl rfl rfl ?_
  simp +decide (disch := first | omega | rfl | (simp +decide only [go_sem, ↓reduceIte] <;> rfl) | fail) only [go_sem, ↓reduceIte, mk_empty, sl_3n, app_nil_map, mk_i64, max_nat]
  exact retV_eq rfl rfl
theorem plead_take {o : Int} {t : Tm} {p : List Tm} {i : Nat} (h : i < p.length) : plead o t (p.take (i + 1)) = if 0 < cmpO o p[i].2 (plead o t (p.take i)).2 then p[i] else plead o t (p.take i) := by
  rw [List.take_succ_eq_append_getElem h, plead, List.foldl_append]; rfl
theorem plead_mem (o : Int) : ∀ (p : List Tm) (t : Tm), plead o t p = t ∨ plead o t p ∈ p
  | [], t => Or.inl rfl
  | s :: p, t => by
    have h := plead_mem o p (if 0 < cmpO o s.2 t.2 then s else t)
    have e : plead o t (s :: p) = plead o (if 0 < cmpO o s.2 t.2 then s else t) p := rfl
    rw [e]
    rcases h with h | h
    · rw [h]; split
      · right; simp
      · left; rfl
    · right; simp [h]
theorem plead_one (o : Int) (t : Tm) : plead o t [t] = t := by simp [plead]
theorem plead_TB {o : Int} {t : Tm} {p : List Tm} {K E : Nat} (ht : TB K E t) (hp : PB K E p) : TB K E (plead o t p) := by
  rcases plead_mem o p t with h | h
  · rw [h]; exact ht
  · exact hp _ h
theorem p_MaxFunc_spec {p : List Tm} {o : Int} {K E : Nat} (hp : PB K E p) (h0 : 0 < p.length) (hE : E ≤ 2 ^ 38) (hlp : p.length ≤ 2 ^ 36) :
    FnSpec Tryz.prog 71 [PV.poly p, .fn 72 [] [.pt [.int .i64 o]]] (· = PV.term (plead o p[0] p)) := by
  have htk : p.take 1 = [p[0]] := by
    rw [List.take_succ_eq_append_getElem h0]; rfl
  have hlt := plead_one o p[0]
  have hb0 := hp.get h0
  refine fn_of_vc mixed Tryz.func71 rfl c71_ok (by simp [c71]) fun C hP => ?_; simp only [c71]
  simp +decide (disch := first | omega | rfl | (simp +decide only [go_sem, ↓reduceIte] <;> rfl) | fail) only [go_sem, ↓reduceIte, mk_empty, sl_3n, app_nil_map, mk_i64, max_nat]
  generalize hx0 : p[0] = x0 at *
  refine cond_split (fun h => by omega) (fun _ => ?_)
  simp +decide (disch := first | omega | rfl | (simp +decide only [go_sem, ↓reduceIte, hx0] <;> rfl) | fail) only [go_sem, ↓reduceIte, mk_empty, sl_3n, app_nil_map, mk_i64, max_nat, hx0]
  refine vc_loopF (by repeat (first | exact okSk_ret | exact okSk_retM | exact okSk_retO | apply okSk_back | apply okSk_out | apply okSk_eb | apply okSk_c | apply okSk_o | apply okSk_again)) [(6, 6), (14, 31)] [] (fun n J hp => ∃ i, n = p.length - i ∧ i ≤ p.length ∧ 1 ≤ i ∧ J 6 = .int .i64 (i : Nat) ∧ hp 4 = some ⟨4, 49, [PV.agg [.bool false, .nilS, .nilS, .nilS]], false⟩ ∧ hp 5 = some ⟨4, 49, [PV.term (plead o x0 (p.take i))], false⟩) (p.length - 1) ?_ ?_
  · refine ⟨1, rfl, by omega, by omega, ?_⟩
    rw [htk, hlt]
    simp +decide (disch := first | omega | rfl | (simp +decide only [go_sem, ↓reduceIte] <;> rfl) | fail) only [go_sem, ↓reduceIte, mk_empty, sl_3n, app_nil_map, mk_i64, max_nat]
    simp
  rintro _ J h ⟨i, rfl, hi, hi1, h6, hh4, hh5⟩
  simp +decide (disch := first | omega | rfl | (simp +decide only [go_sem, ↓reduceIte, h6] <;> rfl) | fail) only [go_sem, ↓reduceIte, mk_empty, sl_3n, app_nil_map, mk_i64, max_nat, h6]
  refine cond_split (fun hg => ?_) (fun hg => ?_)
  · have hi' : i < p.length := by omega
    have htp := hp.get hi'
    have htk2 := plead_take (o := o) (t := x0) hi'
    have hbt := plead_TB (o := o) hb0 (hp.take i)
    generalize hx : p[i] = x at *
    generalize plead o x0 (p.take i) = y at *
    simp +decide (disch := first | omega | rfl | (simp +decide only [go_sem, ↓reduceIte, h6, hh5, hx] <;> rfl) | fail) only [go_sem, ↓reduceIte, mk_empty, sl_3n, app_nil_map, mk_i64, max_nat, h6, hh5, hx]
    refine call_eq0 hP (p_Lead1_spec (o := o) htp.m hbt.m hE) rfl rfl rfl ?_
    simp +decide (disch := first | omega | rfl | (simp +decide only [go_sem, ↓reduceIte, h6, hh5, hx] <;> rfl) | fail) only [go_sem, ↓reduceIte, mk_empty, sl_3n, app_nil_map, mk_i64, max_nat, h6, hh5, hx]
    refine cond_split (fun hc => ?_) (fun hc => ?_)
    · rw [if_pos hc] at htk2
      simp +decide (disch := first | omega | rfl | (simp +decide only [go_sem, ↓reduceIte, h6, hh5, hx] <;> rfl) | fail) only [go_sem, ↓reduceIte, mk_empty, sl_3n, app_nil_map, mk_i64, max_nat, h6, hh5, hx]
      refine back_ovr (p.length - (i + 1)) (by omega) ⟨i + 1, rfl, by omega, by omega, ?_⟩
      rw [htk2]
      simp +decide (disch := first | omega | rfl | (simp +decide only [go_sem, ↓reduceIte, hh4] <;> rfl) | fail) only [go_sem, ↓reduceIte, mk_empty, sl_3n, app_nil_map, mk_i64, max_nat, hh4]
    · rw [if_neg hc] at htk2
      simp +decide (disch := first | omega | rfl | (simp +decide only [go_sem, ↓reduceIte, h6, hh5, hx] <;> rfl) | fail) only [go_sem, ↓reduceIte, mk_empty, sl_3n, app_nil_map, mk_i64, max_nat, h6, hh5, hx]
      refine back_ovr (p.length - (i + 1)) (by omega) ⟨i + 1, rfl, by omega, by omega, ?_⟩
      rw [htk2]
      simp +decide (disch := first | omega | rfl | (simp +decide only [go_sem, ↓reduceIte, hh4, hh5] <;> rfl) | fail) only [go_sem, ↓reduceIte, mk_empty, sl_3n, app_nil_map, mk_i64, max_nat, hh4, hh5]
  · obtain rfl : i = p.length := by omega
    rw [List.take_length] at hh5
    simp +decide (disch := first | omega | rfl | (simp +decide only [go_sem, ↓reduceIte, hh4, hh5] <;> rfl) | fail) only [go_sem, ↓reduceIte, mk_empty, sl_3n, app_nil_map, mk_i64, max_nat, hh4, hh5]
    refine ret_1 ?_
    simp +decide (disch := first | omega | rfl | (simp +decide only [go_sem, ↓reduceIte] <;> rfl) | fail) only [go_sem, ↓reduceIte, mk_empty, sl_3n, app_nil_map, mk_i64, max_nat]
    exact retV_eq rfl rfl
theorem p_Lead_spec {p : List Tm} {o : Int} {K E : Nat} (hp : PB K E p) (h0 : 0 < p.length) (hE : E ≤ 2 ^ 38) (hlp : p.length ≤ 2 ^ 36) :
    FnSpec Tryz.prog 25 [PV.poly p, .int .i64 o] (· = .tup [PV.term (plead o p[0] p), .bool true]) := by
  refine fn_of_vc mixed Tryz.func25 rfl c25_ok (by simp [c25]) fun C hP => ?_; simp only [c25]
  simp +decide (disch := first | omega | rfl | (simp +decide only [go_sem, ↓reduceIte] <;> rfl) | fail) only [go_sem, ↓reduceIte, mk_empty, sl_3n, app_nil_map, mk_i64, max_nat]
  refine cond_split (fun h => by omega) (fun _ => ?_)
  simp +decide (disch := first | omega | rfl | (simp +decide only [go_sem, ↓reduceIte] <;> rfl) | fail) only [go_sem, ↓reduceIte, mk_empty, sl_3n, app_nil_map, mk_i64, max_nat]
  refine call_eq hP (p_MaxFunc_spec hp h0 hE hlp) (by simp +decide (disch := first | omega | rfl | (simp +decide only [go_sem, ↓reduceIte, looks3, List.contains_cons, List.contains_nil, List.flatMap_cons, List.flatMap_nil, List.append_nil] <;> rfl) | fail) only [go_sem, ↓reduceIte, mk_empty, sl_3n, app_nil_map, mk_i64, max_nat, looks3, List.contains_cons, List.contains_nil, List.flatMap_cons, List.flatMap_nil, List.append_nil] <;> rfl) rfl ?_
  simp +decide (disch := first | omega | rfl | (simp +decide only [go_sem, ↓reduceIte, looks3, List.contains_cons, List.contains_nil, List.flatMap_cons, List.flatMap_nil, List.append_nil] <;> rfl) | fail) only [go_sem, ↓reduceIte, mk_empty, sl_3n, app_nil_map, mk_i64, max_nat, looks3, List.contains_cons, List.contains_nil, List.flatMap_cons, List.flatMap_nil, List.append_nil]
  refine ret_2 ?_
  simp +decide (disch := first | omega | rfl | (simp +decide only [go_sem, ↓reduceIte, looks3, List.contains_cons, List.contains_nil, List.flatMap_cons, List.flatMap_nil, List.append_nil] <;> rfl) | fail) only [go_sem, ↓reduceIte, mk_empty, sl_3n, app_nil_map, mk_i64, max_nat, looks3, List.contains_cons, List.contains_nil, List.flatMap_cons, List.flatMap_nil, List.append_nil]
  exact ret2 rfl rfl rfl (le_refl _) (le_refl _)
end Go.Proofs.YtfhmockdgbkpnaaGreat
namespace Go.Proofs.YtfhmockdgbkpnaaGreat
open Go Go.FW
set_option linter.unusedSimpArgs false
set_option linter.unusedVariables false
set_option maxRecDepth 100000
end Go.Proofs.YtfhmockdgbkpnaaGreat
namespace Go.Proofs.YtfhmockdgbkpnaaGreat
open Go Go.FW
set_option linter.unusedSimpArgs false
set_option linter.unusedVariables false
set_option maxRecDepth 100000
end Go.Proofs.YtfhmockdgbkpnaaGreat
namespace Go.Proofs.YtfhmockdgbkpnaaGreat
open Go Go.FW
set_option linter.unusedSimpArgs false
set_option linter.unusedVariables false
set_option maxRecDepth 100000
theorem r5_Same_self {a : List Int} (h : a.length < 2 ^ 43) : FnSpec Tryz.prog 27 [PV.mono a, PV.mono a] (· = .bool true) := by
  have := r5_Same_spec h h
  rwa [decide_eq_true rfl] at this
end Go.Proofs.YtfhmockdgbkpnaaGreat
namespace Go.Proofs.YtfhmockdgbkpnaaGreat
open Go Go.FW
set_option linter.unusedSimpArgs false
set_option linter.unusedVariables false
set_option maxRecDepth 100000
def valOk (q : RQ) : Bool := decide (q.a.length ≤ 2) && (decide (q.d.length ≤ 2) && ratOk q.n q.a q.d)
theorem values_spec {l : List RQ} {k : Nat} (hb : ∀ q ∈ l, Raw k q.n q.a q.d) (hk : k < 2 ^ 36) (hl : l.length < 2 ^ 40) : FnSpec Tryz.prog 18 [PV.rqs l] (· = .bool (l.all valOk && decide (l.length ≤ 6))) := by
  have bad : ∀ i (h : i < l.length), valOk l[i] = false → (l.all valOk && decide (l.length ≤ 6)) = false := fun i hi h => by
    have : l.all valOk = false := by
      rw [List.all_eq_false]; exact ⟨_, List.getElem_mem hi, by simp [h]⟩
    rw [this, Bool.false_and]
  refine fn_of_vc mixed Tryz.func18 rfl c18_ok (by simp [c18]) fun C hP => ?_; simp only [c18]
  simp +decide (disch := first | omega | rfl | (simp +decide only [go_sem, ↓reduceIte] <;> rfl) | fail) only [go_sem, ↓reduceIte, rem64K, quo64K, remI64K, quoI64K, mulK64, mk_empty, sl_3n, app_nil_map, mk_i64, max_nat]
  refine vc_loopF (by repeat (first | exact okSk_ret | exact okSk_retM | exact okSk_retO | apply okSk_back | apply okSk_out | apply okSk_eb | apply okSk_c | apply okSk_o | apply okSk_again | apply okSk_backW)) [(2, 34)] [] (fun n J hp => ∃ i, n = l.length - i ∧ i ≤ l.length ∧ (∀ j (h : j < l.length), j < i → valOk l[j] = true) ∧ J 3 = .int .i64 (i : Nat)) l.length ?_ ?_
  · refine ⟨0, rfl, by omega, by omega, ?_⟩
    simp +decide (disch := first | omega | rfl | (simp +decide only [go_sem, ↓reduceIte] <;> rfl) | fail) only [go_sem, ↓reduceIte, rem64K, quo64K, remI64K, quoI64K, mulK64, mk_empty, sl_3n, app_nil_map, mk_i64, max_nat]
    rfl
  rintro _ J h ⟨i, rfl, hi, h1, h3⟩
  simp +decide (disch := first | omega | rfl | (simp +decide only [go_sem, ↓reduceIte, h3] <;> rfl) | fail) only [go_sem, ↓reduceIte, rem64K, quo64K, remI64K, quoI64K, mulK64, mk_empty, sl_3n, app_nil_map, mk_i64, max_nat, h3]
  refine cond_split (fun hg => ?_) (fun hg => ?_)
  · have hi' : i < l.length := by omega
    have hbt := hb _ (List.getElem_mem hi')
    have hbad := bad i hi'
    have hadd : valOk l[i] = true → ∀ j (h : j < l.length), j < i + 1 → valOk l[j] = true := fun h j hj hji => by
      by_cases e : j = i
      · subst e; exact h
      · exact h1 j hj (by omega)
    generalize hx : l[i] = x at *
    simp +decide (disch := first | omega | rfl | (simp +decide only [go_sem, ↓reduceIte, h3, hx] <;> rfl) | fail) only [go_sem, ↓reduceIte, rem64K, quo64K, remI64K, quoI64K, mulK64, mk_empty, sl_3n, app_nil_map, mk_i64, max_nat, h3, hx]
    refine guard_splitF (fun h2 => ?_) (fun h2 => ?_)
    · simp +decide (disch := first | omega | rfl | (simp +decide only [go_sem, ↓reduceIte] <;> rfl) | fail) only [go_sem, ↓reduceIte, rem64K, quo64K, remI64K, quoI64K, mulK64, mk_empty, sl_3n, app_nil_map, mk_i64, max_nat]
      exact retV_eq (by rw [hbad (by simp [valOk, show ¬ x.a.length ≤ 2 by omega])]) rfl
    simp +decide (disch := first | omega | rfl | (simp +decide only [go_sem, ↓reduceIte, h3, hx] <;> rfl) | fail) only [go_sem, ↓reduceIte, rem64K, quo64K, remI64K, quoI64K, mulK64, mk_empty, sl_3n, app_nil_map, mk_i64, max_nat, h3, hx]
    refine guard_splitF (fun h4 => ?_) (fun h4 => ?_)
    · simp +decide (disch := first | omega | rfl | (simp +decide only [go_sem, ↓reduceIte] <;> rfl) | fail) only [go_sem, ↓reduceIte, rem64K, quo64K, remI64K, quoI64K, mulK64, mk_empty, sl_3n, app_nil_map, mk_i64, max_nat]
      exact retV_eq (by rw [hbad (by simp [valOk, show ¬ x.d.length ≤ 2 by omega])]) rfl
    simp +decide (disch := first | omega | rfl | (simp +decide only [go_sem, ↓reduceIte, h3, hx] <;> rfl) | fail) only [go_sem, ↓reduceIte, rem64K, quo64K, remI64K, quoI64K, mulK64, mk_empty, sl_3n, app_nil_map, mk_i64, max_nat, h3, hx]
    refine call_eq0 hP (r3_Right_spec hbt hk) rfl rfl rfl ?_
    simp +decide (disch := first | omega | rfl | (simp +decide only [go_sem, ↓reduceIte, h3, hx] <;> rfl) | fail) only [go_sem, ↓reduceIte, rem64K, quo64K, remI64K, quoI64K, mulK64, mk_empty, sl_3n, app_nil_map, mk_i64, max_nat, h3, hx]
    cases hok : ratOk x.n x.a x.d
    · simp +decide (disch := first | omega | rfl | (simp +decide only [go_sem, ↓reduceIte] <;> rfl) | fail) only [go_sem, ↓reduceIte, rem64K, quo64K, remI64K, quoI64K, mulK64, mk_empty, sl_3n, app_nil_map, mk_i64, max_nat]
      exact retV_eq (by rw [hbad (by simp [valOk, hok])]) rfl
    · have hv : valOk x = true := by
        simp only [valOk, Bool.and_eq_true, decide_eq_true_eq]; exact ⟨by omega, by omega, hok⟩
      simp +decide (disch := first | omega | rfl | (simp +decide only [go_sem, ↓reduceIte, h3] <;> rfl) | fail) only [go_sem, ↓reduceIte, rem64K, quo64K, remI64K, quoI64K, mulK64, mk_empty, sl_3n, app_nil_map, mk_i64, max_nat, h3]
      refine back_ovr (l.length - (i + 1)) (by omega) ⟨i + 1, rfl, by omega, hadd hv, ?_⟩
      simp +decide (disch := first | omega | rfl | (simp +decide only [go_sem, ↓reduceIte] <;> rfl) | fail) only [go_sem, ↓reduceIte, rem64K, quo64K, remI64K, quoI64K, mulK64, mk_empty, sl_3n, app_nil_map, mk_i64, max_nat]
  · obtain rfl : i = l.length := by omega
    have hall : l.all valOk = true := by
      rw [List.all_eq_true]
      intro t ht
      obtain ⟨j, hj, rfl⟩ := List.getElem_of_mem ht
      exact h1 j hj hj
    simp +decide (disch := first | omega | rfl | (simp +decide only [go_sem, ↓reduceIte] <;> rfl) | fail) only [go_sem, ↓reduceIte, rem64K, quo64K, remI64K, quoI64K, mulK64, mk_empty, sl_3n, app_nil_map, mk_i64, max_nat]
    exact retV_eq (congrArg PV.bool (by rw [hall, Bool.true_and]; exact decide_eq_decide.2 ⟨fun h => by omega, fun h => by omega⟩)) rfl
def RQ.q (x : RQ) : Rat := rv x.n x.a x.d
theorem values_ok {l : List RQ} {k : Nat} (hb : ∀ q ∈ l, Raw k q.n q.a q.d) (h : (l.all valOk && decide (l.length ≤ 6)) = true) : PV.rqs l = PV.rats (l.map RQ.q) ∧ (∀ v ∈ l.map RQ.q, rs v ≤ 2) ∧ (l.map RQ.q).length ≤ 6 := by
  simp only [Bool.and_eq_true, decide_eq_true_eq, List.all_eq_true] at h
  obtain ⟨h1, h2⟩ := h
  refine ⟨?_, fun v hv => ?_, by simpa using h2⟩
  · show PV.sl 3 (l.map PV.rq) = PV.sl 3 ((l.map RQ.q).map PV.rat)
    rw [List.map_map]
    congr 1
    refine List.map_congr_left fun x hx => ?_
    have hv := h1 x hx
    simp only [valOk, Bool.and_eq_true, decide_eq_true_eq] at hv
    exact rr_ok (hb x hx).la (hb x hx).ld hv.2.2
  · obtain ⟨x, hx, rfl⟩ := List.mem_map.1 hv
    have hv := h1 x hx
    simp only [valOk, Bool.and_eq_true, decide_eq_true_eq] at hv
    exact (show Raw 2 x.n x.a x.d from ⟨(hb x hx).la, (hb x hx).ld, hv.1, hv.2.1, by omega⟩).rs
end Go.Proofs.YtfhmockdgbkpnaaGreat
namespace Go.Proofs.YtfhmockdgbkpnaaGreat
open Go Go.FW
set_option maxRecDepth 100000
def c99 : SFn := ⟨80, [.t 4, .t 5], .seq (.rg (.o none (.mv 4 (.c .nilS)) <|
  .o none (.mv 5 (.c .nilS)) .nil)) <| .seq (.seq (.rg (.o none (.mv 15 (.t 0)) <|
  .o none (.len 16 (.t 15)) <|
  .o none (.mv 17 (.c (.int .i64 0))) .nil)) <| .block 0 (.loop (.seq (.rg (.o none (.bin 18 .lss false (.t 17) (.t 16)) .nil)) <| .seq (.cond (.t 18) (.skip) (.exit 0)) <| .seq (.block 1 (.seq (.rg (.o none (.idx 19 4 (.t 15) (.t 17)) <|
  .o none (.ld 20 4 true (.t 19)) <|
  .o none (.alloc 7 4 49 (.agg [(.bool false), .nilS, .nilS, .nilS])) <|
  .o none (.st 4 (.t 7) (.t 20)) .nil)) <| .seq (.rg (.o none (.fld 21 3 (.t 7)) <|
  .o none (.ld 22 1 false (.t 21)) <|
  .o none (.mv 23 (.t 1)) <|
  .o none (.call (some 24) false (.c (.fn 122 [] [])) [(.t 22), (.t 23)]) <|
  .o none (.mv 8 (.t 24)) .nil)) <| .seq (.rg (.o none (.mv 25 (.t 4)) <|
  .o none (.mv 26 (.t 8)) <|
  .o none (.call (some 27) false (.c (.fn 134 [] [])) [(.t 25), (.t 26)]) <|
  .o none (.un 28 .not (.t 27)) .nil)) <| .cond (.t 28) (.rg (.o none (.mv 29 (.t 4)) <|
  .o none (.mv 30 (.t 8)) <|
  .o none (.bs 31 1 3 [(.t 30)]) <|
  .o none (.app 32 1 8 3 (.t 29) (.t 31)) <|
  .o none (.mv 4 (.t 32)) .nil)) (.skip))) <| .rg (.o none (.bin 33 .add false (.t 17) (.c (.int .i64 1))) <|
  .o none (.mv 17 (.t 33)) .nil)))) <| .seq (.rg (.o none (.mv 34 (.t 4)) <|
  .o none (.call (some 35) false (.c (.fn 135 [] [])) [(.t 34)]) .nil)) <| .seq (.rg (.o none (.mv 36 (.t 4)) <|
  .o none (.call (some 37) false (.c (.fn 136 [] [])) [(.t 36)]) .nil)) <| .seq (.seq (.rg (.o none (.mv 38 (.t 4)) <|
  .o none (.len 39 (.t 38)) <|
  .o none (.mv 40 (.c (.int .i64 0))) .nil)) <| .block 2 (.loop (.seq (.rg (.o none (.bin 41 .lss false (.t 40) (.t 39)) .nil)) <| .seq (.cond (.t 41) (.skip) (.exit 2)) <| .seq (.block 3 (.seq (.rg (.o none (.idx 42 1 (.t 38) (.t 40)) <|
  .o none (.ld 43 1 false (.t 42)) <|
  .o none (.mv 10 (.t 43)) .nil)) <| .seq (.rg (.o none (.mv 11 (.c .nilS)) .nil)) <| .seq (.seq (.rg (.o none (.mv 44 (.t 0)) <|
  .o none (.len 45 (.t 44)) <|
  .o none (.mv 46 (.c (.int .i64 0))) .nil)) <| .block 4 (.loop (.seq (.rg (.o none (.bin 47 .lss false (.t 46) (.t 45)) .nil)) <| .seq (.cond (.t 47) (.skip) (.exit 4)) <| .seq (.block 5 (.seq (.rg (.o none (.idx 48 4 (.t 44) (.t 46)) <|
  .o none (.ld 49 4 true (.t 48)) <|
  .o none (.alloc 13 4 49 (.agg [(.bool false), .nilS, .nilS, .nilS])) <|
  .o none (.st 4 (.t 13) (.t 49)) .nil)) <| .seq (.rg (.o none (.fld 50 3 (.t 13)) <|
  .o none (.ld 51 1 false (.t 50)) <|
  .o none (.mv 52 (.t 1)) <|
  .o none (.call (some 53) false (.c (.fn 122 [] [])) [(.t 51), (.t 52)]) <|
  .o none (.mv 54 (.t 10)) <|
  .o none (.bin 55 .eql false (.t 53) (.t 54)) .nil)) <| .cond (.t 55) (.seq (.rg (.o none (.fld 56 3 (.t 13)) <|
  .o none (.ld 57 1 false (.t 56)) <|
  .o none (.app 58 1 8 3 (.c .nilS) (.t 57)) <|
  .o none (.mv 14 (.t 58)) .nil)) <| .seq (.seq (.rg (.o none (.mv 59 (.t 10)) <|
  .o none (.bin 60 .gtr false (.t 59) (.c (.int .i64 0))) .nil)) <| .cond (.t 60) (.rg (.o none (.mv 61 (.t 14)) <|
  .o none (.mv 62 (.t 1)) <|
  .o none (.idx 63 1 (.t 61) (.t 62)) <|
  .o none (.st 1 (.t 63) (.c (.int .i64 0))) .nil)) (.skip)) <| .rg (.o none (.mv 64 (.t 11)) <|
  .o none (.fld 65 0 (.t 13)) <|
  .o none (.ld 66 3 true (.t 65)) <|
  .o none (.mv 67 (.t 14)) <|
  .o none (.call (some 68) true (.c (.fn 93 [] [])) [(.t 67)]) <|
  .o none (.bld 69 [(.bool false), .nilS, .nilS, .nilS] [(0, 3, (.t 66)), (3, 1, (.t 68))]) <|
  .o none (.bs 70 4 49 [(.t 69)]) <|
  .o none (.app 71 4 80 49 (.t 64) (.t 70)) <|
  .o none (.mv 11 (.t 71)) .nil)) (.skip))) <| .rg (.o none (.bin 72 .add false (.t 46) (.c (.int .i64 1))) <|
  .o none (.mv 46 (.t 72)) .nil)))) <| .rg (.o none (.mv 73 (.t 5)) <|
  .o none (.mv 74 (.t 11)) <|
  .o none (.bs 75 1 23 [(.t 74)]) <|
  .o none (.app 76 1 24 23 (.t 73) (.t 75)) <|
  .o none (.mv 5 (.t 76)) .nil))) <| .rg (.o none (.bin 77 .add false (.t 40) (.c (.int .i64 1))) <|
  .o none (.mv 40 (.t 77)) .nil)))) <| .seq (.rg (.o none (.mv 78 (.t 4)) <|
  .o none (.mv 79 (.t 5)) <|
  .o none (.mv 4 (.t 78)) <|
  .o none (.mv 5 (.t 79)) .nil)) <| .ret⟩
theorem c99_ok : compileF Tryz.prog Tryz.f99 = some c99 := by kernel_rfl
def c47 : SFn := ⟨70, [.t 6, .t 7], .seq (.rg (.o none (.mv 6 (.c .nilS)) <|
  .o none (.mv 7 (.c (.int .i64 0))) .nil)) <| .seq (.seq (.rg (.o none (.mv 13 (.t 1)) <|
  .o none (.bin 14 .lss false (.t 13) (.c (.int .i64 0))) <|
  .o none (.mv 15 (.t 14)) <|
  .o (some (15, false)) (.mv 16 (.t 1)) <|
  .o (some (15, false)) (.bin 17 .geq false (.t 16) (.c (.int .i64 64))) <|
  .o none (.pick 18 (.t 15) (.c (.bool true)) (.t 17)) .nil)) <| .cond (.t 18) (.seq (.rg (.o none (.mv 6 (.c .nilS)) <|
  .o none (.mv 7 (.c (.int .i64 2))) .nil)) <| .ret) (.skip)) <| .seq (.rg (.o none (.mv 20 (.t 0)) <|
  .o none (.mv 21 (.t 1)) <|
  .o none (.call (some 22) false (.c (.fn 99 [] [])) [(.t 20), (.t 21)]) <|
  .o none (.mv 19 (.t 22)) <|
  .o none (.ext 23 (.t 19) 0) <|
  .o none (.ext 24 (.t 19) 1) <|
  .o none (.mv 8 (.t 23)) <|
  .o none (.mv 9 (.t 24)) .nil)) <| .seq (.seq (.rg (.o none (.mv 25 (.t 8)) <|
  .o none (.len 26 (.t 25)) <|
  .o none (.bin 27 .eql false (.t 26) (.c (.int .i64 0))) .nil)) <| .cond (.t 27) (.seq (.rg (.o none (.mv 6 (.c .nilS)) <|
  .o none (.mv 7 (.c (.int .i64 0))) .nil)) <| .ret) (.skip)) <| .seq (.seq (.rg (.o none (.mv 28 (.t 8)) <|
  .o none (.idx 29 1 (.t 28) (.c (.int .i64 0))) <|
  .o none (.ld 30 1 false (.t 29)) <|
  .o none (.bin 31 .gtr false (.t 30) (.c (.int .i64 4000))) .nil)) <| .cond (.t 31) (.seq (.rg (.o none (.mv 6 (.c .nilS)) <|
  .o none (.mv 7 (.c (.int .i64 4))) .nil)) <| .ret) (.skip)) <| .seq (.rg (.o none (.mv 32 (.t 9)) <|
  .o none (.idx 33 1 (.t 32) (.c (.int .i64 0))) <|
  .o none (.ld 34 1 false (.t 33)) <|
  .o none (.mv 10 (.t 34)) <|
  .o none (.mv 11 (.c (.int .i64 1))) .nil)) <| .seq (.seq (.rg (.o none (.mv 35 (.t 8)) <|
  .o none (.idx 36 1 (.t 35) (.c (.int .i64 0))) <|
  .o none (.ld 37 1 false (.t 36)) <|
  .o none (.bin 38 .sub false (.t 37) (.c (.int .i64 1))) <|
  .o none (.mv 12 (.t 38)) .nil)) <| .block 0 (.loop (.seq (.seq (.rg (.o none (.mv 39 (.t 10)) <|
  .o none (.call (some 40) false (.c (.fn 59 [] [])) [(.t 39)]) <|
  .o none (.un 41 .not (.t 40)) .nil)) <| .cond (.t 41) (.skip) (.exit 0)) <| .seq (.block 1 (.seq (.seq (.rg (.o none (.mv 44 (.t 12)) <|
  .o none (.bin 45 .lss false (.t 44) (.c (.int .i64 0))) .nil)) <| .cond (.t 45) (.seq (.rg (.o none (.mv 46 (.t 10)) <|
  .o none (.mv 6 (.t 46)) <|
  .o none (.mv 7 (.c (.int .i64 0))) .nil)) <| .ret) (.skip)) <| .seq (.rg (.o none (.mv 47 (.t 10)) <|
  .o none (.mv 48 (.t 2)) <|
  .o none (.call (some 49) false (.c (.fn 39 [] [])) [(.t 47), (.t 48)]) <|
  .o none (.mv 10 (.t 49)) .nil)) <| .seq (.rg (.o none (.mv 50 (.t 11)) <|
  .o none (.mv 51 (.t 9)) <|
  .o none (.len 52 (.t 51)) <|
  .o none (.bin 53 .lss false (.t 50) (.t 52)) <|
  .o none (.mv 54 (.t 53)) <|
  .o (some (54, true)) (.mv 55 (.t 8)) <|
  .o (some (54, true)) (.mv 56 (.t 11)) <|
  .o (some (54, true)) (.idx 57 1 (.t 55) (.t 56)) <|
  .o (some (54, true)) (.ld 58 1 false (.t 57)) <|
  .o (some (54, true)) (.mv 59 (.t 12)) <|
  .o (some (54, true)) (.bin 60 .eql false (.t 58) (.t 59)) <|
  .o none (.pick 61 (.t 54) (.t 60) (.c (.bool false))) .nil)) <| .cond (.t 61) (.seq (.rg (.o none (.mv 62 (.t 10)) <|
  .o none (.mv 63 (.t 9)) <|
  .o none (.mv 64 (.t 11)) <|
  .o none (.idx 65 1 (.t 63) (.t 64)) <|
  .o none (.ld 66 1 false (.t 65)) <|
  .o none (.call (some 67) false (.c (.fn 35 [] [])) [(.t 62), (.t 66)]) <|
  .o none (.mv 10 (.t 67)) .nil)) <| .rg (.o none (.mv 68 (.t 11)) <|
  .o none (.bin 69 .add false (.t 68) (.c (.int .i64 1))) <|
  .o none (.mv 11 (.t 69)) .nil)) (.skip))) <| .rg (.o none (.mv 42 (.t 12)) <|
  .o none (.bin 43 .sub false (.t 42) (.c (.int .i64 1))) <|
  .o none (.mv 12 (.t 43)) .nil)))) <| .seq (.rg (.o none (.mv 6 (.c .nilS)) <|
  .o none (.mv 7 (.c (.int .i64 4))) .nil)) <| .ret⟩
theorem c47_ok : compileF Tryz.prog Tryz.f47 = some c47 := by kernel_rfl
def c134 : SFn := ⟨9, [.t 4], .seq (.rg (.o none (.mv 4 (.c (.bool false))) .nil)) <| .seq (.rg (.o none (.mv 5 (.t 0)) <|
  .o none (.mv 6 (.t 1)) <|
  .o none (.call (some 7) false (.c (.fn 160 [] [])) [(.t 5), (.t 6)]) <|
  .o none (.bin 8 .geq false (.t 7) (.c (.int .i64 0))) <|
  .o none (.mv 4 (.t 8)) .nil)) <| .ret⟩
theorem c134_ok : compileF Tryz.prog Tryz.f134 = some c134 := by kernel_rfl
def c160 : SFn := ⟨19, [.t 4], .seq (.rg (.o none (.mv 4 (.c (.int .i64 0))) .nil)) <| .seq (.seq (.rg (.o none (.mv 6 (.t 0)) <|
  .o none (.len 7 (.t 6)) <|
  .o none (.mv 8 (.c (.int .i64 0))) .nil)) <| .block 0 (.loop (.seq (.rg (.o none (.bin 9 .lss false (.t 8) (.t 7)) .nil)) <| .seq (.cond (.t 9) (.skip) (.exit 0)) <| .seq (.block 1 (.seq (.rg (.o none (.mv 10 (.t 8)) <|
  .o none (.mv 5 (.t 10)) .nil)) <| .seq (.rg (.o none (.mv 11 (.t 1)) <|
  .o none (.mv 12 (.t 0)) <|
  .o none (.mv 13 (.t 5)) <|
  .o none (.idx 14 1 (.t 12) (.t 13)) <|
  .o none (.ld 15 1 false (.t 14)) <|
  .o none (.bin 16 .eql false (.t 11) (.t 15)) .nil)) <| .cond (.t 16) (.seq (.rg (.o none (.mv 17 (.t 5)) <|
  .o none (.mv 4 (.t 17)) .nil)) <| .ret) (.skip))) <| .rg (.o none (.bin 18 .add false (.t 8) (.c (.int .i64 1))) <|
  .o none (.mv 8 (.t 18)) .nil)))) <| .seq (.rg (.o none (.mv 4 (.c (.int .i64 (-1)))) .nil)) <| .ret⟩
theorem c160_ok : compileF Tryz.prog Tryz.f160 = some c160 := by kernel_rfl
def c135 : SFn := ⟨11, [], .seq (.rg (.o none (.mv 3 (.t 0)) <|
  .o none (.len 4 (.t 3)) <|
  .o none (.mv 2 (.t 4)) .nil)) <| .rg (.o none (.mv 5 (.t 0)) <|
  .o none (.mv 6 (.t 2)) <|
  .o none (.mv 7 (.t 2)) <|
  .o none (.conv 8 .u64 (.t 7)) <|
  .o none (.call (some 9) false (.c (.fn 162 [] [])) [(.t 8)]) <|
  .o none (.call (some 10) false (.c (.fn 161 [] [])) [(.t 5), (.c (.int .i64 0)), (.t 6), (.t 9)]) .nil)⟩
theorem c135_ok : compileF Tryz.prog Tryz.f135 = some c135 := by kernel_rfl
def c136 : SFn := ⟨28, [], .seq (.rg (.o none (.mv 4 (.t 0)) <|
  .o none (.len 5 (.t 4)) <|
  .o none (.bin 6 .sub false (.t 5) (.c (.int .i64 1))) <|
  .o none (.mv 2 (.c (.int .i64 0))) <|
  .o none (.mv 3 (.t 6)) .nil)) <| .block 0 (.loop (.seq (.seq (.rg (.o none (.mv 7 (.t 2)) <|
  .o none (.mv 8 (.t 3)) <|
  .o none (.bin 9 .lss false (.t 7) (.t 8)) .nil)) <| .cond (.t 9) (.skip) (.exit 0)) <| .seq (.block 1 (.rg (.o none (.mv 14 (.t 0)) <|
  .o none (.mv 15 (.t 2)) <|
  .o none (.mv 16 (.t 0)) <|
  .o none (.mv 17 (.t 3)) <|
  .o none (.mv 18 (.t 0)) <|
  .o none (.mv 19 (.t 3)) <|
  .o none (.idx 20 1 (.t 18) (.t 19)) <|
  .o none (.ld 21 1 false (.t 20)) <|
  .o none (.mv 22 (.t 0)) <|
  .o none (.mv 23 (.t 2)) <|
  .o none (.idx 24 1 (.t 22) (.t 23)) <|
  .o none (.ld 25 1 false (.t 24)) <|
  .o none (.idx 26 1 (.t 14) (.t 15)) <|
  .o none (.st 1 (.t 26) (.t 21)) <|
  .o none (.idx 27 1 (.t 16) (.t 17)) <|
  .o none (.st 1 (.t 27) (.t 25)) .nil))) <| .rg (.o none (.mv 10 (.t 2)) <|
  .o none (.bin 11 .add false (.t 10) (.c (.int .i64 1))) <|
  .o none (.mv 12 (.t 3)) <|
  .o none (.bin 13 .sub false (.t 12) (.c (.int .i64 1))) <|
  .o none (.mv 2 (.t 11)) <|
  .o none (.mv 3 (.t 13)) .nil)))⟩
theorem c136_ok : compileF Tryz.prog Tryz.f136 = some c136 := by kernel_rfl
def c161 : SFn := ⟨134, [], .seq (.rg (.o none (.mv 8 (.c (.bool true))) .nil)) <| .seq (.rg (.o none (.mv 9 (.c (.bool true))) .nil)) <| .block 0 (.loop (.block 1 (.seq (.rg (.o none (.mv 19 (.t 2)) <|
  .o none (.mv 20 (.t 1)) <|
  .o none (.bin 21 .sub false (.t 19) (.t 20)) <|
  .o none (.mv 10 (.t 21)) .nil)) <| .seq (.seq (.rg (.o none (.mv 22 (.t 10)) <|
  .o none (.bin 23 .leq false (.t 22) (.c (.int .i64 12))) .nil)) <| .cond (.t 23) (.seq (.rg (.o none (.mv 24 (.t 0)) <|
  .o none (.mv 25 (.t 1)) <|
  .o none (.mv 26 (.t 2)) <|
  .o none (.call (some 27) false (.c (.fn 171 [] [])) [(.t 24), (.t 25), (.t 26)]) .nil)) <| .ret) (.skip)) <| .seq (.seq (.rg (.o none (.mv 28 (.t 3)) <|
  .o none (.bin 29 .eql false (.t 28) (.c (.int .i64 0))) .nil)) <| .cond (.t 29) (.seq (.rg (.o none (.mv 30 (.t 0)) <|
  .o none (.mv 31 (.t 1)) <|
  .o none (.mv 32 (.t 2)) <|
  .o none (.call (some 33) false (.c (.fn 172 [] [])) [(.t 30), (.t 31), (.t 32)]) .nil)) <| .ret) (.skip)) <| .seq (.seq (.rg (.o none (.mv 34 (.t 8)) <|
  .o none (.un 35 .not (.t 34)) .nil)) <| .cond (.t 35) (.seq (.rg (.o none (.mv 36 (.t 0)) <|
  .o none (.mv 37 (.t 1)) <|
  .o none (.mv 38 (.t 2)) <|
  .o none (.call (some 39) false (.c (.fn 173 [] [])) [(.t 36), (.t 37), (.t 38)]) .nil)) <| .rg (.o none (.mv 40 (.t 3)) <|
  .o none (.bin 41 .sub false (.t 40) (.c (.int .i64 1))) <|
  .o none (.mv 3 (.t 41)) .nil)) (.skip)) <| .seq (.rg (.o none (.mv 43 (.t 0)) <|
  .o none (.mv 44 (.t 1)) <|
  .o none (.mv 45 (.t 2)) <|
  .o none (.call (some 46) false (.c (.fn 174 [] [])) [(.t 43), (.t 44), (.t 45)]) <|
  .o none (.mv 42 (.t 46)) <|
  .o none (.ext 47 (.t 42) 0) <|
  .o none (.ext 48 (.t 42) 1) <|
  .o none (.mv 11 (.t 47)) <|
  .o none (.mv 12 (.t 48)) .nil)) <| .seq (.seq (.rg (.o none (.mv 49 (.t 12)) <|
  .o none (.bin 50 .eql false (.t 49) (.c (.int .i64 2))) .nil)) <| .cond (.t 50) (.seq (.rg (.o none (.mv 51 (.t 0)) <|
  .o none (.mv 52 (.t 1)) <|
  .o none (.mv 53 (.t 2)) <|
  .o none (.call (some 54) false (.c (.fn 175 [] [])) [(.t 51), (.t 52), (.t 53)]) .nil)) <| .seq (.rg (.o none (.mv 55 (.t 2)) <|
  .o none (.bin 56 .sub false (.t 55) (.c (.int .i64 1))) <|
  .o none (.mv 57 (.t 11)) <|
  .o none (.mv 58 (.t 1)) <|
  .o none (.bin 59 .sub false (.t 57) (.t 58)) <|
  .o none (.bin 60 .sub false (.t 56) (.t 59)) <|
  .o none (.mv 11 (.t 60)) .nil)) <| .rg (.o none (.mv 12 (.c (.int .i64 1))) .nil)) (.skip)) <| .seq (.seq (.rg (.o none (.mv 61 (.t 8)) <|
  .o none (.mv 62 (.t 61)) <|
  .o (some (62, true)) (.mv 63 (.t 9)) <|
  .o none (.pick 64 (.t 62) (.t 63) (.c (.bool false))) <|
  .o none (.mv 65 (.t 64)) <|
  .o (some (65, true)) (.mv 66 (.t 12)) <|
  .o (some (65, true)) (.bin 67 .eql false (.t 66) (.c (.int .i64 1))) <|
  .o none (.pick 68 (.t 65) (.t 67) (.c (.bool false))) .nil)) <| .cond (.t 68) (.seq (.rg (.o none (.mv 69 (.t 0)) <|
  .o none (.mv 70 (.t 1)) <|
  .o none (.mv 71 (.t 2)) <|
  .o none (.call (some 72) false (.c (.fn 176 [] [])) [(.t 69), (.t 70), (.t 71)]) .nil)) <| .cond (.t 72) (.ret) (.skip)) (.skip)) <| .seq (.seq (.rg (.o none (.mv 73 (.t 1)) <|
  .o none (.bin 74 .gtr false (.t 73) (.c (.int .i64 0))) <|
  .o none (.mv 75 (.t 74)) <|
  .o (some (75, true)) (.mv 76 (.t 0)) <|
  .o (some (75, true)) (.mv 77 (.t 1)) <|
  .o (some (75, true)) (.bin 78 .sub false (.t 77) (.c (.int .i64 1))) <|
  .o (some (75, true)) (.idx 79 1 (.t 76) (.t 78)) <|
  .o (some (75, true)) (.ld 80 1 false (.t 79)) <|
  .o (some (75, true)) (.mv 81 (.t 0)) <|
  .o (some (75, true)) (.mv 82 (.t 11)) <|
  .o (some (75, true)) (.idx 83 1 (.t 81) (.t 82)) <|
  .o (some (75, true)) (.ld 84 1 false (.t 83)) <|
  .o (some (75, true)) (.call (some 85) false (.c (.fn 177 [] [])) [(.t 80), (.t 84)]) <|
  .o (some (75, true)) (.un 86 .not (.t 85)) <|
  .o none (.pick 87 (.t 75) (.t 86) (.c (.bool false))) .nil)) <| .cond (.t 87) (.seq (.rg (.o none (.mv 88 (.t 0)) <|
  .o none (.mv 89 (.t 1)) <|
  .o none (.mv 90 (.t 2)) <|
  .o none (.mv 91 (.t 11)) <|
  .o none (.call (some 92) false (.c (.fn 178 [] [])) [(.t 88), (.t 89), (.t 90), (.t 91)]) <|
  .o none (.mv 13 (.t 92)) .nil)) <| .seq (.rg (.o none (.mv 93 (.t 13)) <|
  .o none (.mv 1 (.t 93)) .nil)) <| .exit 1) (.skip)) <| .seq (.rg (.o none (.mv 95 (.t 0)) <|
  .o none (.mv 96 (.t 1)) <|
  .o none (.mv 97 (.t 2)) <|
  .o none (.mv 98 (.t 11)) <|
  .o none (.call (some 99) false (.c (.fn 179 [] [])) [(.t 95), (.t 96), (.t 97), (.t 98)]) <|
  .o none (.mv 94 (.t 99)) <|
  .o none (.ext 100 (.t 94) 0) <|
  .o none (.ext 101 (.t 94) 1) <|
  .o none (.mv 14 (.t 100)) <|
  .o none (.mv 15 (.t 101)) .nil)) <| .seq (.rg (.o none (.mv 102 (.t 15)) <|
  .o none (.mv 9 (.t 102)) .nil)) <| .seq (.rg (.o none (.mv 103 (.t 14)) <|
  .o none (.mv 104 (.t 1)) <|
  .o none (.bin 105 .sub false (.t 103) (.t 104)) <|
  .o none (.mv 106 (.t 2)) <|
  .o none (.mv 107 (.t 14)) <|
  .o none (.bin 108 .sub false (.t 106) (.t 107)) <|
  .o none (.mv 16 (.t 105)) <|
  .o none (.mv 17 (.t 108)) .nil)) <| .seq (.rg (.o none (.mv 109 (.t 10)) <|
  .o none (.bin 110 .quo false (.t 109) (.c (.int .i64 8))) <|
  .o none (.mv 18 (.t 110)) .nil)) <| .seq (.rg (.o none (.mv 111 (.t 16)) <|
  .o none (.mv 112 (.t 17)) <|
  .o none (.bin 113 .lss false (.t 111) (.t 112)) .nil)) <| .cond (.t 113) (.seq (.rg (.o none (.mv 114 (.t 16)) <|
  .o none (.mv 115 (.t 18)) <|
  .o none (.bin 116 .geq false (.t 114) (.t 115)) <|
  .o none (.mv 8 (.t 116)) .nil)) <| .seq (.rg (.o none (.mv 117 (.t 0)) <|
  .o none (.mv 118 (.t 1)) <|
  .o none (.mv 119 (.t 14)) <|
  .o none (.mv 120 (.t 3)) <|
  .o none (.call (some 121) false (.c (.fn 161 [] [])) [(.t 117), (.t 118), (.t 119), (.t 120)]) .nil)) <| .rg (.o none (.mv 122 (.t 14)) <|
  .o none (.bin 123 .add false (.t 122) (.c (.int .i64 1))) <|
  .o none (.mv 1 (.t 123)) .nil)) (.seq (.rg (.o none (.mv 124 (.t 17)) <|
  .o none (.mv 125 (.t 18)) <|
  .o none (.bin 126 .geq false (.t 124) (.t 125)) <|
  .o none (.mv 8 (.t 126)) .nil)) <| .seq (.rg (.o none (.mv 127 (.t 0)) <|
  .o none (.mv 128 (.t 14)) <|
  .o none (.bin 129 .add false (.t 128) (.c (.int .i64 1))) <|
  .o none (.mv 130 (.t 2)) <|
  .o none (.mv 131 (.t 3)) <|
  .o none (.call (some 132) false (.c (.fn 161 [] [])) [(.t 127), (.t 129), (.t 130), (.t 131)]) .nil)) <| .rg (.o none (.mv 133 (.t 14)) <|
  .o none (.mv 2 (.t 133)) .nil)))))⟩
theorem c161_ok : compileF Tryz.prog Tryz.f161 = some c161 := by kernel_rfl
def c171 : SFn := ⟨49, [], .seq (.rg (.o none (.mv 8 (.t 1)) <|
  .o none (.bin 9 .add false (.t 8) (.c (.int .i64 1))) <|
  .o none (.mv 6 (.t 9)) .nil)) <| .block 0 (.loop (.seq (.seq (.rg (.o none (.mv 10 (.t 6)) <|
  .o none (.mv 11 (.t 2)) <|
  .o none (.bin 12 .lss false (.t 10) (.t 11)) .nil)) <| .cond (.t 12) (.skip) (.exit 0)) <| .seq (.block 1 (.seq (.rg (.o none (.mv 15 (.t 6)) <|
  .o none (.mv 7 (.t 15)) .nil)) <| .block 2 (.loop (.seq (.seq (.rg (.o none (.mv 16 (.t 7)) <|
  .o none (.mv 17 (.t 1)) <|
  .o none (.bin 18 .gtr false (.t 16) (.t 17)) <|
  .o none (.mv 19 (.t 18)) <|
  .o (some (19, true)) (.mv 20 (.t 0)) <|
  .o (some (19, true)) (.mv 21 (.t 7)) <|
  .o (some (19, true)) (.idx 22 1 (.t 20) (.t 21)) <|
  .o (some (19, true)) (.ld 23 1 false (.t 22)) <|
  .o (some (19, true)) (.mv 24 (.t 0)) <|
  .o (some (19, true)) (.mv 25 (.t 7)) <|
  .o (some (19, true)) (.bin 26 .sub false (.t 25) (.c (.int .i64 1))) <|
  .o (some (19, true)) (.idx 27 1 (.t 24) (.t 26)) <|
  .o (some (19, true)) (.ld 28 1 false (.t 27)) <|
  .o (some (19, true)) (.call (some 29) false (.c (.fn 177 [] [])) [(.t 23), (.t 28)]) <|
  .o none (.pick 30 (.t 19) (.t 29) (.c (.bool false))) .nil)) <| .cond (.t 30) (.skip) (.exit 2)) <| .seq (.block 3 (.rg (.o none (.mv 33 (.t 0)) <|
  .o none (.mv 34 (.t 7)) <|
  .o none (.mv 35 (.t 0)) <|
  .o none (.mv 36 (.t 7)) <|
  .o none (.bin 37 .sub false (.t 36) (.c (.int .i64 1))) <|
  .o none (.mv 38 (.t 0)) <|
  .o none (.mv 39 (.t 7)) <|
  .o none (.bin 40 .sub false (.t 39) (.c (.int .i64 1))) <|
  .o none (.idx 41 1 (.t 38) (.t 40)) <|
  .o none (.ld 42 1 false (.t 41)) <|
  .o none (.mv 43 (.t 0)) <|
  .o none (.mv 44 (.t 7)) <|
  .o none (.idx 45 1 (.t 43) (.t 44)) <|
  .o none (.ld 46 1 false (.t 45)) <|
  .o none (.idx 47 1 (.t 33) (.t 34)) <|
  .o none (.st 1 (.t 47) (.t 42)) <|
  .o none (.idx 48 1 (.t 35) (.t 37)) <|
  .o none (.st 1 (.t 48) (.t 46)) .nil))) <| .rg (.o none (.mv 31 (.t 7)) <|
  .o none (.bin 32 .sub false (.t 31) (.c (.int .i64 1))) <|
  .o none (.mv 7 (.t 32)) .nil))))) <| .rg (.o none (.mv 13 (.t 6)) <|
  .o none (.bin 14 .add false (.t 13) (.c (.int .i64 1))) <|
  .o none (.mv 6 (.t 14)) .nil)))⟩
theorem c171_ok : compileF Tryz.prog Tryz.f171 = some c171 := by kernel_rfl
def c177 : SFn := ⟨17, [.t 4], .seq (.rg (.o none (.mv 4 (.c (.bool false))) .nil)) <| .seq (.rg (.o none (.mv 5 (.t 0)) <|
  .o none (.call (some 6) false (.c (.fn 191 [] [])) [(.t 5)]) <|
  .o none (.mv 7 (.t 6)) <|
  .o (some (7, true)) (.mv 8 (.t 1)) <|
  .o (some (7, true)) (.call (some 9) false (.c (.fn 191 [] [])) [(.t 8)]) <|
  .o (some (7, true)) (.un 10 .not (.t 9)) <|
  .o none (.pick 11 (.t 7) (.t 10) (.c (.bool false))) <|
  .o none (.mv 12 (.t 11)) <|
  .o (some (12, false)) (.mv 13 (.t 0)) <|
  .o (some (12, false)) (.mv 14 (.t 1)) <|
  .o (some (12, false)) (.bin 15 .lss false (.t 13) (.t 14)) <|
  .o none (.pick 16 (.t 12) (.c (.bool true)) (.t 15)) <|
  .o none (.mv 4 (.t 16)) .nil)) <| .ret⟩
theorem c177_ok : compileF Tryz.prog Tryz.f177 = some c177 := by kernel_rfl
def c191 : SFn := ⟨6, [.t 2], .seq (.rg (.o none (.mv 2 (.c (.bool false))) .nil)) <| .seq (.rg (.o none (.mv 3 (.t 0)) <|
  .o none (.mv 4 (.t 0)) <|
  .o none (.bin 5 .neq false (.t 3) (.t 4)) <|
  .o none (.mv 2 (.t 5)) .nil)) <| .ret⟩
theorem c191_ok : compileF Tryz.prog Tryz.f191 = some c191 := by kernel_rfl
def c162 : SFn := ⟨8, [.t 2], .seq (.rg (.o none (.mv 2 (.c (.int .i64 0))) .nil)) <| .seq (.cond (.c (.bool false)) (.seq (.rg (.o none (.mv 3 (.t 0)) <|
  .o none (.conv 4 .u32 (.t 3)) <|
  .o none (.call (some 5) false (.c (.fn 180 [] [])) [(.t 4)]) <|
  .o none (.mv 2 (.t 5)) .nil)) <| .ret) (.skip)) <| .seq (.rg (.o none (.mv 6 (.t 0)) <|
  .o none (.call (some 7) false (.c (.fn 181 [] [])) [(.t 6)]) <|
  .o none (.mv 2 (.t 7)) .nil)) <| .ret⟩
theorem c162_ok : compileF Tryz.prog Tryz.f162 = some c162 := by kernel_rfl
end Go.Proofs.YtfhmockdgbkpnaaGreat
namespace Go.FW
open Go
abbrev Srt (l : List Int) : Prop := l.Pairwise (· ≤ ·)
theorem get_app {A R : List Int} {x : Int} {j : Nat} (h : A.length = j) (hl : j < (A ++ x :: R).length) : (A ++ x :: R)[j] = x := by
  subst h; simp
theorem get_app1 {A R : List Int} {a x : Int} {j : Nat} (h : A.length = j) (hl : j + 1 < (A ++ a :: x :: R).length) : (A ++ a :: x :: R)[j + 1] = x := by
  subst h; simp
theorem swap_app {A R : List Int} {a x : Int} {j : Nat} (h : A.length = j) : ((A ++ a :: x :: R).set (j + 1) a).set j x = A ++ x :: a :: R := by
  subst h
  rw [List.set_append_right _ _ (by omega), show A.length + 1 - A.length = 1 by omega, List.set_cons_succ, List.set_cons_zero, List.set_append_right _ _ (by omega), Nat.sub_self, List.set_cons_zero]
theorem srt_insert {A B : List Int} {x : Int} (hs : Srt (A ++ B)) (hA : ∀ a, A.getLast? = some a → a ≤ x) (hB : ∀ b ∈ B, x ≤ b) : Srt (A ++ x :: B) := by
  rw [Srt, List.pairwise_append] at hs ⊢
  obtain ⟨h1, h2, h3⟩ := hs
  have hAx : ∀ a ∈ A, a ≤ x := fun a ha => by
    rcases List.eq_nil_or_concat A with h | ⟨A', l, h⟩
    · subst h; cases ha
    · have h' : A = A' ++ [l] := by simpa using h
      subst h'
      have hl := hA l (by simp)
      rw [List.pairwise_append] at h1
      rcases List.mem_append.1 ha with ha | ha
      · have := h1.2.2 a ha l (by simp); omega
      · simp only [List.mem_singleton] at ha; subst ha; exact hl
  refine ⟨h1, List.pairwise_cons.2 ⟨hB, h2⟩, fun a ha b hb => ?_⟩
  rcases List.mem_cons.1 hb with rfl | hb
  · exact hAx a ha
  · exact h3 a ha b hb
end Go.FW
