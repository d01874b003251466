/- PolyEvals holds, for arguments of bulk at most 1048576. -/
import Derived.Test.YtfhmockdgbkpnaaGreatPolyEvalsPart6
set_option linter.unusedSimpArgs false
set_option linter.unnecessarySimpa false
set_option linter.unusedVariables false
namespace Go.Proofs.YtfhmockdgbkpnaaGreat
open Go Go.FW
set_option linter.unusedSimpArgs false
set_option linter.unusedVariables false
set_option maxRecDepth 100000
theorem r6_power_spec (n : Nat) : ∀ (a : Rat), rs a * n ≤ 2 ^ 32 → n ≤ 2 ^ 40 → FnSpec Tryz.prog 65 [PV.rat a, .int .i64 n] (· = PV.rat (qpow a n)) := by
  have h1 := rs_1
  have h1' : ((1 : Int) : Rat) = 1 := rfl
  induction n using Nat.strongRecOn with
  | ind n ih =>
    intro a hB hn
    have e2 : (2 : Int) = ((2 : Nat) : Int) := rfl
    have hrem : ∀ d fr hp K, binK .rem false (.int .i64 (n : Int)) (.int .i64 2) d fr hp K = K (upd fr d (.int .i64 ((n % 2 : Nat) : Int))) hp := fun d fr hp K => by
      rw [e2, rem_nat (by omega)]
    have hquo : ∀ d fr hp K, binK .quo false (.int .i64 (n : Int)) (.int .i64 2) d fr hp K = K (upd fr d (.int .i64 ((n / 2 : Nat) : Int))) hp := fun d fr hp K => by
      rw [e2, quo_i64 (by omega) (by omega)]
    refine fn_of_vc mixed Tryz.func65 rfl c65_ok (by simp [c65]) fun C hP => ?_; simp only [c65]
    simp +decide (disch := first | omega | rfl | (simp +decide only [go_sem, ↓reduceIte] <;> rfl) | fail) only [go_sem, ↓reduceIte, rem64K, quo64K, remI64K, quoI64K, mulK64, mk_empty, sl_3n, app_nil_map, mk_i64, max_nat]
    refine cond_split (fun h0 => ?_) (fun h0 => ?_)
    · obtain rfl : n = 0 := by omega
      simp +decide (disch := first | omega | rfl | (simp +decide only [go_sem, ↓reduceIte] <;> rfl) | fail) only [go_sem, ↓reduceIte, rem64K, quo64K, remI64K, quoI64K, mulK64, mk_empty, sl_3n, app_nil_map, mk_i64, max_nat]
      refine call_eq0 hP (r3_Of_spec (x := 1) (by omega) (by omega)) rfl rfl rfl ?_
      simp +decide (disch := first | omega | rfl | (simp +decide only [go_sem, ↓reduceIte] <;> rfl) | fail) only [go_sem, ↓reduceIte, rem64K, quo64K, remI64K, quoI64K, mulK64, mk_empty, sl_3n, app_nil_map, mk_i64, max_nat]
      refine ret_1 ?_
      simp +decide (disch := first | omega | rfl | (simp +decide only [go_sem, ↓reduceIte] <;> rfl) | fail) only [go_sem, ↓reduceIte, rem64K, quo64K, remI64K, quoI64K, mulK64, mk_empty, sl_3n, app_nil_map, mk_i64, max_nat]
      exact retV_eq rfl rfl
    have ha : rs a ≤ rs a * n := Nat.le_mul_of_pos_right _ (by omega)
    have hmm := rs_mul a a
    have hd2 : rs (a * a) * (n / 2) ≤ rs a * (2 * (n / 2)) := by
      rw [← Nat.mul_assoc]; exact Nat.mul_le_mul_right _ (by omega)
    have hd3 : rs a * (2 * (n / 2)) ≤ rs a * n := Nat.mul_le_mul_left _ (by omega)
    have hqr := rs_qpow (a * a) (n / 2)
    simp +decide (disch := first | omega | rfl | (simp +decide only [go_sem, ↓reduceIte, hrem, hquo] <;> rfl) | fail) only [go_sem, ↓reduceIte, rem64K, quo64K, remI64K, quoI64K, mulK64, mk_empty, sl_3n, app_nil_map, mk_i64, max_nat, hrem, hquo]
    refine call_eq0 hP (r3_Mul_q (a := a) (b := a) (k := 2 ^ 33) (by omega) (by omega) (by omega)) rfl rfl rfl ?_
    simp +decide (disch := first | omega | rfl | (simp +decide only [go_sem, ↓reduceIte, hrem, hquo] <;> rfl) | fail) only [go_sem, ↓reduceIte, rem64K, quo64K, remI64K, quoI64K, mulK64, mk_empty, sl_3n, app_nil_map, mk_i64, max_nat, hrem, hquo]
    refine call_eq0 hP (ih (n / 2) (by omega) (a * a) (by omega) (by omega)) rfl rfl rfl ?_
    simp +decide (disch := first | omega | rfl | (simp +decide only [go_sem, ↓reduceIte, hrem, hquo] <;> rfl) | fail) only [go_sem, ↓reduceIte, rem64K, quo64K, remI64K, quoI64K, mulK64, mk_empty, sl_3n, app_nil_map, mk_i64, max_nat, hrem, hquo]
    refine cond_split (fun h2 => ?_) (fun h2 => ?_)
    · simp +decide (disch := first | omega | rfl | (simp +decide only [go_sem, ↓reduceIte] <;> rfl) | fail) only [go_sem, ↓reduceIte, rem64K, quo64K, remI64K, quoI64K, mulK64, mk_empty, sl_3n, app_nil_map, mk_i64, max_nat]
      refine call_eq0 hP (r3_Mul_q (a := qpow (a * a) (n / 2)) (b := a) (k := 2 ^ 33) (by omega) (by omega) (by omega)) rfl rfl rfl ?_
      simp +decide (disch := first | omega | rfl | (simp +decide only [go_sem, ↓reduceIte] <;> rfl) | fail) only [go_sem, ↓reduceIte, rem64K, quo64K, remI64K, quoI64K, mulK64, mk_empty, sl_3n, app_nil_map, mk_i64, max_nat]
      refine ret_1 ?_
      simp +decide (disch := first | omega | rfl | (simp +decide only [go_sem, ↓reduceIte] <;> rfl) | fail) only [go_sem, ↓reduceIte, rem64K, quo64K, remI64K, quoI64K, mulK64, mk_empty, sl_3n, app_nil_map, mk_i64, max_nat]
      exact retV_eq (by rw [qpow_half_odd (by omega)]) rfl
    · simp +decide (disch := first | omega | rfl | (simp +decide only [go_sem, ↓reduceIte] <;> rfl) | fail) only [go_sem, ↓reduceIte, rem64K, quo64K, remI64K, quoI64K, mulK64, mk_empty, sl_3n, app_nil_map, mk_i64, max_nat]
      refine ret_1 ?_
      simp +decide (disch := first | omega | rfl | (simp +decide only [go_sem, ↓reduceIte] <;> rfl) | fail) only [go_sem, ↓reduceIte, rem64K, quo64K, remI64K, quoI64K, mulK64, mk_empty, sl_3n, app_nil_map, mk_i64, max_nat]
      exact retV_eq (by rw [qpow_half_even (by omega)]) rfl
theorem r6_Eval_spec {p : List Tm} {vs : List Rat} {K E W : Nat} (hp : PB K E p) (hv : ∀ v ∈ vs, rs v ≤ W) (hW : 1 ≤ W) (hB : 1 + p.length * (K + 64 * (1 + W * E)) + (K + 64 * (1 + W * E)) ≤ 2 ^ 31) (hE : E ≤ 2 ^ 38) (hlp : p.length ≤ 2 ^ 36) (hlv : vs.length ≤ 2 ^ 36) :
    FnSpec Tryz.prog 20 [PV.poly p, PV.rats vs] (· = evR vs p) := by
  have h0 : ((0 : Int) : Rat) = 0 := rfl
  refine fn_of_vc mixed Tryz.func20 rfl c20_ok (by simp [c20]) fun C hP => ?_; simp only [c20]
  simp +decide (disch := first | omega | rfl | (simp +decide only [go_sem, ↓reduceIte] <;> rfl) | fail) only [go_sem, ↓reduceIte, rem64K, quo64K, remI64K, quoI64K, mulK64, mk_empty, sl_3n, app_nil_map, mk_i64, max_nat]
  refine call_eq0 hP (r3_Of_spec (x := 0) (by omega) (by omega)) rfl rfl rfl ?_
  simp +decide (disch := first | omega | rfl | (simp +decide only [go_sem, ↓reduceIte] <;> rfl) | fail) only [go_sem, ↓reduceIte, rem64K, quo64K, remI64K, quoI64K, mulK64, mk_empty, sl_3n, app_nil_map, mk_i64, max_nat]
  refine vc_loopF (by repeat (first | exact okSk_ret | exact okSk_retM | exact okSk_retO | apply okSk_back | apply okSk_out | apply okSk_eb | apply okSk_c | apply okSk_o | apply okSk_again | apply okSk_backW)) [(5, 5), (7, 7), (12, 27)] [] (fun n J hp => ∃ i, n = p.length - i ∧ i ≤ p.length ∧ (∀ t ∈ p.take i, ¬ vs.length < t.2.length) ∧ J 7 = .int .i64 (i : Nat) ∧ hp 4 = some ⟨3, 40, [.agg [.bool false, .nilS, .nilS]], false⟩ ∧ hp 6 = some ⟨3, 40, [PV.rat 0], false⟩) p.length ?_ ?_
  · refine ⟨0, rfl, by omega, by simp, ?_⟩
    simp +decide (disch := first | omega | rfl | (simp +decide only [go_sem, ↓reduceIte] <;> rfl) | fail) only [go_sem, ↓reduceIte, rem64K, quo64K, remI64K, quoI64K, mulK64, mk_empty, sl_3n, app_nil_map, mk_i64, max_nat]
    exact ⟨rfl, rfl⟩
  rintro _ J h ⟨i, rfl, hi, h1, h7, hh4, hh6⟩
  simp +decide (disch := first | omega | rfl | (simp +decide only [go_sem, ↓reduceIte, h7] <;> rfl) | fail) only [go_sem, ↓reduceIte, rem64K, quo64K, remI64K, quoI64K, mulK64, mk_empty, sl_3n, app_nil_map, mk_i64, max_nat, h7]
  refine cond_split (fun hg => ?_) (fun hg => ?_)
  · have hi' : i < p.length := by omega
    have htp := hp.get hi'
    have hmem := List.getElem_mem hi'
    have htk : p.take (i + 1) = p.take i ++ [p[i]] := List.take_succ_eq_append_getElem hi'
    generalize hx : p[i] = x at *
    have hml := htp.m.len
    simp +decide (disch := first | omega | rfl | (simp +decide only [go_sem, ↓reduceIte, h7, hx] <;> rfl) | fail) only [go_sem, ↓reduceIte, rem64K, quo64K, remI64K, quoI64K, mulK64, mk_empty, sl_3n, app_nil_map, mk_i64, max_nat, h7, hx]
    refine cond_split (fun hc => ?_) (fun hc => ?_)
    · have ho : pout vs p = true := by
        unfold pout; rw [List.any_eq_true]; exact ⟨x, hmem, decide_eq_true (by omega)⟩
      simp +decide (disch := first | omega | rfl | (simp +decide only [go_sem, ↓reduceIte, hh4] <;> rfl) | fail) only [go_sem, ↓reduceIte, rem64K, quo64K, remI64K, quoI64K, mulK64, mk_empty, sl_3n, app_nil_map, mk_i64, max_nat, hh4]
      refine ret_2 ?_
      simp +decide (disch := first | omega | rfl | (simp +decide only [go_sem, ↓reduceIte] <;> rfl) | fail) only [go_sem, ↓reduceIte, rem64K, quo64K, remI64K, quoI64K, mulK64, mk_empty, sl_3n, app_nil_map, mk_i64, max_nat]
      exact ret2 (p' := PV.rr false [] []) (q' := .int .i64 2) (by rw [evR, if_pos ho]) rfl rfl ⟨rfl, trivial, trivial, trivial⟩ (le_refl _)
    · simp +decide (disch := first | omega | rfl | (simp +decide only [go_sem, ↓reduceIte, h7] <;> rfl) | fail) only [go_sem, ↓reduceIte, rem64K, quo64K, remI64K, quoI64K, mulK64, mk_empty, sl_3n, app_nil_map, mk_i64, max_nat, h7]
      refine back_ovr (p.length - (i + 1)) (by omega) ⟨i + 1, rfl, by omega, ?_, ?_⟩
      · rw [htk]
        intro z hz
        rcases List.mem_append.1 hz with hz | hz
        · exact h1 z hz
        · simp only [List.mem_singleton] at hz; subst hz; omega
      · simp +decide (disch := first | omega | rfl | (simp +decide only [go_sem, ↓reduceIte, hh4, hh6] <;> rfl) | fail) only [go_sem, ↓reduceIte, rem64K, quo64K, remI64K, quoI64K, mulK64, mk_empty, sl_3n, app_nil_map, mk_i64, max_nat, hh4, hh6]
  · obtain rfl : i = p.length := by omega
    rw [List.take_length] at h1
    have ho : pout vs p = false := by
      unfold pout; rw [List.any_eq_false]; intro t ht; simpa using h1 t ht
    simp +decide (disch := first | omega | rfl | (simp +decide only [go_sem, ↓reduceIte, hh4, hh6] <;> rfl) | fail) only [go_sem, ↓reduceIte, rem64K, quo64K, remI64K, quoI64K, mulK64, mk_empty, sl_3n, app_nil_map, mk_i64, max_nat, hh4, hh6]
    refine vc_loopF (by repeat (first | exact okSk_ret | exact okSk_retM | exact okSk_retO | apply okSk_back | apply okSk_out | apply okSk_eb | apply okSk_c | apply okSk_o | apply okSk_again | apply okSk_backW)) [(8, 10), (28, 66)] [9] (fun n J hp => ∃ i, n = p.length - i ∧ i ≤ p.length ∧ J 8 = .int .i64 (i : Nat) ∧ hp 4 = some ⟨3, 40, [.agg [.bool false, .nilS, .nilS]], false⟩ ∧ hp 6 = some ⟨3, 40, [PV.rat (peval vs (p.take i))], false⟩) p.length ?_ ?_
    · refine ⟨0, rfl, by omega, ?_⟩
      simp +decide (disch := first | omega | rfl | (simp +decide only [go_sem, ↓reduceIte, hh4, hh6] <;> rfl) | fail) only [go_sem, ↓reduceIte, rem64K, quo64K, remI64K, quoI64K, mulK64, mk_empty, sl_3n, app_nil_map, mk_i64, max_nat, hh4, hh6]
      exact ⟨rfl, rfl⟩
    rintro _ J1 h1' ⟨i, rfl, hi1, h8, hk4, hk8⟩
    simp +decide (disch := first | omega | rfl | (simp +decide only [go_sem, ↓reduceIte, h8] <;> rfl) | fail) only [go_sem, ↓reduceIte, rem64K, quo64K, remI64K, quoI64K, mulK64, mk_empty, sl_3n, app_nil_map, mk_i64, max_nat, h8]
    refine cond_split (fun hg1 => ?_) (fun hg1 => ?_)
    · have hi' : i < p.length := by omega
      have htp := hp.get hi'
      have hxl := h1 _ (List.getElem_mem hi')
      have htk := peval_take (vs := vs) hi'
      have hrp := rs_peval hp hv hW i (by omega)
      generalize hx : p[i] = x at *
      have hml := htp.m.len
      have hxc := htp.c
      have hmono : i * (K + 64 * (1 + W * E)) ≤ p.length * (K + 64 * (1 + W * E)) := Nat.mul_le_mul_right _ hi1
      have hme := fun j => rs_mevN (vs := vs) htp.m hv hW x.1 j
      have hjm : ∀ j, j ≤ x.2.length → j * (1 + W * E) ≤ 64 * (1 + W * E) := fun j hj => Nat.mul_le_mul_right _ (by omega)
      simp +decide (disch := first | omega | rfl | (simp +decide only [go_sem, ↓reduceIte, h8, hx] <;> rfl) | fail) only [go_sem, ↓reduceIte, rem64K, quo64K, remI64K, quoI64K, mulK64, mk_empty, sl_3n, app_nil_map, mk_i64, max_nat, h8, hx]
      refine vc_loopF (by repeat (first | exact okSk_ret | exact okSk_retM | exact okSk_retO | apply okSk_back | apply okSk_out | apply okSk_eb | apply okSk_c | apply okSk_o | apply okSk_again | apply okSk_backW)) [(10, 10), (39, 63)] [] (fun n J hp => ∃ j, n = x.2.length - j ∧ j ≤ x.2.length ∧ J 10 = .int .i64 (j : Nat) ∧ hp 4 = some ⟨3, 40, [.agg [.bool false, .nilS, .nilS]], false⟩ ∧ hp 6 = some ⟨3, 40, [PV.rat (peval vs (p.take i))], false⟩ ∧ hp 9 = some ⟨3, 40, [PV.rat (x.1 * mevN vs x.2 j)], false⟩) x.2.length ?_ ?_
      · refine ⟨0, rfl, by omega, ?_⟩
        have e0 : x.1 * mevN vs x.2 0 = x.1 := by show x.1 * 1 = x.1; grind
        rw [e0]
        simp +decide (disch := first | omega | rfl | (simp +decide only [go_sem, ↓reduceIte, hk4, hk8] <;> rfl) | fail) only [go_sem, ↓reduceIte, rem64K, quo64K, remI64K, quoI64K, mulK64, mk_empty, sl_3n, app_nil_map, mk_i64, max_nat, hk4, hk8]
        rfl
      rintro _ J2 h2 ⟨j, rfl, hj, h10, hl4, hl8, hl11⟩
      simp +decide (disch := first | omega | rfl | (simp +decide only [go_sem, ↓reduceIte, h8, h10, hx] <;> rfl) | fail) only [go_sem, ↓reduceIte, rem64K, quo64K, remI64K, quoI64K, mulK64, mk_empty, sl_3n, app_nil_map, mk_i64, max_nat, h8, h10, hx]
      refine cond_split (fun hg2 => ?_) (fun hg2 => ?_)
      · have hj' : j < x.2.length := by omega
        have hje := eN_lt hj'
        have hjb := htp.m.eN j
        have hms : mevN vs x.2 (j + 1) = mevN vs x.2 j * qpow (vs.getD j 0) (eN x.2 j).toNat := rfl
        generalize hy : x.2[j] = y at *
        obtain ⟨m, rfl⟩ : ∃ m : Nat, y = m := ⟨y.toNat, by omega⟩
        rw [hje, Int.toNat_natCast] at hms
        rw [hje] at hjb
        have hjv : j < vs.length := by omega
        have hvg : vs.getD j 0 = vs[j] := by simp [List.getD_eq_getElem?_getD, hjv]
        have hvw := hv _ (List.getElem_mem hjv)
        rw [hvg] at hms
        generalize hvj : vs[j] = v at *
        have hwe : rs v * m ≤ W * E := Nat.mul_le_mul hvw (by omega)
        have hqp := rs_qpow v m
        have hm1 := hme j
        have hm2 := hjm j hj
        simp +decide (disch := first | omega | rfl | (simp +decide only [go_sem, ↓reduceIte, h8, h10, hx, hy, hl11, hvj] <;> rfl) | fail) only [go_sem, ↓reduceIte, rem64K, quo64K, remI64K, quoI64K, mulK64, mk_empty, sl_3n, app_nil_map, mk_i64, max_nat, h8, h10, hx, hy, hl11, hvj]
        refine call_eq0 hP (r6_power_spec m v (by omega) (by omega)) rfl rfl rfl ?_
        simp +decide (disch := first | omega | rfl | (simp +decide only [go_sem, ↓reduceIte, h8, h10, hx, hy, hl11, hvj] <;> rfl) | fail) only [go_sem, ↓reduceIte, rem64K, quo64K, remI64K, quoI64K, mulK64, mk_empty, sl_3n, app_nil_map, mk_i64, max_nat, h8, h10, hx, hy, hl11, hvj]
        refine call_eq0 hP (r3_Mul_q (a := x.1 * mevN vs x.2 j) (b := qpow v m) (k := 2 ^ 33) (by omega) (by omega) (by omega)) rfl rfl rfl ?_
        simp +decide (disch := first | omega | rfl | (simp +decide only [go_sem, ↓reduceIte, h8, h10, hx, hy, hl11, hvj] <;> rfl) | fail) only [go_sem, ↓reduceIte, rem64K, quo64K, remI64K, quoI64K, mulK64, mk_empty, sl_3n, app_nil_map, mk_i64, max_nat, h8, h10, hx, hy, hl11, hvj]
        refine back_ovr (x.2.length - (j + 1)) (by omega) ⟨j + 1, rfl, by omega, ?_⟩
        have e1 : x.1 * mevN vs x.2 (j + 1) = x.1 * mevN vs x.2 j * qpow v m := by rw [hms]; grind
        rw [e1]
        simp +decide (disch := first | omega | rfl | (simp +decide only [go_sem, ↓reduceIte, hl4, hl8] <;> rfl) | fail) only [go_sem, ↓reduceIte, rem64K, quo64K, remI64K, quoI64K, mulK64, mk_empty, sl_3n, app_nil_map, mk_i64, max_nat, hl4, hl8]
      · obtain rfl : j = x.2.length := by omega
        have hm1 := hme x.2.length
        have hm2 := hjm x.2.length (Nat.le_refl _)
        have hra := rs_add (peval vs (p.take i)) (x.1 * mev vs x.2)
        rw [show mevN vs x.2 x.2.length = mev vs x.2 from rfl] at hl11 hm1
        simp +decide (disch := first | omega | rfl | (simp +decide only [go_sem, ↓reduceIte, h8, h10, hl8, hl11] <;> rfl) | fail) only [go_sem, ↓reduceIte, rem64K, quo64K, remI64K, quoI64K, mulK64, mk_empty, sl_3n, app_nil_map, mk_i64, max_nat, h8, h10, hl8, hl11]
        refine call_eq0 hP (r3_Add_q (a := peval vs (p.take i)) (b := x.1 * mev vs x.2) (k := 2 ^ 33) (by omega) (by omega) (by omega)) rfl rfl rfl ?_
        simp +decide (disch := first | omega | rfl | (simp +decide only [go_sem, ↓reduceIte, h8, h10, hl8, hl11] <;> rfl) | fail) only [go_sem, ↓reduceIte, rem64K, quo64K, remI64K, quoI64K, mulK64, mk_empty, sl_3n, app_nil_map, mk_i64, max_nat, h8, h10, hl8, hl11]
        simp (disch := decide) only [killFs_nil, ovr_sub]
        refine back_ovr (p.length - (i + 1)) (by omega) ⟨i + 1, rfl, by omega, ?_⟩
        rw [htk]
        simp +decide (disch := first | omega | rfl | (simp +decide only [go_sem, ↓reduceIte, hl4] <;> rfl) | fail) only [go_sem, ↓reduceIte, rem64K, quo64K, remI64K, quoI64K, mulK64, mk_empty, sl_3n, app_nil_map, mk_i64, max_nat, hl4]
    · obtain rfl : i = p.length := by omega
      rw [List.take_length] at hk8
      simp +decide (disch := first | omega | rfl | (simp +decide only [go_sem, ↓reduceIte, hk4, hk8] <;> rfl) | fail) only [go_sem, ↓reduceIte, rem64K, quo64K, remI64K, quoI64K, mulK64, mk_empty, sl_3n, app_nil_map, mk_i64, max_nat, hk4, hk8]
      refine ret_2 ?_
      simp +decide (disch := first | omega | rfl | (simp +decide only [go_sem, ↓reduceIte] <;> rfl) | fail) only [go_sem, ↓reduceIte, rem64K, quo64K, remI64K, quoI64K, mulK64, mk_empty, sl_3n, app_nil_map, mk_i64, max_nat]
      exact ret2 (by rw [evR, if_neg (by simp [ho])]) rfl rfl (le_refl _) (le_refl _)
end Go.Proofs.YtfhmockdgbkpnaaGreat
namespace Go.Proofs.YtfhmockdgbkpnaaGreat
open Go Go.FW
set_option linter.unusedSimpArgs false
set_option linter.unusedVariables false
set_option maxRecDepth 100000
theorem p_power_spec {a : Rat} {n : Nat} (hB : 1 + rs a * n ≤ 2 ^ 33) (hn : n ≤ 2 ^ 40) (ha : rs a ≤ 2 ^ 33) : FnSpec Tryz.prog 63 [PV.rat a, .int .i64 n] (· = PV.rat (qpow a n)) := by
  have h1 := rs_1
  have h1' : ((1 : Int) : Rat) = 1 := rfl
  refine fn_of_vc mixed Tryz.func63 rfl c63_ok (by simp [c63]) fun C hP => ?_; simp only [c63]
  simp +decide (disch := first | omega | rfl | (simp +decide only [go_sem, ↓reduceIte] <;> rfl) | fail) only [go_sem, ↓reduceIte, mk_empty, sl_3n, app_nil_map, mk_i64, max_nat]
  refine call_eq0 hP (q_Of_spec (x := 1) (by omega) (by omega)) rfl rfl rfl ?_
  simp +decide (disch := first | omega | rfl | (simp +decide only [go_sem, ↓reduceIte] <;> rfl) | fail) only [go_sem, ↓reduceIte, mk_empty, sl_3n, app_nil_map, mk_i64, max_nat]
  refine vc_loopF (by repeat (first | exact okSk_ret | exact okSk_retM | exact okSk_retO | apply okSk_back | apply okSk_out | apply okSk_eb | apply okSk_c | apply okSk_o | apply okSk_again)) [(1, 1), (7, 21)] [] (fun m J hp => ∃ x o : Rat, m ≤ n ∧ rs o + rs x * m ≤ 2 ^ 33 ∧ o * qpow x m = qpow a n ∧ J 1 = .int .i64 (m : Nat) ∧ hp 2 = some ⟨3, 40, [PV.rat x], false⟩ ∧ hp 4 = some ⟨3, 40, [.agg [.bool false, .nilS, .nilS]], false⟩ ∧ hp 5 = some ⟨3, 40, [PV.rat o], false⟩) n ?_ ?_
  · refine ⟨a, ((1 : Int) : Rat), by omega, by rw [h1']; omega, by rw [h1']; grind, ?_⟩
    simp +decide (disch := first | omega | rfl | (simp +decide only [go_sem, ↓reduceIte] <;> rfl) | fail) only [go_sem, ↓reduceIte, mk_empty, sl_3n, app_nil_map, mk_i64, max_nat]
    rfl
  rintro m J h ⟨x, o, hm, hrs, hq, hJ, hh2, hh4, hh5⟩
  simp +decide (disch := first | omega | rfl | (simp +decide only [go_sem, ↓reduceIte, hJ] <;> rfl) | fail) only [go_sem, ↓reduceIte, mk_empty, sl_3n, app_nil_map, mk_i64, max_nat, hJ]
  refine cond_split (fun hg => ?_) (fun hg => ?_)
  · have hx : rs x ≤ rs x * m := Nat.le_mul_of_pos_right _ (by omega)
    have e2 : (2 : Int) = ((2 : Nat) : Int) := rfl
    have hrem : ∀ d fr hp K, binK .rem false (.int .i64 (m : Int)) (.int .i64 2) d fr hp K = K (upd fr d (.int .i64 ((m % 2 : Nat) : Int))) hp := fun d fr hp K => by
      rw [e2, rem_nat (by omega)]
    have hquo : ∀ d fr hp K, binK .quo false (.int .i64 (m : Int)) (.int .i64 2) d fr hp K = K (upd fr d (.int .i64 ((m / 2 : Nat) : Int))) hp := fun d fr hp K => by
      rw [e2, quo_i64 (by omega) (by omega)]
    have hmm := rs_mul x x
    have hom := rs_mul o x
    have hd2 : rs (x * x) * (m / 2) ≤ rs x * (2 * (m / 2)) := by
      rw [← Nat.mul_assoc]; exact Nat.mul_le_mul_right _ (by omega)
    simp +decide (disch := first | omega | rfl | (simp +decide only [go_sem, ↓reduceIte, hJ, hh2, hh5, hrem, hquo] <;> rfl) | fail) only [go_sem, ↓reduceIte, mk_empty, sl_3n, app_nil_map, mk_i64, max_nat, hJ, hh2, hh5, hrem, hquo]
    refine cond_split (fun h2 => ?_) (fun h2 => ?_)
    · have hodd : m % 2 = 1 := by omega
      have hqa : o * x * qpow (x * x) (m / 2) = qpow a n := by rw [← hq, ← qpow_half_odd hodd]; grind
      have hqb : m = 1 → o * x * qpow x (1 / 2) = qpow a n := fun h => by
        rw [← hq, h]
        show o * x * 1 = o * qpow x 1
        rw [qpow_one]; grind
      have hm2 : rs x * m = rs x * (2 * (m / 2)) + rs x := by
        rw [show m = 2 * (m / 2) + 1 by omega, Nat.mul_add, Nat.mul_one]; congr 2; omega
      simp +decide (disch := first | omega | rfl | (simp +decide only [go_sem, ↓reduceIte, hJ, hh2, hh5, hrem, hquo] <;> rfl) | fail) only [go_sem, ↓reduceIte, mk_empty, sl_3n, app_nil_map, mk_i64, max_nat, hJ, hh2, hh5, hrem, hquo]
      refine call_eq0 hP (q_Mul (a := o) (b := x) (k := 2 ^ 33) (by omega) (by omega) (by omega)) rfl rfl rfl ?_
      simp +decide (disch := first | omega | rfl | (simp +decide only [go_sem, ↓reduceIte, hJ, hh2, hh5, hrem, hquo] <;> rfl) | fail) only [go_sem, ↓reduceIte, mk_empty, sl_3n, app_nil_map, mk_i64, max_nat, hJ, hh2, hh5, hrem, hquo]
      refine cond_split (fun h3 => ?_) (fun h3 => ?_)
      · simp +decide (disch := first | omega | rfl | (simp +decide only [go_sem, ↓reduceIte, hJ, hh2, hh5, hrem, hquo] <;> rfl) | fail) only [go_sem, ↓reduceIte, mk_empty, sl_3n, app_nil_map, mk_i64, max_nat, hJ, hh2, hh5, hrem, hquo]
        refine call_eq0 hP (q_Mul (a := x) (b := x) (k := 2 ^ 33) (by omega) (by omega) (by omega)) rfl rfl rfl ?_
        simp +decide (disch := first | omega | rfl | (simp +decide only [go_sem, ↓reduceIte, hJ, hh2, hh5, hrem, hquo] <;> rfl) | fail) only [go_sem, ↓reduceIte, mk_empty, sl_3n, app_nil_map, mk_i64, max_nat, hJ, hh2, hh5, hrem, hquo]
        refine back_ovr (m / 2) (by omega) ⟨x * x, o * x, by omega, by omega, hqa, ?_⟩
        simp +decide (disch := first | omega | rfl | (simp +decide only [go_sem, ↓reduceIte, hh2, hh4, hh5] <;> rfl) | fail) only [go_sem, ↓reduceIte, mk_empty, sl_3n, app_nil_map, mk_i64, max_nat, hh2, hh4, hh5]
      · obtain rfl : m = 1 := by omega
        simp +decide (disch := first | omega | rfl | (simp +decide only [go_sem, ↓reduceIte, hJ, hh2, hh5, hrem, hquo] <;> rfl) | fail) only [go_sem, ↓reduceIte, mk_empty, sl_3n, app_nil_map, mk_i64, max_nat, hJ, hh2, hh5, hrem, hquo]
        refine back_ovr (1 / 2) (by omega) ⟨x, o * x, by omega, by omega, (hqb rfl), ?_⟩
        simp +decide (disch := first | omega | rfl | (simp +decide only [go_sem, ↓reduceIte, hh2, hh4, hh5] <;> rfl) | fail) only [go_sem, ↓reduceIte, mk_empty, sl_3n, app_nil_map, mk_i64, max_nat, hh2, hh4, hh5]
    · have heven : m % 2 = 0 := by omega
      have hqa : o * qpow (x * x) (m / 2) = qpow a n := by rw [← hq, ← qpow_half_even heven]
      have hqb : m = 1 → o * qpow x (1 / 2) = qpow a n := fun h => by omega
      have hm2 : rs x * m = rs x * (2 * (m / 2)) := by
        congr 1; omega
      simp +decide (disch := first | omega | rfl | (simp +decide only [go_sem, ↓reduceIte, hJ, hh2, hh5, hrem, hquo] <;> rfl) | fail) only [go_sem, ↓reduceIte, mk_empty, sl_3n, app_nil_map, mk_i64, max_nat, hJ, hh2, hh5, hrem, hquo]
      refine cond_split (fun h3 => ?_) (fun h3 => ?_)
      · simp +decide (disch := first | omega | rfl | (simp +decide only [go_sem, ↓reduceIte, hJ, hh2, hh5, hrem, hquo] <;> rfl) | fail) only [go_sem, ↓reduceIte, mk_empty, sl_3n, app_nil_map, mk_i64, max_nat, hJ, hh2, hh5, hrem, hquo]
        refine call_eq0 hP (q_Mul (a := x) (b := x) (k := 2 ^ 33) (by omega) (by omega) (by omega)) rfl rfl rfl ?_
        simp +decide (disch := first | omega | rfl | (simp +decide only [go_sem, ↓reduceIte, hJ, hh2, hh5, hrem, hquo] <;> rfl) | fail) only [go_sem, ↓reduceIte, mk_empty, sl_3n, app_nil_map, mk_i64, max_nat, hJ, hh2, hh5, hrem, hquo]
        refine back_ovr (m / 2) (by omega) ⟨x * x, o, by omega, by omega, hqa, ?_⟩
        simp +decide (disch := first | omega | rfl | (simp +decide only [go_sem, ↓reduceIte, hh2, hh4, hh5] <;> rfl) | fail) only [go_sem, ↓reduceIte, mk_empty, sl_3n, app_nil_map, mk_i64, max_nat, hh2, hh4, hh5]
      · obtain rfl : m = 1 := by omega
        simp +decide (disch := first | omega | rfl | (simp +decide only [go_sem, ↓reduceIte, hJ, hh2, hh5, hrem, hquo] <;> rfl) | fail) only [go_sem, ↓reduceIte, mk_empty, sl_3n, app_nil_map, mk_i64, max_nat, hJ, hh2, hh5, hrem, hquo]
        refine back_ovr (1 / 2) (by omega) ⟨x, o, by omega, by omega, (hqb rfl), ?_⟩
        simp +decide (disch := first | omega | rfl | (simp +decide only [go_sem, ↓reduceIte, hh2, hh4, hh5] <;> rfl) | fail) only [go_sem, ↓reduceIte, mk_empty, sl_3n, app_nil_map, mk_i64, max_nat, hh2, hh4, hh5]
  · obtain rfl : m = 0 := by omega
    have hq' : o = qpow a n := by rw [← hq, qpow_zero]; grind
    simp +decide (disch := first | omega | rfl | (simp +decide only [go_sem, ↓reduceIte, hh2, hh4, hh5] <;> rfl) | fail) only [go_sem, ↓reduceIte, mk_empty, sl_3n, app_nil_map, mk_i64, max_nat, hh2, hh4, hh5]
    refine ret_1 ?_
    simp +decide (disch := first | omega | rfl | (simp +decide only [go_sem, ↓reduceIte] <;> rfl) | fail) only [go_sem, ↓reduceIte, mk_empty, sl_3n, app_nil_map, mk_i64, max_nat]
    exact retV_eq (by rw [hq']) rfl
theorem p_Eval_spec {p : List Tm} {vs : List Rat} {K E W : Nat} (hp : PB K E p) (hv : ∀ v ∈ vs, rs v ≤ W) (hW : 1 ≤ W) (hB : 1 + p.length * (K + 64 * (1 + W * E)) + (K + 64 * (1 + W * E)) ≤ 2 ^ 33) (hE : E ≤ 2 ^ 38) (hlp : p.length ≤ 2 ^ 36) (hlv : vs.length ≤ 2 ^ 36) :
    FnSpec Tryz.prog 19 [PV.poly p, PV.rats vs] (· = evR vs p) := by
  have h0 : ((0 : Int) : Rat) = 0 := rfl
  refine fn_of_vc mixed Tryz.func19 rfl c19_ok (by simp [c19]) fun C hP => ?_; simp only [c19]
  simp +decide (disch := first | omega | rfl | (simp +decide only [go_sem, ↓reduceIte] <;> rfl) | fail) only [go_sem, ↓reduceIte, mk_empty, sl_3n, app_nil_map, mk_i64, max_nat]
  refine vc_loopF (by repeat (first | exact okSk_ret | exact okSk_retM | exact okSk_retO | apply okSk_back | apply okSk_out | apply okSk_eb | apply okSk_c | apply okSk_o | apply okSk_again)) [(5, 5), (7, 7), (16, 27)] [7] (fun n J hp => ∃ i, n = p.length - i ∧ i ≤ p.length ∧ (∀ t ∈ p.take i, ¬ vs.length < t.2.length) ∧ J 16 = .int .i64 (i : Nat) ∧ hp 4 = some ⟨3, 40, [.agg [.bool false, .nilS, .nilS]], false⟩) p.length ?_ ?_
  · refine ⟨0, rfl, by omega, by simp, ?_⟩
    simp +decide (disch := first | omega | rfl | (simp +decide only [go_sem, ↓reduceIte] <;> rfl) | fail) only [go_sem, ↓reduceIte, mk_empty, sl_3n, app_nil_map, mk_i64, max_nat]
    rfl
  rintro _ J h ⟨i, rfl, hi, h1, h16, hh4⟩
  simp +decide (disch := first | omega | rfl | (simp +decide only [go_sem, ↓reduceIte, h16] <;> rfl) | fail) only [go_sem, ↓reduceIte, mk_empty, sl_3n, app_nil_map, mk_i64, max_nat, h16]
  refine cond_split (fun hg => ?_) (fun hg => ?_)
  · have hi' : i < p.length := by omega
    have htp := hp.get hi'
    have hmem := List.getElem_mem hi'
    have htk : p.take (i + 1) = p.take i ++ [p[i]] := List.take_succ_eq_append_getElem hi'
    generalize hx : p[i] = x at *
    have hml := htp.m.len
    have htr := trimI_of htp.l
    simp +decide (disch := first | omega | rfl | (simp +decide only [go_sem, ↓reduceIte, h16, hx] <;> rfl) | fail) only [go_sem, ↓reduceIte, mk_empty, sl_3n, app_nil_map, mk_i64, max_nat, h16, hx]
    refine call_eq0 hP (m_Main_spec (a := x.2) (by omega)) rfl rfl rfl ?_
    rw [htr]
    simp +decide (disch := first | omega | rfl | (simp +decide only [go_sem, ↓reduceIte, h16, hx] <;> rfl) | fail) only [go_sem, ↓reduceIte, mk_empty, sl_3n, app_nil_map, mk_i64, max_nat, h16, hx]
    refine cond_split (fun hc => ?_) (fun hc => ?_)
    · have ho : pout vs p = true := by
        unfold pout; rw [List.any_eq_true]; exact ⟨x, hmem, decide_eq_true (by omega)⟩
      simp +decide (disch := first | omega | rfl | (simp +decide only [go_sem, ↓reduceIte, hh4] <;> rfl) | fail) only [go_sem, ↓reduceIte, mk_empty, sl_3n, app_nil_map, mk_i64, max_nat, hh4]
      refine ret_2 ?_
      simp +decide (disch := first | omega | rfl | (simp +decide only [go_sem, ↓reduceIte] <;> rfl) | fail) only [go_sem, ↓reduceIte, mk_empty, sl_3n, app_nil_map, mk_i64, max_nat]
      exact ret2 (p' := PV.rr false [] []) (q' := .int .i64 2) (by rw [evR, if_pos ho]) rfl rfl ⟨rfl, trivial, trivial, trivial⟩ (le_refl _)
    · simp +decide (disch := first | omega | rfl | (simp +decide only [go_sem, ↓reduceIte, h16] <;> rfl) | fail) only [go_sem, ↓reduceIte, mk_empty, sl_3n, app_nil_map, mk_i64, max_nat, h16]
      refine back_ovr (p.length - (i + 1)) (by omega) ⟨i + 1, rfl, by omega, ?_, ?_⟩
      · rw [htk]
        intro z hz
        rcases List.mem_append.1 hz with hz | hz
        · exact h1 z hz
        · simp only [List.mem_singleton] at hz; subst hz; omega
      · simp +decide (disch := first | omega | rfl | (simp +decide only [go_sem, ↓reduceIte, hh4] <;> rfl) | fail) only [go_sem, ↓reduceIte, mk_empty, sl_3n, app_nil_map, mk_i64, max_nat, hh4]
  · obtain rfl : i = p.length := by omega
    rw [List.take_length] at h1
    have ho : pout vs p = false := by
      unfold pout; rw [List.any_eq_false]; intro t ht; simpa using h1 t ht
    simp +decide (disch := first | omega | rfl | (simp +decide only [go_sem, ↓reduceIte, hh4] <;> rfl) | fail) only [go_sem, ↓reduceIte, mk_empty, sl_3n, app_nil_map, mk_i64, max_nat, hh4]
    refine call_eq0 hP (q_Of_spec (x := 0) (by omega) (by omega)) rfl rfl rfl ?_
    simp +decide (disch := first | omega | rfl | (simp +decide only [go_sem, ↓reduceIte, hh4] <;> rfl) | fail) only [go_sem, ↓reduceIte, mk_empty, sl_3n, app_nil_map, mk_i64, max_nat, hh4]
    refine vc_loopF (by repeat (first | exact okSk_ret | exact okSk_retM | exact okSk_retO | apply okSk_back | apply okSk_out | apply okSk_eb | apply okSk_c | apply okSk_o | apply okSk_again)) [(10, 13), (31, 59)] [10, 11] (fun n J hp => ∃ i, n = p.length - i ∧ i ≤ p.length ∧ J 31 = .int .i64 (i : Nat) ∧ hp 4 = some ⟨3, 40, [.agg [.bool false, .nilS, .nilS]], false⟩ ∧ hp 8 = some ⟨3, 40, [PV.rat (peval vs (p.take i))], false⟩) p.length ?_ ?_
    · refine ⟨0, rfl, by omega, ?_⟩
      simp +decide (disch := first | omega | rfl | (simp +decide only [go_sem, ↓reduceIte, hh4] <;> rfl) | fail) only [go_sem, ↓reduceIte, mk_empty, sl_3n, app_nil_map, mk_i64, max_nat, hh4]
      exact ⟨rfl, rfl⟩
    rintro _ J1 h1' ⟨i, rfl, hi1, h31, hk4, hk8⟩
    simp +decide (disch := first | omega | rfl | (simp +decide only [go_sem, ↓reduceIte, h31] <;> rfl) | fail) only [go_sem, ↓reduceIte, mk_empty, sl_3n, app_nil_map, mk_i64, max_nat, h31]
    refine cond_split (fun hg1 => ?_) (fun hg1 => ?_)
    · have hi' : i < p.length := by omega
      have htp := hp.get hi'
      have hxl := h1 _ (List.getElem_mem hi')
      have htk := peval_take (vs := vs) hi'
      have hrp := rs_peval hp hv hW i (by omega)
      generalize hx : p[i] = x at *
      have hml := htp.m.len
      have hxc := htp.c
      have hmono : i * (K + 64 * (1 + W * E)) ≤ p.length * (K + 64 * (1 + W * E)) := Nat.mul_le_mul_right _ hi1
      have hme := fun j => rs_mevN (vs := vs) htp.m hv hW x.1 j
      have hjm : ∀ j, j ≤ x.2.length → j * (1 + W * E) ≤ 64 * (1 + W * E) := fun j hj => Nat.mul_le_mul_right _ (by omega)
      simp +decide (disch := first | omega | rfl | (simp +decide only [go_sem, ↓reduceIte, h31, hx] <;> rfl) | fail) only [go_sem, ↓reduceIte, mk_empty, sl_3n, app_nil_map, mk_i64, max_nat, h31, hx]
      refine vc_loopF (by repeat (first | exact okSk_ret | exact okSk_retM | exact okSk_retO | apply okSk_back | apply okSk_out | apply okSk_eb | apply okSk_c | apply okSk_o | apply okSk_again)) [(12, 13), (40, 55)] [] (fun n J hp => ∃ j, n = x.2.length - j ∧ j ≤ x.2.length ∧ J 40 = .int .i64 (j : Nat) ∧ hp 4 = some ⟨3, 40, [.agg [.bool false, .nilS, .nilS]], false⟩ ∧ hp 8 = some ⟨3, 40, [PV.rat (peval vs (p.take i))], false⟩ ∧ hp 11 = some ⟨3, 40, [PV.rat (x.1 * mevN vs x.2 j)], false⟩) x.2.length ?_ ?_
      · refine ⟨0, rfl, by omega, ?_⟩
        have e0 : x.1 * mevN vs x.2 0 = x.1 := by show x.1 * 1 = x.1; grind
        rw [e0]
        simp +decide (disch := first | omega | rfl | (simp +decide only [go_sem, ↓reduceIte, hk4, hk8] <;> rfl) | fail) only [go_sem, ↓reduceIte, mk_empty, sl_3n, app_nil_map, mk_i64, max_nat, hk4, hk8]
        rfl
      rintro _ J2 h2 ⟨j, rfl, hj, h40, hl4, hl8, hl11⟩
      simp +decide (disch := first | omega | rfl | (simp +decide only [go_sem, ↓reduceIte, h40] <;> rfl) | fail) only [go_sem, ↓reduceIte, mk_empty, sl_3n, app_nil_map, mk_i64, max_nat, h40]
      refine cond_split (fun hg2 => ?_) (fun hg2 => ?_)
      · have hj' : j < x.2.length := by omega
        have hje := eN_lt hj'
        have hjb := htp.m.eN j
        have hms : mevN vs x.2 (j + 1) = mevN vs x.2 j * qpow (vs.getD j 0) (eN x.2 j).toNat := rfl
        generalize hy : x.2[j] = y at *
        obtain ⟨m, rfl⟩ : ∃ m : Nat, y = m := ⟨y.toNat, by omega⟩
        rw [hje, Int.toNat_natCast] at hms
        rw [hje] at hjb
        simp +decide (disch := first | omega | rfl | (simp +decide only [go_sem, ↓reduceIte, h40, hy] <;> rfl) | fail) only [go_sem, ↓reduceIte, mk_empty, sl_3n, app_nil_map, mk_i64, max_nat, h40, hy]
        refine cond_split (fun hz => ?_) (fun hz => ?_)
        · have hjv : j < vs.length := by omega
          have hvg : vs.getD j 0 = vs[j] := by simp [List.getD_eq_getElem?_getD, hjv]
          have hvw := hv _ (List.getElem_mem hjv)
          rw [hvg] at hms
          generalize hvj : vs[j] = v at *
          have hwe : rs v * m ≤ W * E := Nat.mul_le_mul hvw (by omega)
          have hv1 : rs v ≤ rs v * m := Nat.le_mul_of_pos_right _ (by omega)
          have hqp := rs_qpow v m
          have hm1 := hme j
          have hm2 := hjm j hj
          simp +decide (disch := first | omega | rfl | (simp +decide only [go_sem, ↓reduceIte, h40, hy, hl11, hvj] <;> rfl) | fail) only [go_sem, ↓reduceIte, mk_empty, sl_3n, app_nil_map, mk_i64, max_nat, h40, hy, hl11, hvj]
          refine call_eq0 hP (p_power_spec (a := v) (n := m) (by omega) (by omega) (by omega)) rfl rfl rfl ?_
          simp +decide (disch := first | omega | rfl | (simp +decide only [go_sem, ↓reduceIte, h40, hy, hl11, hvj] <;> rfl) | fail) only [go_sem, ↓reduceIte, mk_empty, sl_3n, app_nil_map, mk_i64, max_nat, h40, hy, hl11, hvj]
          refine call_eq0 hP (q_Mul (a := x.1 * mevN vs x.2 j) (b := qpow v m) (k := 2 ^ 33) (by omega) (by omega) (by omega)) rfl rfl rfl ?_
          simp +decide (disch := first | omega | rfl | (simp +decide only [go_sem, ↓reduceIte, h40, hy, hl11, hvj] <;> rfl) | fail) only [go_sem, ↓reduceIte, mk_empty, sl_3n, app_nil_map, mk_i64, max_nat, h40, hy, hl11, hvj]
          refine back_ovr (x.2.length - (j + 1)) (by omega) ⟨j + 1, rfl, by omega, ?_⟩
          have e1 : x.1 * mevN vs x.2 (j + 1) = x.1 * mevN vs x.2 j * qpow v m := by rw [hms]; grind
          rw [e1]
          simp +decide (disch := first | omega | rfl | (simp +decide only [go_sem, ↓reduceIte, hl4, hl8] <;> rfl) | fail) only [go_sem, ↓reduceIte, mk_empty, sl_3n, app_nil_map, mk_i64, max_nat, hl4, hl8]
        · obtain rfl : m = 0 := by omega
          simp +decide (disch := first | omega | rfl | (simp +decide only [go_sem, ↓reduceIte, h40, hy] <;> rfl) | fail) only [go_sem, ↓reduceIte, mk_empty, sl_3n, app_nil_map, mk_i64, max_nat, h40, hy]
          refine back_ovr (x.2.length - (j + 1)) (by omega) ⟨j + 1, rfl, by omega, ?_⟩
          have e1 : x.1 * mevN vs x.2 (j + 1) = x.1 * mevN vs x.2 j := by rw [hms, qpow_zero]; grind
          rw [e1]
          simp +decide (disch := first | omega | rfl | (simp +decide only [go_sem, ↓reduceIte, hl4, hl8, hl11] <;> rfl) | fail) only [go_sem, ↓reduceIte, mk_empty, sl_3n, app_nil_map, mk_i64, max_nat, hl4, hl8, hl11]
      · obtain rfl : j = x.2.length := by omega
        have hm1 := hme x.2.length
        have hm2 := hjm x.2.length (Nat.le_refl _)
        have hra := rs_add (peval vs (p.take i)) (x.1 * mev vs x.2)
        rw [show mevN vs x.2 x.2.length = mev vs x.2 from rfl] at hl11 hm1
        simp +decide (disch := first | omega | rfl | (simp +decide only [go_sem, ↓reduceIte, h31, h40, hl8, hl11] <;> rfl) | fail) only [go_sem, ↓reduceIte, mk_empty, sl_3n, app_nil_map, mk_i64, max_nat, h31, h40, hl8, hl11]
        refine call_eq0 hP (q_Add (a := peval vs (p.take i)) (b := x.1 * mev vs x.2) (k := 2 ^ 33) (by omega) (by omega) (by omega)) rfl rfl rfl ?_
        simp +decide (disch := first | omega | rfl | (simp +decide only [go_sem, ↓reduceIte, h31, h40, hl8, hl11] <;> rfl) | fail) only [go_sem, ↓reduceIte, mk_empty, sl_3n, app_nil_map, mk_i64, max_nat, h31, h40, hl8, hl11]
        simp (disch := decide) only [killFs_nil, ovr_sub]
        refine back_ovr (p.length - (i + 1)) (by omega) ⟨i + 1, rfl, by omega, ?_⟩
        rw [htk]
        simp +decide (disch := first | omega | rfl | (simp +decide only [go_sem, ↓reduceIte, hl4] <;> rfl) | fail) only [go_sem, ↓reduceIte, mk_empty, sl_3n, app_nil_map, mk_i64, max_nat, hl4]
    · obtain rfl : i = p.length := by omega
      rw [List.take_length] at hk8
      simp +decide (disch := first | omega | rfl | (simp +decide only [go_sem, ↓reduceIte, hk4, hk8] <;> rfl) | fail) only [go_sem, ↓reduceIte, mk_empty, sl_3n, app_nil_map, mk_i64, max_nat, hk4, hk8]
      refine ret_2 ?_
      simp +decide (disch := first | omega | rfl | (simp +decide only [go_sem, ↓reduceIte] <;> rfl) | fail) only [go_sem, ↓reduceIte, mk_empty, sl_3n, app_nil_map, mk_i64, max_nat]
      exact ret2 (by rw [evR, if_neg (by simp [ho])]) rfl rfl (le_refl _) (le_refl _)
end Go.Proofs.YtfhmockdgbkpnaaGreat
namespace Go.Proofs.YtfhmockdgbkpnaaGreat
open Go Go.FW
set_option linter.unusedSimpArgs false
set_option linter.unusedVariables false
set_option maxRecDepth 100000
end Go.Proofs.YtfhmockdgbkpnaaGreat
namespace Go.Proofs.YtfhmockdgbkpnaaGreat
open Go Go.FW
set_option linter.unusedSimpArgs false
set_option linter.unusedVariables false
set_option maxRecDepth 100000
end Go.Proofs.YtfhmockdgbkpnaaGreat
namespace Go.Proofs.YtfhmockdgbkpnaaGreat
open Go Go.FW
set_option linter.unusedSimpArgs false
set_option linter.unusedVariables false
set_option maxRecDepth 100000
end Go.Proofs.YtfhmockdgbkpnaaGreat
namespace Go.Proofs.YtfhmockdgbkpnaaGreat
open Go Go.FW
set_option linter.unusedSimpArgs false
set_option linter.unusedVariables false
set_option maxRecDepth 100000
theorem r3_Same_self {n : Bool} {a d : List Nat} {k : Nat} (h : Raw k n a d) (hk : k < 2 ^ 36) : FnSpec Tryz.prog 21 [PV.rr n a d, PV.rr n a d] (· = .bool true) := by
  have := r3_Same_spec h h hk
  rwa [decide_eq_true (show (n = n ∧ a = a) ∧ d = d from ⟨⟨rfl, rfl⟩, rfl⟩)] at this
end Go.Proofs.YtfhmockdgbkpnaaGreat
namespace Go.Proofs.YtfhmockdgbkpnaaGreat
open Go Go.FW
set_option linter.unusedSimpArgs false
set_option linter.unusedVariables false
set_option maxRecDepth 100000
def valOk (q : RQ) : Bool := decide (q.a.length ≤ 2) && (decide (q.d.length ≤ 2) && ratOk q.n q.a q.d)
theorem values_spec {l : List RQ} {k : Nat} (hb : ∀ q ∈ l, Raw k q.n q.a q.d) (hk : k < 2 ^ 36) (hl : l.length < 2 ^ 40) : FnSpec Tryz.prog 18 [PV.rqs l] (· = .bool (l.all valOk && decide (l.length ≤ 6))) := by
  have bad : ∀ i (h : i < l.length), valOk l[i] = false → (l.all valOk && decide (l.length ≤ 6)) = false := fun i hi h => by
    have : l.all valOk = false := by
      rw [List.all_eq_false]; exact ⟨_, List.getElem_mem hi, by simp [h]⟩
    rw [this, Bool.false_and]
  refine fn_of_vc mixed Tryz.func18 rfl c18_ok (by simp [c18]) fun C hP => ?_; simp only [c18]
  simp +decide (disch := first | omega | rfl | (simp +decide only [go_sem, ↓reduceIte] <;> rfl) | fail) only [go_sem, ↓reduceIte, rem64K, quo64K, remI64K, quoI64K, mulK64, mk_empty, sl_3n, app_nil_map, mk_i64, max_nat]
  refine vc_loopF (by repeat (first | exact okSk_ret | exact okSk_retM | exact okSk_retO | apply okSk_back | apply okSk_out | apply okSk_eb | apply okSk_c | apply okSk_o | apply okSk_again | apply okSk_backW)) [(2, 34)] [] (fun n J hp => ∃ i, n = l.length - i ∧ i ≤ l.length ∧ (∀ j (h : j < l.length), j < i → valOk l[j] = true) ∧ J 3 = .int .i64 (i : Nat)) l.length ?_ ?_
  · refine ⟨0, rfl, by omega, by omega, ?_⟩
    simp +decide (disch := first | omega | rfl | (simp +decide only [go_sem, ↓reduceIte] <;> rfl) | fail) only [go_sem, ↓reduceIte, rem64K, quo64K, remI64K, quoI64K, mulK64, mk_empty, sl_3n, app_nil_map, mk_i64, max_nat]
    rfl
  rintro _ J h ⟨i, rfl, hi, h1, h3⟩
  simp +decide (disch := first | omega | rfl | (simp +decide only [go_sem, ↓reduceIte, h3] <;> rfl) | fail) only [go_sem, ↓reduceIte, rem64K, quo64K, remI64K, quoI64K, mulK64, mk_empty, sl_3n, app_nil_map, mk_i64, max_nat, h3]
  refine cond_split (fun hg => ?_) (fun hg => ?_)
  · have hi' : i < l.length := by omega
    have hbt := hb _ (List.getElem_mem hi')
    have hbad := bad i hi'
    have hadd : valOk l[i] = true → ∀ j (h : j < l.length), j < i + 1 → valOk l[j] = true := fun h j hj hji => by
      by_cases e : j = i
      · subst e; exact h
      · exact h1 j hj (by omega)
    generalize hx : l[i] = x at *
    simp +decide (disch := first | omega | rfl | (simp +decide only [go_sem, ↓reduceIte, h3, hx] <;> rfl) | fail) only [go_sem, ↓reduceIte, rem64K, quo64K, remI64K, quoI64K, mulK64, mk_empty, sl_3n, app_nil_map, mk_i64, max_nat, h3, hx]
    refine guard_splitF (fun h2 => ?_) (fun h2 => ?_)
    · simp +decide (disch := first | omega | rfl | (simp +decide only [go_sem, ↓reduceIte] <;> rfl) | fail) only [go_sem, ↓reduceIte, rem64K, quo64K, remI64K, quoI64K, mulK64, mk_empty, sl_3n, app_nil_map, mk_i64, max_nat]
      exact retV_eq (by rw [hbad (by simp [valOk, show ¬ x.a.length ≤ 2 by omega])]) rfl
    simp +decide (disch := first | omega | rfl | (simp +decide only [go_sem, ↓reduceIte, h3, hx] <;> rfl) | fail) only [go_sem, ↓reduceIte, rem64K, quo64K, remI64K, quoI64K, mulK64, mk_empty, sl_3n, app_nil_map, mk_i64, max_nat, h3, hx]
    refine guard_splitF (fun h4 => ?_) (fun h4 => ?_)
    · simp +decide (disch := first | omega | rfl | (simp +decide only [go_sem, ↓reduceIte] <;> rfl) | fail) only [go_sem, ↓reduceIte, rem64K, quo64K, remI64K, quoI64K, mulK64, mk_empty, sl_3n, app_nil_map, mk_i64, max_nat]
      exact retV_eq (by rw [hbad (by simp [valOk, show ¬ x.d.length ≤ 2 by omega])]) rfl
    simp +decide (disch := first | omega | rfl | (simp +decide only [go_sem, ↓reduceIte, h3, hx] <;> rfl) | fail) only [go_sem, ↓reduceIte, rem64K, quo64K, remI64K, quoI64K, mulK64, mk_empty, sl_3n, app_nil_map, mk_i64, max_nat, h3, hx]
    refine call_eq0 hP (r3_Right_spec hbt hk) rfl rfl rfl ?_
    simp +decide (disch := first | omega | rfl | (simp +decide only [go_sem, ↓reduceIte, h3, hx] <;> rfl) | fail) only [go_sem, ↓reduceIte, rem64K, quo64K, remI64K, quoI64K, mulK64, mk_empty, sl_3n, app_nil_map, mk_i64, max_nat, h3, hx]
    cases hok : ratOk x.n x.a x.d
    · simp +decide (disch := first | omega | rfl | (simp +decide only [go_sem, ↓reduceIte] <;> rfl) | fail) only [go_sem, ↓reduceIte, rem64K, quo64K, remI64K, quoI64K, mulK64, mk_empty, sl_3n, app_nil_map, mk_i64, max_nat]
      exact retV_eq (by rw [hbad (by simp [valOk, hok])]) rfl
    · have hv : valOk x = true := by
        simp only [valOk, Bool.and_eq_true, decide_eq_true_eq]; exact ⟨by omega, by omega, hok⟩
      simp +decide (disch := first | omega | rfl | (simp +decide only [go_sem, ↓reduceIte, h3] <;> rfl) | fail) only [go_sem, ↓reduceIte, rem64K, quo64K, remI64K, quoI64K, mulK64, mk_empty, sl_3n, app_nil_map, mk_i64, max_nat, h3]
      refine back_ovr (l.length - (i + 1)) (by omega) ⟨i + 1, rfl, by omega, hadd hv, ?_⟩
      simp +decide (disch := first | omega | rfl | (simp +decide only [go_sem, ↓reduceIte] <;> rfl) | fail) only [go_sem, ↓reduceIte, rem64K, quo64K, remI64K, quoI64K, mulK64, mk_empty, sl_3n, app_nil_map, mk_i64, max_nat]
  · obtain rfl : i = l.length := by omega
    have hall : l.all valOk = true := by
      rw [List.all_eq_true]
      intro t ht
      obtain ⟨j, hj, rfl⟩ := List.getElem_of_mem ht
      exact h1 j hj hj
    simp +decide (disch := first | omega | rfl | (simp +decide only [go_sem, ↓reduceIte] <;> rfl) | fail) only [go_sem, ↓reduceIte, rem64K, quo64K, remI64K, quoI64K, mulK64, mk_empty, sl_3n, app_nil_map, mk_i64, max_nat]
    exact retV_eq (congrArg PV.bool (by rw [hall, Bool.true_and]; exact decide_eq_decide.2 ⟨fun h => by omega, fun h => by omega⟩)) rfl
def RQ.q (x : RQ) : Rat := rv x.n x.a x.d
theorem values_ok {l : List RQ} {k : Nat} (hb : ∀ q ∈ l, Raw k q.n q.a q.d) (h : (l.all valOk && decide (l.length ≤ 6)) = true) : PV.rqs l = PV.rats (l.map RQ.q) ∧ (∀ v ∈ l.map RQ.q, rs v ≤ 2) ∧ (l.map RQ.q).length ≤ 6 := by
  simp only [Bool.and_eq_true, decide_eq_true_eq, List.all_eq_true] at h
  obtain ⟨h1, h2⟩ := h
  refine ⟨?_, fun v hv => ?_, by simpa using h2⟩
  · show PV.sl 3 (l.map PV.rq) = PV.sl 3 ((l.map RQ.q).map PV.rat)
    rw [List.map_map]
    congr 1
    refine List.map_congr_left fun x hx => ?_
    have hv := h1 x hx
    simp only [valOk, Bool.and_eq_true, decide_eq_true_eq] at hv
    exact rr_ok (hb x hx).la (hb x hx).ld hv.2.2
  · obtain ⟨x, hx, rfl⟩ := List.mem_map.1 hv
    have hv := h1 x hx
    simp only [valOk, Bool.and_eq_true, decide_eq_true_eq] at hv
    exact (show Raw 2 x.n x.a x.d from ⟨(hb x hx).la, (hb x hx).ld, hv.1, hv.2.1, by omega⟩).rs
theorem PolyEvals_walk {p : List RTm} {l : List RQ} {k : Nat} (hb : ∀ t ∈ p, RB k t) (hq : ∀ q ∈ l, Raw k q.n q.a q.d) (hk1 : 1 ≤ k) (hk : k < 2 ^ 36) (hl : p.length < 2 ^ 40) (hl2 : l.length < 2 ^ 40) :
    FnSpec Tryz.prog 4 [PV.rpoly p, PV.rqs l] (· = .bool true) := by
  refine fn_of_vc mixed Tryz.func4 rfl c4_ok (by simp [c4]) fun C hP => ?_; simp only [c4]
  simp +decide (disch := first | omega | rfl | (simp +decide only [go_sem, ↓reduceIte] <;> rfl) | fail) only [go_sem, ↓reduceIte, rem64K, quo64K, remI64K, quoI64K, mulK64, mk_empty, sl_3n, app_nil_map, mk_i64, max_nat]
  refine call_scal hP (few_spec (ls := [p]) (k := k) (by simp; exact ⟨hb, hl⟩) hk1 hk (by simp)) (by simp +decide (disch := first | omega | rfl | (simp +decide only [go_sem, ↓reduceIte, looks3, List.contains_cons, List.contains_nil, List.flatMap_cons, List.flatMap_nil, List.append_nil] <;> rfl) | fail) only [go_sem, ↓reduceIte, rem64K, quo64K, remI64K, quoI64K, mulK64, mk_empty, sl_3n, app_nil_map, mk_i64, max_nat, looks3, List.contains_cons, List.contains_nil, List.flatMap_cons, List.flatMap_nil, List.append_nil] <;> rfl) rfl rfl ?_
  simp +decide (disch := first | omega | rfl | (simp +decide only [go_sem, ↓reduceIte] <;> rfl) | fail) only [go_sem, ↓reduceIte, rem64K, quo64K, remI64K, quoI64K, mulK64, mk_empty, sl_3n, app_nil_map, mk_i64, max_nat]
  cases hsm : [p].all (small 8 5 8)
  · simp +decide (disch := first | omega | rfl | (simp +decide only [go_sem, ↓reduceIte] <;> rfl) | fail) only [go_sem, ↓reduceIte, rem64K, quo64K, remI64K, quoI64K, mulK64, mk_empty, sl_3n, app_nil_map, mk_i64, max_nat]
    refine call_eq0 hP alive_spec rfl rfl rfl ?_
    simp +decide (disch := first | omega | rfl | (simp +decide only [go_sem, ↓reduceIte] <;> rfl) | fail) only [go_sem, ↓reduceIte, rem64K, quo64K, remI64K, quoI64K, mulK64, mk_empty, sl_3n, app_nil_map, mk_i64, max_nat]
    exact retV_eq rfl rfl
  simp +decide (disch := first | omega | rfl | (simp +decide only [go_sem, ↓reduceIte] <;> rfl) | fail) only [go_sem, ↓reduceIte, rem64K, quo64K, remI64K, quoI64K, mulK64, mk_empty, sl_3n, app_nil_map, mk_i64, max_nat]
  refine call_eq0 hP (values_spec hq hk hl2) rfl rfl rfl ?_
  simp +decide (disch := first | omega | rfl | (simp +decide only [go_sem, ↓reduceIte] <;> rfl) | fail) only [go_sem, ↓reduceIte, rem64K, quo64K, remI64K, quoI64K, mulK64, mk_empty, sl_3n, app_nil_map, mk_i64, max_nat]
  cases hvo : (l.all valOk && decide (l.length ≤ 6))
  · simp +decide (disch := first | omega | rfl | (simp +decide only [go_sem, ↓reduceIte] <;> rfl) | fail) only [go_sem, ↓reduceIte, rem64K, quo64K, remI64K, quoI64K, mulK64, mk_empty, sl_3n, app_nil_map, mk_i64, max_nat]
    refine call_eq0 hP alive_spec rfl rfl rfl ?_
    simp +decide (disch := first | omega | rfl | (simp +decide only [go_sem, ↓reduceIte] <;> rfl) | fail) only [go_sem, ↓reduceIte, rem64K, quo64K, remI64K, quoI64K, mulK64, mk_empty, sl_3n, app_nil_map, mk_i64, max_nat]
    exact retV_eq rfl rfl
  simp only [List.all_cons, List.all_nil, Bool.and_true] at hsm
  obtain ⟨_, e1, _, v1, b1, l1⟩ := small_spec (e := 8) hb hsm
  obtain ⟨e2, rv2, lv2⟩ := values_ok hq hvo
  rw [e1, e2]
  clear e1 e2
  generalize p.map RTm.tm = P at *
  generalize l.map RQ.q = V at *
  have hB : 1 + P.length * (5 + 64 * (1 + 2 * 8)) + (5 + 64 * (1 + 2 * 8)) ≤ 2 ^ 31 := by
    have : P.length * (5 + 64 * (1 + 2 * 8)) ≤ 8 * (5 + 64 * (1 + 2 * 8)) := Nat.mul_le_mul_right _ l1
    omega
  have s1 := p_Eval_spec b1 rv2 (by omega) (by omega) (by omega) (by omega) (by omega)
  have s2 := r6_Eval_spec b1 rv2 (by omega) hB (by omega) (by omega) (by omega)
  have hr := rs_peval b1 rv2 (by omega) P.length (Nat.le_refl _)
  rw [List.take_length] at hr
  unfold evR at s1 s2
  cases ho : pout V P
  · rw [if_neg (by simp [ho])] at s1 s2
    have hraw := raw_of (q := peval V P) (k := 2 ^ 33) (by omega)
    simp +decide (disch := first | omega | rfl | (simp +decide only [go_sem, ↓reduceIte] <;> rfl) | fail) only [go_sem, ↓reduceIte, rem64K, quo64K, remI64K, quoI64K, mulK64, mk_empty, sl_3n, app_nil_map, mk_i64, max_nat]
    refine call_eq0 hP s1 rfl rfl rfl ?_
    simp +decide (disch := first | omega | rfl | (simp +decide only [go_sem, ↓reduceIte] <;> rfl) | fail) only [go_sem, ↓reduceIte, rem64K, quo64K, remI64K, quoI64K, mulK64, mk_empty, sl_3n, app_nil_map, mk_i64, max_nat]
    refine call_eq0 hP s2 rfl rfl rfl ?_
    simp +decide (disch := first | omega | rfl | (simp +decide only [go_sem, ↓reduceIte] <;> rfl) | fail) only [go_sem, ↓reduceIte, rem64K, quo64K, remI64K, quoI64K, mulK64, mk_empty, sl_3n, app_nil_map, mk_i64, max_nat]
    refine call_eq0 hP (r3_Same_self hraw (by omega)) rfl rfl rfl ?_
    simp +decide (disch := first | omega | rfl | (simp +decide only [go_sem, ↓reduceIte, beq_self_eq_true] <;> rfl) | fail) only [go_sem, ↓reduceIte, rem64K, quo64K, remI64K, quoI64K, mulK64, mk_empty, sl_3n, app_nil_map, mk_i64, max_nat, beq_self_eq_true]
    refine call_eq0 hP alive_spec rfl rfl rfl ?_
    simp +decide (disch := first | omega | rfl | (simp +decide only [go_sem, ↓reduceIte] <;> rfl) | fail) only [go_sem, ↓reduceIte, rem64K, quo64K, remI64K, quoI64K, mulK64, mk_empty, sl_3n, app_nil_map, mk_i64, max_nat]
    exact retV_eq rfl rfl
  · rw [if_pos ho] at s1 s2
    have hraw : Raw 5 false [] [] := ⟨by simp [limbs], by simp [limbs], by simp, by simp, by omega⟩
    simp +decide (disch := first | omega | rfl | (simp +decide only [go_sem, ↓reduceIte] <;> rfl) | fail) only [go_sem, ↓reduceIte, rem64K, quo64K, remI64K, quoI64K, mulK64, mk_empty, sl_3n, app_nil_map, mk_i64, max_nat]
    refine call_eq0 hP s1 rfl rfl rfl ?_
    simp +decide (disch := first | omega | rfl | (simp +decide only [go_sem, ↓reduceIte] <;> rfl) | fail) only [go_sem, ↓reduceIte, rem64K, quo64K, remI64K, quoI64K, mulK64, mk_empty, sl_3n, app_nil_map, mk_i64, max_nat]
    refine call_eq0 hP s2 rfl rfl rfl ?_
    simp +decide (disch := first | omega | rfl | (simp +decide only [go_sem, ↓reduceIte] <;> rfl) | fail) only [go_sem, ↓reduceIte, rem64K, quo64K, remI64K, quoI64K, mulK64, mk_empty, sl_3n, app_nil_map, mk_i64, max_nat]
    refine call_eq0 hP (r3_Same_self hraw (by omega)) rfl rfl rfl ?_
    simp +decide (disch := first | omega | rfl | (simp +decide only [go_sem, ↓reduceIte, beq_self_eq_true] <;> rfl) | fail) only [go_sem, ↓reduceIte, rem64K, quo64K, remI64K, quoI64K, mulK64, mk_empty, sl_3n, app_nil_map, mk_i64, max_nat, beq_self_eq_true]
    refine call_eq0 hP alive_spec rfl rfl rfl ?_
    simp +decide (disch := first | omega | rfl | (simp +decide only [go_sem, ↓reduceIte] <;> rfl) | fail) only [go_sem, ↓reduceIte, rem64K, quo64K, remI64K, quoI64K, mulK64, mk_empty, sl_3n, app_nil_map, mk_i64, max_nat]
    exact retV_eq rfl rfl
theorem PolyEvals_all {p : List RTm} {l : List RQ} (hp : RPoly p) (hl : RRats l) : FnSpec Tryz.prog 4 [PV.rpoly p, PV.rqs l] (· = .bool true) :=
  PolyEvals_walk (k := 1048576) (fun t ht => (hp.2 t ht).1) hl.2 (by omega) (by omega) (by have := hp.1; omega) (by have := hl.1; omega)
end Go.Proofs.YtfhmockdgbkpnaaGreat
namespace Go.Proofs.YtfhmockdgbkpnaaGreat
open Go Go.FW Go.ChangeShapes Go.WideShapes Go.ChangeAt Go.RowKit
set_option linter.unusedSimpArgs false
set_option linter.unusedVariables false
set_option maxRecDepth 100000
theorem polyEvals_contract (H : Type) (enc : TypeId × Value → H) (W : World) (base : Nat) (args : Array Value) (ds gs : List (DataW H)) (before : List MemPlace)
    (hval : ∀ (j : Nat) t v, Tryz.f4.params[j]? = some t → args[j]? = some v → Value.okWide Tryz.prog W .any base t v)
    (hW : DataW.Whole enc Tryz.prog Tryz.f4.params.toList Rows.polyEvalsSpec.vars false W args.toList ds gs before) (hk : Rows.uptoSmall H (ds ++ gs) = true) :
    Calls Tryz.prog 4 args W fun e W' => ∃ v, e = .returned v ∧ Rows.polyEvalsSpec.post enc Tryz.prog Tryz.f4 false true false false W args v W' := by
  have hW' := hW
  obtain ⟨p, q, hA0, hV, rfl, hfz, hnd⟩ := hW
  have hA : DataW.TrodAll enc Tryz.prog W 0 (fun _ => true) true Tryz.f4.params.toList args.toList ds p := hA0
  rw [Tryz.params4] at hA hval
  obtain ⟨v0, vs0, e0, ds0, p0, q0, hargs, rfl, rfl, h0, r0⟩ := trodAll_cons hA
  obtain ⟨v1, vs1, e1, ds1, p1, q1, rfl, rfl, rfl, h1, r1⟩ := trodAll_cons r0
  obtain ⟨rfl, rfl, rfl⟩ := trodAll_nil r1
  obtain rfl : args = #[v0, v1] := by cases args; simp_all
  obtain ⟨rfl, rfl⟩ := trodVars_none hV
  have hb := bulk_all hk
  simp only [List.append_nil, Rows.uptoBulkAll] at hb
  obtain ⟨a0, g0, b0⟩ := arg_poly (hval 0 _ v0 rfl rfl) h0 (by omega)
  obtain ⟨a1, g1, b1⟩ := arg_rats (hval 1 _ v1 rfl rfl) h1 (by omega)
  exact post_true hW' rfl (by kernel_rfl) (by kernel_rfl) rfl (PolyEvals_all b0 b1) rfl
    (rep_list (vs := [v0, v1]) (by
      intro i x hx v hv
      match i, hx, hv with
      | 0, hx, hv => simp at hx hv; subst hx hv; exact g0
      | 1, hx, hv => simp at hx hv; subst hx hv; exact g1
      | i + 2, hx, hv => simp at hx) rfl)
theorem polyEvals_lifted (os : Os) (started : os.Started) (H : Type) (enc : TypeId × Value → H) (F : Stop.Interp) :
    ReturnsInHanded {} Tryz.checked os 4 .any ((Rows.OpenSpec.upto Rows.polyEvalsSpec).pre6 enc Tryz.prog Tryz.f4 Rows.polyEvalsUptoRow.domain false) (((Rows.OpenSpec.upto Rows.polyEvalsSpec).at F).post enc Tryz.prog Tryz.f4 false true false false) := by
  refine returnsInHanded_of_cond (C := Tryz.checked) (s := Rows.OpenSpec.upto Rows.polyEvalsSpec) (k := Rows.uptoSmall) rfl own started (by kernel_rfl) Tryz.func4
    (OpenSpec.witness (enc := enc) (C := Tryz.checked) (s := Rows.OpenSpec.upto Rows.polyEvalsSpec) (k := Rows.uptoSmall) rfl false ⟨#[], #[.slice none 0 0, .slice none 0 0], []⟩ 8 (by kernel_rfl) (by kernel_rfl) (by kernel_rfl)
      (x := ([.nil, .nil], [], [])) (by kernel_rfl) rfl (by kernel_rfl)) ?_
  intro W base args ds gs before hval hW _ hk _
  exact polyEvals_contract H enc W base args ds gs before hval hW hk
theorem polyEvals_proved : Rows.PolyEvalsUptoSaid :=
  OpenClaim.holds_of_cond 4 Tryz.f4 rfl rfl rfl rfl rfl rfl rfl ⟨rfl, rfl, rfl, rfl, rfl⟩ rfl rfl rfl rfl rfl (by kernel_rfl) Tryz.func4 (by kernel_rfl)
    (of_decide_eq_true (by kernel_rfl)) (by unfold Func.isWrapper; first | (rw [if_pos (by decide +kernel)]; kernel_rfl) | (rw [if_neg (by decide +kernel)]; exact ⟨rfl, rfl⟩))
    (fun os started H enc _ F => polyEvals_lifted os started H enc F)
end Go.Proofs.YtfhmockdgbkpnaaGreat
