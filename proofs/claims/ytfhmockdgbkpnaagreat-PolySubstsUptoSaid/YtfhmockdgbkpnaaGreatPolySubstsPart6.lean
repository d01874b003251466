/- Part 6 of the proof of PolySubsts: U1, CP, P1, P2, U2, P3, P4, U3, CL, U4, U5, CT, FwSD, FwSE, FwSF, FwSG, FwSH. Own lemmas; no conditions. -/
import Derived.Test.YtfhmockdgbkpnaaGreatPolySubstsPart5
set_option linter.unusedSimpArgs false
set_option linter.unnecessarySimpa false
set_option linter.unusedVariables false
namespace Go.Proofs.YtfhmockdgbkpnaaGreat
open Go Go.FW
set_option linter.unusedSimpArgs false
set_option linter.unusedVariables false
set_option maxRecDepth 100000
theorem r3_Add_q {a b : Rat} {k : Nat} (ha : rs a ≤ k) (hb : rs b ≤ k) (hk : k < 2 ^ 34) : FnSpec Tryz.prog 66 [PV.rat a, PV.rat b] (· = PV.rat (a + b)) := by
  have := r3_Add_spec (raw_of ha) (raw_of hb) hk
  rwa [rv_of, rv_of] at this
theorem r3_Mul_q {a b : Rat} {k : Nat} (ha : rs a ≤ k) (hb : rs b ≤ k) (hk : k < 2 ^ 34) : FnSpec Tryz.prog 64 [PV.rat a, PV.rat b] (· = PV.rat (a * b)) := by
  have := r3_Mul_spec (raw_of ha) (raw_of hb) hk
  rwa [rv_of, rv_of] at this
theorem r3_Cmp_q {a b : Rat} {k : Nat} (ha : rs a ≤ k) (hb : rs b ≤ k) (hk : k < 2 ^ 34) : FnSpec Tryz.prog 83 [PV.rat a, PV.rat b] (· = .int .i64 (cmpQ a b)) := by
  have := r3_Cmp_spec (raw_of ha) (raw_of hb) hk
  rwa [rv_of, rv_of] at this
theorem r3_Sign_q {a : Rat} (ha : rs a < 2 ^ 36) : FnSpec Tryz.prog 86 [PV.rat a] (· = .int .i64 (sgnQ a)) := by
  have := r3_Sign_spec (raw_of (Nat.le_refl (rs a))) ha
  rwa [rv_of] at this
theorem r5_lex {k : Nat} {a b : List Int} (ha : MB k a) (hb : MB k b) (hk : k ≤ 1099511627776) : FnSpec Tryz.prog 74 [PV.mono a, PV.mono b, .int .i64 0] (· = .int .i64 (cmpM a b)) := by
  have := r5_Cmp_spec (o := 0) ha hb hk
  rwa [cmpO_0] at this
theorem r6_Cmp_spec {p q : List Tm} {K E : Nat} (hp : PB K E p) (hq : PB K E q) (hK : K ≤ 2 ^ 33) (hE : E ≤ 2 ^ 38) (hlp : p.length ≤ 2 ^ 36) (hlq : q.length ≤ 2 ^ 36) :
    FnSpec Tryz.prog 32 [PV.poly p, PV.poly q] (· = .int .i64 (pcmp p q)) := by
  refine fn_of_vc mixed Tryz.func32 rfl c32_ok (by simp [c32]) fun C hP => ?_; simp only [c32]
  simp +decide (disch := first | omega | rfl | (simp +decide only [go_sem, ↓reduceIte] <;> rfl) | fail) only [go_sem, ↓reduceIte, rem64K, quo64K, remI64K, quoI64K, mulK64, mk_empty, sl_3n, app_nil_map, mk_i64, max_nat]
  refine vc_loopF (by repeat (first | exact okSk_ret | exact okSk_retM | exact okSk_retO | apply okSk_back | apply okSk_out | apply okSk_eb | apply okSk_c | apply okSk_o | apply okSk_again | apply okSk_backW)) [(4, 47)] [] (fun n J hp => ∃ i, n = p.length - i ∧ i ≤ p.length ∧ i ≤ q.length ∧ pcmp (p.drop i) (q.drop i) = pcmp p q ∧ J 5 = .int .i64 (i : Nat)) p.length ?_ ?_
  · refine ⟨0, rfl, by omega, by omega, rfl, ?_⟩
    simp +decide (disch := first | omega | rfl | (simp +decide only [go_sem, ↓reduceIte] <;> rfl) | fail) only [go_sem, ↓reduceIte, rem64K, quo64K, remI64K, quoI64K, mulK64, mk_empty, sl_3n, app_nil_map, mk_i64, max_nat]
    rfl
  rintro _ J h ⟨i, rfl, hi, hi2, hpc, h5⟩
  simp +decide (disch := first | omega | rfl | (simp +decide only [go_sem, ↓reduceIte, h5] <;> rfl) | fail) only [go_sem, ↓reduceIte, rem64K, quo64K, remI64K, quoI64K, mulK64, mk_empty, sl_3n, app_nil_map, mk_i64, max_nat, h5]
  refine guard_split (fun hg => ?_) (fun hg => ?_)
  · have hi' : i < p.length := by omega
    simp +decide (disch := first | omega | rfl | (simp +decide only [go_sem, ↓reduceIte, h5] <;> rfl) | fail) only [go_sem, ↓reduceIte, rem64K, quo64K, remI64K, quoI64K, mulK64, mk_empty, sl_3n, app_nil_map, mk_i64, max_nat, h5]
    refine cond_split (fun hk => ?_) (fun hk => ?_)
    · have hk' : i < q.length := by omega
      have htp := hp.get hi'
      have htq := hq.get hk'
      have c1 := htp.c
      have c2 := htq.c
      rw [pcmp_drop hi' hk'] at hpc
      generalize hx : p[i] = x at *
      generalize hy : q[i] = y at *
      simp +decide (disch := first | omega | rfl | (simp +decide only [go_sem, ↓reduceIte, h5, hx, hy] <;> rfl) | fail) only [go_sem, ↓reduceIte, rem64K, quo64K, remI64K, quoI64K, mulK64, mk_empty, sl_3n, app_nil_map, mk_i64, max_nat, h5, hx, hy]
      refine call_eq0 hP (r5_lex htp.m htq.m (by omega)) rfl rfl rfl ?_
      simp +decide (disch := first | omega | rfl | (simp +decide only [go_sem, ↓reduceIte, h5, hx, hy] <;> rfl) | fail) only [go_sem, ↓reduceIte, rem64K, quo64K, remI64K, quoI64K, mulK64, mk_empty, sl_3n, app_nil_map, mk_i64, max_nat, h5, hx, hy]
      refine cond_split (fun hc => ?_) (fun hc => ?_)
      · simp +decide (disch := first | omega | rfl | (simp +decide only [go_sem, ↓reduceIte] <;> rfl) | fail) only [go_sem, ↓reduceIte, rem64K, quo64K, remI64K, quoI64K, mulK64, mk_empty, sl_3n, app_nil_map, mk_i64, max_nat]
        exact retV_eq (by rw [← hpc, if_pos (by rw [cmpT, if_pos hc]; exact hc), cmpT, if_pos hc]) rfl
      · simp +decide (disch := first | omega | rfl | (simp +decide only [go_sem, ↓reduceIte, h5, hx, hy] <;> rfl) | fail) only [go_sem, ↓reduceIte, rem64K, quo64K, remI64K, quoI64K, mulK64, mk_empty, sl_3n, app_nil_map, mk_i64, max_nat, h5, hx, hy]
        refine call_eq0 hP (r3_Cmp_q (a := x.1) (b := y.1) (k := 2 ^ 33) (by omega) (by omega) (by omega)) rfl rfl rfl ?_
        simp +decide (disch := first | omega | rfl | (simp +decide only [go_sem, ↓reduceIte, h5, hx, hy] <;> rfl) | fail) only [go_sem, ↓reduceIte, rem64K, quo64K, remI64K, quoI64K, mulK64, mk_empty, sl_3n, app_nil_map, mk_i64, max_nat, h5, hx, hy]
        refine cond_split (fun hc2 => ?_) (fun hc2 => ?_)
        · simp +decide (disch := first | omega | rfl | (simp +decide only [go_sem, ↓reduceIte] <;> rfl) | fail) only [go_sem, ↓reduceIte, rem64K, quo64K, remI64K, quoI64K, mulK64, mk_empty, sl_3n, app_nil_map, mk_i64, max_nat]
          exact retV_eq (by rw [← hpc, if_pos (by rw [cmpT, if_neg hc]; exact hc2), cmpT, if_neg hc]) rfl
        · rw [if_neg (by rw [cmpT, if_neg hc]; exact hc2)] at hpc
          simp +decide (disch := first | omega | rfl | (simp +decide only [go_sem, ↓reduceIte, h5] <;> rfl) | fail) only [go_sem, ↓reduceIte, rem64K, quo64K, remI64K, quoI64K, mulK64, mk_empty, sl_3n, app_nil_map, mk_i64, max_nat, h5]
          refine back_ovr (p.length - (i + 1)) (by omega) ⟨i + 1, rfl, by omega, by omega, hpc, ?_⟩
          simp +decide (disch := first | omega | rfl | (simp +decide only [go_sem, ↓reduceIte] <;> rfl) | fail) only [go_sem, ↓reduceIte, rem64K, quo64K, remI64K, quoI64K, mulK64, mk_empty, sl_3n, app_nil_map, mk_i64, max_nat]
    simp +decide (disch := first | omega | rfl | (simp +decide only [go_sem, ↓reduceIte] <;> rfl) | fail) only [go_sem, ↓reduceIte, rem64K, quo64K, remI64K, quoI64K, mulK64, mk_empty, sl_3n, app_nil_map, mk_i64, max_nat]
    refine cond_split (fun hk => ?_) (fun hk => ?_)
    · simp +decide (disch := first | omega | rfl | (simp +decide only [go_sem, ↓reduceIte] <;> rfl) | fail) only [go_sem, ↓reduceIte, rem64K, quo64K, remI64K, quoI64K, mulK64, mk_empty, sl_3n, app_nil_map, mk_i64, max_nat]
      exact retV_eq (by rw [← hpc, List.drop_of_length_le (show p.length ≤ i by omega), pcmp_end, if_neg (by rw [List.length_drop]; omega)]) rfl
    · simp +decide (disch := first | omega | rfl | (simp +decide only [go_sem, ↓reduceIte] <;> rfl) | fail) only [go_sem, ↓reduceIte, rem64K, quo64K, remI64K, quoI64K, mulK64, mk_empty, sl_3n, app_nil_map, mk_i64, max_nat]
      refine cond_split (fun hk2 => ?_) (fun hk2 => ?_)
      · simp +decide (disch := first | omega | rfl | (simp +decide only [go_sem, ↓reduceIte] <;> rfl) | fail) only [go_sem, ↓reduceIte, rem64K, quo64K, remI64K, quoI64K, mulK64, mk_empty, sl_3n, app_nil_map, mk_i64, max_nat]
        refine retV_eq ?_ rfl
        rw [← hpc, List.drop_eq_getElem_cons (show i < p.length by omega), List.drop_of_length_le (show q.length ≤ i by omega), pcmp]
      · simp +decide (disch := first | omega | rfl | (simp +decide only [go_sem, ↓reduceIte] <;> rfl) | fail) only [go_sem, ↓reduceIte, rem64K, quo64K, remI64K, quoI64K, mulK64, mk_empty, sl_3n, app_nil_map, mk_i64, max_nat]
        exact retV_eq (by rw [← hpc, List.drop_of_length_le (show p.length ≤ i by omega), pcmp_end, if_pos (by rw [List.length_drop]; omega)]) rfl
  · have hi' : i = p.length := by omega
    simp +decide (disch := first | omega | rfl | (simp +decide only [go_sem, ↓reduceIte] <;> rfl) | fail) only [go_sem, ↓reduceIte, rem64K, quo64K, remI64K, quoI64K, mulK64, mk_empty, sl_3n, app_nil_map, mk_i64, max_nat]
    refine cond_split (fun hk => ?_) (fun hk => ?_)
    · simp +decide (disch := first | omega | rfl | (simp +decide only [go_sem, ↓reduceIte] <;> rfl) | fail) only [go_sem, ↓reduceIte, rem64K, quo64K, remI64K, quoI64K, mulK64, mk_empty, sl_3n, app_nil_map, mk_i64, max_nat]
      exact retV_eq (by rw [← hpc, List.drop_of_length_le (show p.length ≤ i by omega), pcmp_end, if_neg (by rw [List.length_drop]; omega)]) rfl
    · simp +decide (disch := first | omega | rfl | (simp +decide only [go_sem, ↓reduceIte] <;> rfl) | fail) only [go_sem, ↓reduceIte, rem64K, quo64K, remI64K, quoI64K, mulK64, mk_empty, sl_3n, app_nil_map, mk_i64, max_nat]
      refine cond_split (fun hk2 => ?_) (fun hk2 => ?_)
      · simp +decide (disch := first | omega | rfl | (simp +decide only [go_sem, ↓reduceIte] <;> rfl) | fail) only [go_sem, ↓reduceIte, rem64K, quo64K, remI64K, quoI64K, mulK64, mk_empty, sl_3n, app_nil_map, mk_i64, max_nat]
        refine retV_eq ?_ rfl
        rw [← hpc, List.drop_eq_getElem_cons (show i < p.length by omega), List.drop_of_length_le (show q.length ≤ i by omega), pcmp]
      · simp +decide (disch := first | omega | rfl | (simp +decide only [go_sem, ↓reduceIte] <;> rfl) | fail) only [go_sem, ↓reduceIte, rem64K, quo64K, remI64K, quoI64K, mulK64, mk_empty, sl_3n, app_nil_map, mk_i64, max_nat]
        exact retV_eq (by rw [← hpc, List.drop_of_length_le (show p.length ≤ i by omega), pcmp_end, if_pos (by rw [List.length_drop]; omega)]) rfl
theorem r6_Equal_spec {p q : List Tm} {K E : Nat} (hp : PB K E p) (hq : PB K E q) (hK : K ≤ 2 ^ 33) (hE : E ≤ 2 ^ 38) (hlp : p.length ≤ 2 ^ 36) (hlq : q.length ≤ 2 ^ 36) : FnSpec Tryz.prog 16 [PV.poly p, PV.poly q] (· = .bool (decide (p = q))) := by
  refine fn_of_vc mixed Tryz.func16 rfl c16_ok (by simp [c16]) fun C hP => ?_; simp only [c16]
  simp +decide (disch := first | omega | rfl | (simp +decide only [go_sem, ↓reduceIte] <;> rfl) | fail) only [go_sem, ↓reduceIte, rem64K, quo64K, remI64K, quoI64K, mulK64, mk_empty, sl_3n, app_nil_map, mk_i64, max_nat]
  refine call_eq0 hP (r6_Cmp_spec hp hq hK hE hlp hlq) rfl rfl rfl ?_
  simp +decide (disch := first | omega | rfl | (simp +decide only [go_sem, ↓reduceIte] <;> rfl) | fail) only [go_sem, ↓reduceIte, rem64K, quo64K, remI64K, quoI64K, mulK64, mk_empty, sl_3n, app_nil_map, mk_i64, max_nat]
  exact retV_eq (congrArg PV.bool (decide_eq_decide.2 (pcmp_eq hp.last hq.last))) rfl
theorem r6_Add_spec {p q : List Tm} {K E : Nat} (hp : PB K E p) (hq : PB K E q) (hK : K ≤ 2 ^ 32) (hE : E ≤ 2 ^ 38) (hlp : p.length ≤ 2 ^ 36) (hlq : q.length ≤ 2 ^ 36) :
    FnSpec Tryz.prog 36 [PV.poly p, PV.poly q] (· = PV.poly (padd p q)) := by
  refine fn_of_vc mixed Tryz.func36 rfl c36_ok (by simp [c36]) fun C hP => ?_; simp only [c36]
  simp +decide (disch := first | omega | rfl | (simp +decide only [go_sem, ↓reduceIte] <;> rfl) | fail) only [go_sem, ↓reduceIte, rem64K, quo64K, remI64K, quoI64K, mulK64, mk_empty, sl_3n, app_nil_map, mk_i64, max_nat]
  refine vc_nilF 5 900 4 49 (by omega) (by simp +decide (disch := first | omega | rfl | (simp +decide only [go_sem, ↓reduceIte] <;> rfl) | fail) only [go_sem, ↓reduceIte, rem64K, quo64K, remI64K, quoI64K, mulK64, mk_empty, sl_3n, app_nil_map, mk_i64, max_nat]) ?_
  refine vc_loopF (by repeat (first | exact okSk_ret | exact okSk_retM | exact okSk_retO | apply okSk_back | apply okSk_out | apply okSk_eb | apply okSk_c | apply okSk_o | apply okSk_again | apply okSk_backW)) [(5, 90)] [9, 61, 62, 75, 76, 87, 88, 900] (fun n J hp => ∃ i k out, n = (p.length - i) + (q.length - k) ∧ i ≤ p.length ∧ k ≤ q.length ∧ out.length ≤ i + k ∧ out ++ padd (p.drop i) (q.drop k) = padd p q ∧
    J 5 = .ms 900 out.length ∧ J 6 = .int .i64 (i : Nat) ∧ J 7 = .int .i64 (k : Nat) ∧ hp 900 = some ⟨4, 49, out.map PV.term, false⟩) (p.length + q.length) ?_ ?_
  · refine ⟨0, 0, [], by omega, by omega, by omega, by simp, rfl, ?_⟩
    simp +decide (disch := first | omega | rfl | (simp +decide only [go_sem, ↓reduceIte] <;> rfl) | fail) only [go_sem, ↓reduceIte, rem64K, quo64K, remI64K, quoI64K, mulK64, mk_empty, sl_3n, app_nil_map, mk_i64, max_nat]
    simp
  rintro _ J h ⟨i, k, out, rfl, hi, hk, hol, hpad, h5, h6, h7, hh⟩
  simp +decide (disch := first | omega | rfl | (simp +decide only [go_sem, ↓reduceIte, h5, h6, h7] <;> rfl) | fail) only [go_sem, ↓reduceIte, rem64K, quo64K, remI64K, quoI64K, mulK64, mk_empty, sl_3n, app_nil_map, mk_i64, max_nat, h5, h6, h7]
  refine guard_splitF (fun hg => ?_) (fun hg => ?_)
  · have hi' : i < p.length := by omega
    simp +decide (disch := first | omega | rfl | (simp +decide only [go_sem, ↓reduceIte, h5, h6, h7] <;> rfl) | fail) only [go_sem, ↓reduceIte, rem64K, quo64K, remI64K, quoI64K, mulK64, mk_empty, sl_3n, app_nil_map, mk_i64, max_nat, h5, h6, h7]
    refine cond_split (fun h => by omega) (fun _ => ?_)
    simp +decide (disch := first | omega | rfl | (simp +decide only [go_sem, ↓reduceIte, h5, h6, h7] <;> rfl) | fail) only [go_sem, ↓reduceIte, rem64K, quo64K, remI64K, quoI64K, mulK64, mk_empty, sl_3n, app_nil_map, mk_i64, max_nat, h5, h6, h7]
    refine cond_split (fun hg2 => ?_) (fun hg2 => ?_)
    · have hk' : k < q.length := by omega
      have htp := hp.get hi'
      have htq := hq.get hk'
      rw [padd_drop hi' hk'] at hpad
      have c1 := htp.c
      have c2 := htq.c
      generalize hx : p[i] = x at *
      generalize hy : q[k] = y at *
      simp +decide (disch := first | omega | rfl | (simp +decide only [go_sem, ↓reduceIte, h5, h6, h7, hx, hy] <;> rfl) | fail) only [go_sem, ↓reduceIte, rem64K, quo64K, remI64K, quoI64K, mulK64, mk_empty, sl_3n, app_nil_map, mk_i64, max_nat, h5, h6, h7, hx, hy]
      refine call_eq0 hP (r5_lex htp.m htq.m (by omega)) rfl rfl rfl ?_
      simp +decide (disch := first | omega | rfl | (simp +decide only [go_sem, ↓reduceIte, h5, h6, h7, hx, hy] <;> rfl) | fail) only [go_sem, ↓reduceIte, rem64K, quo64K, remI64K, quoI64K, mulK64, mk_empty, sl_3n, app_nil_map, mk_i64, max_nat, h5, h6, h7, hx, hy]
      refine cond_split (fun hc => ?_) (fun hc => ?_)
      · rw [if_pos hc] at hpad
        simp +decide (disch := first | omega | rfl | (simp +decide only [go_sem, ↓reduceIte, h5, h6, h7, hx] <;> rfl) | fail) only [go_sem, ↓reduceIte, rem64K, quo64K, remI64K, quoI64K, mulK64, mk_empty, sl_3n, app_nil_map, mk_i64, max_nat, h5, h6, h7, hx]
        rw [app_push_map (f := PV.term) (y := x) (xs := out) (ty' := 49) (fz := false) (by simp +decide (disch := first | omega | rfl | (simp +decide only [go_sem, ↓reduceIte, hh] <;> rfl) | fail) only [go_sem, ↓reduceIte, rem64K, quo64K, remI64K, quoI64K, mulK64, mk_empty, sl_3n, app_nil_map, mk_i64, max_nat, hh]) (by simp +decide (disch := first | omega | rfl | (simp +decide only [go_sem, ↓reduceIte] <;> rfl) | fail) only [go_sem, ↓reduceIte, rem64K, quo64K, remI64K, quoI64K, mulK64, mk_empty, sl_3n, app_nil_map, mk_i64, max_nat] <;> rfl) (by omega) rfl (by omega) (by omega)]
        simp +decide (disch := first | omega | rfl | (simp +decide only [go_sem, ↓reduceIte, h5, h6, h7, hx] <;> rfl) | fail) only [go_sem, ↓reduceIte, rem64K, quo64K, remI64K, quoI64K, mulK64, mk_empty, sl_3n, app_nil_map, mk_i64, max_nat, h5, h6, h7, hx]
        refine back_ovr ((p.length - (i + 1)) + (q.length - k)) (by omega) ⟨i + 1, k, out ++ [x], rfl, by omega, hk, by simp; omega, by simpa using hpad, ?_⟩
        simp +decide (disch := first | omega | rfl | (simp +decide only [go_sem, ↓reduceIte, h5, h6, h7] <;> rfl) | fail) only [go_sem, ↓reduceIte, rem64K, quo64K, remI64K, quoI64K, mulK64, mk_empty, sl_3n, app_nil_map, mk_i64, max_nat, h5, h6, h7]
        simp
      rw [if_neg hc] at hpad
      simp +decide (disch := first | omega | rfl | (simp +decide only [go_sem, ↓reduceIte, h5, h6, h7, hx, hy] <;> rfl) | fail) only [go_sem, ↓reduceIte, rem64K, quo64K, remI64K, quoI64K, mulK64, mk_empty, sl_3n, app_nil_map, mk_i64, max_nat, h5, h6, h7, hx, hy]
      refine cond_split (fun hc2 => ?_) (fun hc2 => ?_)
      · rw [if_pos hc2] at hpad
        simp +decide (disch := first | omega | rfl | (simp +decide only [go_sem, ↓reduceIte, h5, h6, h7, hy] <;> rfl) | fail) only [go_sem, ↓reduceIte, rem64K, quo64K, remI64K, quoI64K, mulK64, mk_empty, sl_3n, app_nil_map, mk_i64, max_nat, h5, h6, h7, hy]
        rw [app_push_map (f := PV.term) (y := y) (xs := out) (ty' := 49) (fz := false) (by simp +decide (disch := first | omega | rfl | (simp +decide only [go_sem, ↓reduceIte, hh] <;> rfl) | fail) only [go_sem, ↓reduceIte, rem64K, quo64K, remI64K, quoI64K, mulK64, mk_empty, sl_3n, app_nil_map, mk_i64, max_nat, hh]) (by simp +decide (disch := first | omega | rfl | (simp +decide only [go_sem, ↓reduceIte] <;> rfl) | fail) only [go_sem, ↓reduceIte, rem64K, quo64K, remI64K, quoI64K, mulK64, mk_empty, sl_3n, app_nil_map, mk_i64, max_nat] <;> rfl) (by omega) rfl (by omega) (by omega)]
        simp +decide (disch := first | omega | rfl | (simp +decide only [go_sem, ↓reduceIte, h5, h6, h7, hy] <;> rfl) | fail) only [go_sem, ↓reduceIte, rem64K, quo64K, remI64K, quoI64K, mulK64, mk_empty, sl_3n, app_nil_map, mk_i64, max_nat, h5, h6, h7, hy]
        refine back_ovr ((p.length - i) + (q.length - (k + 1))) (by omega) ⟨i, k + 1, out ++ [y], rfl, by omega, by omega, by simp; omega, by simpa using hpad, ?_⟩
        simp +decide (disch := first | omega | rfl | (simp +decide only [go_sem, ↓reduceIte, h5, h6, h7] <;> rfl) | fail) only [go_sem, ↓reduceIte, rem64K, quo64K, remI64K, quoI64K, mulK64, mk_empty, sl_3n, app_nil_map, mk_i64, max_nat, h5, h6, h7]
        simp
      rw [if_neg hc2] at hpad
      have hra := rs_add x.1 y.1
      simp +decide (disch := first | omega | rfl | (simp +decide only [go_sem, ↓reduceIte, h5, h6, h7, hx, hy] <;> rfl) | fail) only [go_sem, ↓reduceIte, rem64K, quo64K, remI64K, quoI64K, mulK64, mk_empty, sl_3n, app_nil_map, mk_i64, max_nat, h5, h6, h7, hx, hy]
      refine br_intro ?_ ?_
      all_goals
        simp +decide (disch := first | omega | rfl | (simp +decide only [go_sem, ↓reduceIte, h5, h6, h7, hx, hy] <;> rfl) | fail) only [go_sem, ↓reduceIte, rem64K, quo64K, remI64K, quoI64K, mulK64, mk_empty, sl_3n, app_nil_map, mk_i64, max_nat, h5, h6, h7, hx, hy]
        refine call_eq0 hP (r3_Add_q (a := x.1) (b := y.1) (k := 2 ^ 32) (by omega) (by omega) (by omega)) rfl rfl rfl ?_
        simp +decide (disch := first | omega | rfl | (simp +decide only [go_sem, ↓reduceIte, h5, h6, h7, hx, hy] <;> rfl) | fail) only [go_sem, ↓reduceIte, rem64K, quo64K, remI64K, quoI64K, mulK64, mk_empty, sl_3n, app_nil_map, mk_i64, max_nat, h5, h6, h7, hx, hy]
        refine call_eq0 hP (r3_Sign_q (a := x.1 + y.1) (by omega)) rfl rfl rfl ?_
        simp +decide (disch := first | omega | rfl | (simp +decide only [go_sem, ↓reduceIte, h5, h6, h7, hx, hy] <;> rfl) | fail) only [go_sem, ↓reduceIte, rem64K, quo64K, remI64K, quoI64K, mulK64, mk_empty, sl_3n, app_nil_map, mk_i64, max_nat, h5, h6, h7, hx, hy]
        refine cond_split (fun hz => ?_) (fun hz => ?_)
        · rw [if_neg (fun h => hz (sgnQ_zero.2 h))] at hpad
          simp +decide (disch := first | omega | rfl | (simp +decide only [go_sem, ↓reduceIte, h5, h6, h7, hx, hy] <;> rfl) | fail) only [go_sem, ↓reduceIte, rem64K, quo64K, remI64K, quoI64K, mulK64, mk_empty, sl_3n, app_nil_map, mk_i64, max_nat, h5, h6, h7, hx, hy]
          rw [app_push_map (f := PV.term) (y := (x.1 + y.1, x.2)) (xs := out) (ty' := 49) (fz := false) (by simp +decide (disch := first | omega | rfl | (simp +decide only [go_sem, ↓reduceIte, hh] <;> rfl) | fail) only [go_sem, ↓reduceIte, rem64K, quo64K, remI64K, quoI64K, mulK64, mk_empty, sl_3n, app_nil_map, mk_i64, max_nat, hh]) (by simp +decide (disch := first | omega | rfl | (simp +decide only [go_sem, ↓reduceIte] <;> rfl) | fail) only [go_sem, ↓reduceIte, rem64K, quo64K, remI64K, quoI64K, mulK64, mk_empty, sl_3n, app_nil_map, mk_i64, max_nat] <;> rfl) (by omega) rfl (by omega) (by omega)]
          simp +decide (disch := first | omega | rfl | (simp +decide only [go_sem, ↓reduceIte, h5, h6, h7, hx, hy] <;> rfl) | fail) only [go_sem, ↓reduceIte, rem64K, quo64K, remI64K, quoI64K, mulK64, mk_empty, sl_3n, app_nil_map, mk_i64, max_nat, h5, h6, h7, hx, hy]
          refine back_ovr ((p.length - (i + 1)) + (q.length - (k + 1))) (by omega) ⟨i + 1, k + 1, out ++ [(x.1 + y.1, x.2)], rfl, by omega, by omega, by simp; omega, by simpa using hpad, ?_⟩
          simp +decide (disch := first | omega | rfl | (simp +decide only [go_sem, ↓reduceIte, h5, h6, h7] <;> rfl) | fail) only [go_sem, ↓reduceIte, rem64K, quo64K, remI64K, quoI64K, mulK64, mk_empty, sl_3n, app_nil_map, mk_i64, max_nat, h5, h6, h7]
          simp
        · rw [if_pos (sgnQ_zero.1 (Decidable.not_not.1 hz))] at hpad
          simp +decide (disch := first | omega | rfl | (simp +decide only [go_sem, ↓reduceIte, h5, h6, h7, hx, hy] <;> rfl) | fail) only [go_sem, ↓reduceIte, rem64K, quo64K, remI64K, quoI64K, mulK64, mk_empty, sl_3n, app_nil_map, mk_i64, max_nat, h5, h6, h7, hx, hy]
          refine back_ovr ((p.length - (i + 1)) + (q.length - (k + 1))) (by omega) ⟨i + 1, k + 1, out, rfl, by omega, by omega, by omega, hpad, ?_⟩
          simp +decide (disch := first | omega | rfl | (simp +decide only [go_sem, ↓reduceIte, h5, h6, h7, hh] <;> rfl) | fail) only [go_sem, ↓reduceIte, rem64K, quo64K, remI64K, quoI64K, mulK64, mk_empty, sl_3n, app_nil_map, mk_i64, max_nat, h5, h6, h7, hh]
    · rw [List.drop_of_length_le (show q.length ≤ k by omega), padd_nil, List.drop_eq_getElem_cons hi'] at hpad
      have hpad : out ++ p[i] :: padd (p.drop (i + 1)) (q.drop k) = padd p q := by rw [List.drop_of_length_le (show q.length ≤ k by omega), padd_nil]; exact hpad
      generalize hx : p[i] = x at *
      simp +decide (disch := first | omega | rfl | (simp +decide only [go_sem, ↓reduceIte, h5, h6, h7, hx] <;> rfl) | fail) only [go_sem, ↓reduceIte, rem64K, quo64K, remI64K, quoI64K, mulK64, mk_empty, sl_3n, app_nil_map, mk_i64, max_nat, h5, h6, h7, hx]
      rw [app_push_map (f := PV.term) (y := x) (xs := out) (ty' := 49) (fz := false) (by simp +decide (disch := first | omega | rfl | (simp +decide only [go_sem, ↓reduceIte, hh] <;> rfl) | fail) only [go_sem, ↓reduceIte, rem64K, quo64K, remI64K, quoI64K, mulK64, mk_empty, sl_3n, app_nil_map, mk_i64, max_nat, hh]) (by simp +decide (disch := first | omega | rfl | (simp +decide only [go_sem, ↓reduceIte] <;> rfl) | fail) only [go_sem, ↓reduceIte, rem64K, quo64K, remI64K, quoI64K, mulK64, mk_empty, sl_3n, app_nil_map, mk_i64, max_nat] <;> rfl) (by omega) rfl (by omega) (by omega)]
      simp +decide (disch := first | omega | rfl | (simp +decide only [go_sem, ↓reduceIte, h5, h6, h7, hx] <;> rfl) | fail) only [go_sem, ↓reduceIte, rem64K, quo64K, remI64K, quoI64K, mulK64, mk_empty, sl_3n, app_nil_map, mk_i64, max_nat, h5, h6, h7, hx]
      refine back_ovr ((p.length - (i + 1)) + (q.length - k)) (by omega) ⟨i + 1, k, out ++ [x], rfl, by omega, hk, by simp; omega, by simpa using hpad, ?_⟩
      simp +decide (disch := first | omega | rfl | (simp +decide only [go_sem, ↓reduceIte, h5, h6, h7] <;> rfl) | fail) only [go_sem, ↓reduceIte, rem64K, quo64K, remI64K, quoI64K, mulK64, mk_empty, sl_3n, app_nil_map, mk_i64, max_nat, h5, h6, h7]
      simp
  · have hi' : i = p.length := by omega
    simp +decide (disch := first | omega | rfl | (simp +decide only [go_sem, ↓reduceIte, h5, h6, h7] <;> rfl) | fail) only [go_sem, ↓reduceIte, rem64K, quo64K, remI64K, quoI64K, mulK64, mk_empty, sl_3n, app_nil_map, mk_i64, max_nat, h5, h6, h7]
    refine cond_split (fun hg2 => ?_) (fun hg2 => ?_)
    · have hk' : k < q.length := by omega
      rw [List.drop_of_length_le (show p.length ≤ i by omega), nil_padd, List.drop_eq_getElem_cons hk'] at hpad
      have hpad : out ++ q[k] :: padd (p.drop i) (q.drop (k + 1)) = padd p q := by rw [List.drop_of_length_le (show p.length ≤ i by omega), nil_padd]; exact hpad
      generalize hy : q[k] = y at *
      simp +decide (disch := first | omega | rfl | (simp +decide only [go_sem, ↓reduceIte, h5, h6, h7, hy] <;> rfl) | fail) only [go_sem, ↓reduceIte, rem64K, quo64K, remI64K, quoI64K, mulK64, mk_empty, sl_3n, app_nil_map, mk_i64, max_nat, h5, h6, h7, hy]
      refine cond_split (fun _ => ?_) (fun h => by omega)
      simp +decide (disch := first | omega | rfl | (simp +decide only [go_sem, ↓reduceIte, h5, h6, h7, hy] <;> rfl) | fail) only [go_sem, ↓reduceIte, rem64K, quo64K, remI64K, quoI64K, mulK64, mk_empty, sl_3n, app_nil_map, mk_i64, max_nat, h5, h6, h7, hy]
      rw [app_push_map (f := PV.term) (y := y) (xs := out) (ty' := 49) (fz := false) (by simp +decide (disch := first | omega | rfl | (simp +decide only [go_sem, ↓reduceIte, hh] <;> rfl) | fail) only [go_sem, ↓reduceIte, rem64K, quo64K, remI64K, quoI64K, mulK64, mk_empty, sl_3n, app_nil_map, mk_i64, max_nat, hh]) (by simp +decide (disch := first | omega | rfl | (simp +decide only [go_sem, ↓reduceIte] <;> rfl) | fail) only [go_sem, ↓reduceIte, rem64K, quo64K, remI64K, quoI64K, mulK64, mk_empty, sl_3n, app_nil_map, mk_i64, max_nat] <;> rfl) (by omega) rfl (by omega) (by omega)]
      simp +decide (disch := first | omega | rfl | (simp +decide only [go_sem, ↓reduceIte, h5, h6, h7, hy] <;> rfl) | fail) only [go_sem, ↓reduceIte, rem64K, quo64K, remI64K, quoI64K, mulK64, mk_empty, sl_3n, app_nil_map, mk_i64, max_nat, h5, h6, h7, hy]
      refine back_ovr ((p.length - i) + (q.length - (k + 1))) (by omega) ⟨i, k + 1, out ++ [y], rfl, by omega, by omega, by simp; omega, by simpa using hpad, ?_⟩
      simp +decide (disch := first | omega | rfl | (simp +decide only [go_sem, ↓reduceIte, h5, h6, h7] <;> rfl) | fail) only [go_sem, ↓reduceIte, rem64K, quo64K, remI64K, quoI64K, mulK64, mk_empty, sl_3n, app_nil_map, mk_i64, max_nat, h5, h6, h7]
      simp
    · rw [List.drop_of_length_le (show p.length ≤ i by omega), nil_padd, List.drop_of_length_le (show q.length ≤ k by omega), List.append_nil] at hpad
      simp +decide (disch := first | omega | rfl | (simp +decide only [go_sem, ↓reduceIte, h5, h6, h7, hh, looks3, List.contains_cons, List.contains_nil, List.flatMap_cons, List.flatMap_nil, List.append_nil] <;> rfl) | fail) only [go_sem, ↓reduceIte, rem64K, quo64K, remI64K, quoI64K, mulK64, mk_empty, sl_3n, app_nil_map, mk_i64, max_nat, h5, h6, h7, hh, looks3, List.contains_cons, List.contains_nil, List.flatMap_cons, List.flatMap_nil, List.append_nil]
      exact retV_eq (by rw [List.take_of_length_le (by simp), hpad]) rfl
end Go.Proofs.YtfhmockdgbkpnaaGreat
namespace Go.Proofs.YtfhmockdgbkpnaaGreat
open Go Go.FW
set_option maxRecDepth 100000
def c84 : SFn := ⟨97, [.t 8], .seq (.rg (.o none (.mv 8 (.c .nilS)) .nil)) <| .seq (.rg (.o none (.mv 15 (.t 0)) <|
  .o none (.len 16 (.t 15)) <|
  .o none (.mv 17 (.t 1)) <|
  .o none (.len 18 (.t 17)) <|
  .o none (.bin 19 .add false (.t 16) (.t 18)) <|
  .o none (.mk 20 4 80 49 (.agg [(.bool false), .nilS, .nilS, .nilS]) (.c (.int .i64 0)) (.t 19)) <|
  .o none (.mv 9 (.t 20)) .nil)) <| .seq (.rg (.o none (.mv 10 (.c (.int .i64 0))) <|
  .o none (.mv 11 (.c (.int .i64 0))) .nil)) <| .seq (.block 0 (.loop (.seq (.seq (.rg (.o none (.mv 21 (.t 10)) <|
  .o none (.mv 22 (.t 0)) <|
  .o none (.len 23 (.t 22)) <|
  .o none (.bin 24 .lss false (.t 21) (.t 23)) <|
  .o none (.mv 25 (.t 24)) <|
  .o (some (25, true)) (.mv 26 (.t 11)) <|
  .o (some (25, true)) (.mv 27 (.t 1)) <|
  .o (some (25, true)) (.len 28 (.t 27)) <|
  .o (some (25, true)) (.bin 29 .lss false (.t 26) (.t 28)) <|
  .o none (.pick 30 (.t 25) (.t 29) (.c (.bool false))) .nil)) <| .cond (.t 30) (.skip) (.exit 0)) <| .block 1 (.seq (.rg (.o none (.mv 31 (.t 2)) <|
  .o none (.mv 32 (.t 0)) <|
  .o none (.mv 33 (.t 10)) <|
  .o none (.idx 34 4 (.t 32) (.t 33)) <|
  .o none (.ld 35 4 true (.t 34)) <|
  .o none (.mv 36 (.t 1)) <|
  .o none (.mv 37 (.t 11)) <|
  .o none (.idx 38 4 (.t 36) (.t 37)) <|
  .o none (.ld 39 4 true (.t 38)) <|
  .o none (.call (some 40) false (.t 31) [(.t 35), (.t 39)]) <|
  .o none (.mv 12 (.t 40)) .nil)) <| .block 2 (.seq (.rg (.o none (.mv 64 (.t 12)) <|
  .o none (.bin 65 .gtr false (.t 64) (.c (.int .i64 0))) <|
  .o none (.mv 63 (.t 65)) .nil)) <| .cond (.t 63) (.seq (.rg (.o none (.mv 66 (.t 9)) <|
  .o none (.mv 67 (.t 0)) <|
  .o none (.mv 68 (.t 10)) <|
  .o none (.idx 69 4 (.t 67) (.t 68)) <|
  .o none (.ld 70 4 true (.t 69)) <|
  .o none (.bs 71 4 49 [(.t 70)]) <|
  .o none (.app 72 4 80 49 (.t 66) (.t 71)) <|
  .o none (.mv 9 (.t 72)) .nil)) <| .rg (.o none (.mv 73 (.t 10)) <|
  .o none (.bin 74 .add false (.t 73) (.c (.int .i64 1))) <|
  .o none (.mv 10 (.t 74)) .nil)) (.seq (.rg (.o none (.mv 76 (.t 12)) <|
  .o none (.bin 77 .lss false (.t 76) (.c (.int .i64 0))) <|
  .o none (.mv 75 (.t 77)) .nil)) <| .cond (.t 75) (.seq (.rg (.o none (.mv 78 (.t 9)) <|
  .o none (.mv 79 (.t 1)) <|
  .o none (.mv 80 (.t 11)) <|
  .o none (.idx 81 4 (.t 79) (.t 80)) <|
  .o none (.ld 82 4 true (.t 81)) <|
  .o none (.bs 83 4 49 [(.t 82)]) <|
  .o none (.app 84 4 80 49 (.t 78) (.t 83)) <|
  .o none (.mv 9 (.t 84)) .nil)) <| .rg (.o none (.mv 85 (.t 11)) <|
  .o none (.bin 86 .add false (.t 85) (.c (.int .i64 1))) <|
  .o none (.mv 11 (.t 86)) .nil)) (.seq (.seq (.rg (.o none (.mv 42 (.t 3)) <|
  .o none (.mv 43 (.t 0)) <|
  .o none (.mv 44 (.t 10)) <|
  .o none (.idx 45 4 (.t 43) (.t 44)) <|
  .o none (.ld 46 4 true (.t 45)) <|
  .o none (.mv 47 (.t 1)) <|
  .o none (.mv 48 (.t 11)) <|
  .o none (.idx 49 4 (.t 47) (.t 48)) <|
  .o none (.ld 50 4 true (.t 49)) <|
  .br (.o none (.call (some 51) true (.t 42) [(.t 46), (.t 50)]) <|
  .o none (.mv 41 (.t 51)) <|
  .o none (.ext 52 (.t 41) 0) <|
  .o none (.ext 53 (.t 41) 1) <|
  .o none (.alloc 13 4 49 (.agg [(.bool false), .nilS, .nilS, .nilS])) <|
  .o none (.st 4 (.t 13) (.t 52)) <|
  .o none (.mv 14 (.t 53)) .nil) (.o none (.alloc 13 4 49 (.agg [(.bool false), .nilS, .nilS, .nilS])) <|
  .o none (.call (some 51) true (.t 42) [(.t 46), (.t 50)]) <|
  .o none (.mv 41 (.t 51)) <|
  .o none (.ext 52 (.t 41) 0) <|
  .o none (.ext 53 (.t 41) 1) <|
  .o none (.st 4 (.t 13) (.t 52)) <|
  .o none (.mv 14 (.t 53)) .nil))) <| .seq (.rg (.o none (.mv 54 (.t 14)) .nil)) <| .cond (.t 54) (.rg (.o none (.mv 55 (.t 9)) <|
  .o none (.ld 56 4 true (.t 13)) <|
  .o none (.bs 57 4 49 [(.t 56)]) <|
  .o none (.app 58 4 80 49 (.t 55) (.t 57)) <|
  .o none (.mv 9 (.t 58)) .nil)) (.skip)) <| .seq (.rg (.o none (.mv 59 (.t 10)) <|
  .o none (.bin 60 .add false (.t 59) (.c (.int .i64 1))) <|
  .o none (.mv 10 (.t 60)) .nil)) <| .rg (.o none (.mv 61 (.t 11)) <|
  .o none (.bin 62 .add false (.t 61) (.c (.int .i64 1))) <|
  .o none (.mv 11 (.t 62)) .nil)))))))) <| .seq (.rg (.o none (.mv 87 (.t 9)) <|
  .o none (.mv 88 (.t 0)) <|
  .o none (.mv 89 (.t 10)) <|
  .o none (.sl 90 4 (.t 88) (some (.t 89)) none none) <|
  .o none (.app 91 4 80 49 (.t 87) (.t 90)) <|
  .o none (.mv 9 (.t 91)) .nil)) <| .seq (.rg (.o none (.mv 92 (.t 9)) <|
  .o none (.mv 93 (.t 1)) <|
  .o none (.mv 94 (.t 11)) <|
  .o none (.sl 95 4 (.t 93) (some (.t 94)) none none) <|
  .o none (.app 96 4 80 49 (.t 92) (.t 95)) <|
  .o none (.mv 8 (.t 96)) .nil)) <| .ret⟩
theorem c84_ok : compileF Tryz.prog Tryz.f84 = some c84 := by kernel_rfl
def c80 : SFn := ⟨10, [.t 4], .seq (.rg (.o none (.box 2 4 49 (.t 0)) <|
  .o none (.box 3 4 49 (.t 1)) <|
  .o none (.mv 4 (.c (.int .i64 0))) .nil)) <| .seq (.rg (.o none (.fld 5 3 (.t 2)) <|
  .o none (.ld 6 1 false (.t 5)) <|
  .o none (.fld 7 3 (.t 3)) <|
  .o none (.ld 8 1 false (.t 7)) <|
  .o none (.call (some 9) false (.c (.fn 73 [] [])) [(.t 6), (.t 8), (.c (.int .i64 0))]) <|
  .o none (.mv 4 (.t 9)) .nil)) <| .ret⟩
theorem c80_ok : compileF Tryz.prog Tryz.f80 = some c80 := by kernel_rfl
def c85 : SFn := ⟨19, [.cell 4 4 true, .t 5], .seq (.rg (.o none (.box 2 4 49 (.t 0)) <|
  .o none (.box 3 4 49 (.t 1)) <|
  .o none (.alloc 4 4 49 (.agg [(.bool false), .nilS, .nilS, .nilS])) <|
  .o none (.mv 5 (.c (.bool false))) .nil)) <| .seq (.rg (.o none (.fld 7 0 (.t 2)) <|
  .o none (.ld 8 3 true (.t 7)) <|
  .o none (.fld 9 0 (.t 3)) <|
  .o none (.ld 10 3 true (.t 9)) <|
  .o none (.call (some 11) false (.c (.fn 50 [] [])) [(.t 8), (.t 10)]) <|
  .o none (.alloc 6 3 40 (.agg [(.bool false), .nilS, .nilS])) <|
  .o none (.st 3 (.t 6) (.t 11)) .nil)) <| .seq (.rg (.o none (.ld 12 3 true (.t 6)) <|
  .o none (.fld 13 3 (.t 2)) <|
  .o none (.ld 14 1 false (.t 13)) <|
  .o none (.bld 15 [(.bool false), .nilS, .nilS, .nilS] [(0, 3, (.t 12)), (3, 1, (.t 14))]) <|
  .o none (.ld 16 3 true (.t 6)) <|
  .o none (.call (some 17) true (.c (.fn 90 [] [])) [(.t 16)]) <|
  .o none (.bin 18 .neq false (.t 17) (.c (.int .i64 0))) <|
  .o none (.st 4 (.t 4) (.t 15)) <|
  .o none (.mv 5 (.t 18)) .nil)) <| .ret⟩
theorem c85_ok : compileF Tryz.prog Tryz.f85 = some c85 := by kernel_rfl
def c88 : SFn := ⟨25, [.t 2], .seq (.rg (.o none (.mv 2 (.c .nilS)) .nil)) <| .seq (.seq (.rg (.o none (.mv 4 (.t 0)) <|
  .o none (.len 5 (.t 4)) .nil)) <| .block 0 (.seq (.rg (.o none (.bin 7 .eql false (.t 5) (.c (.int .i64 0))) <|
  .o none (.mv 6 (.t 7)) .nil)) <| .cond (.t 6) (.seq (.rg (.o none (.mv 2 (.c .nilS)) .nil)) <| .ret) (.seq (.rg (.o none (.bin 9 .eql false (.t 5) (.c (.int .i64 1))) <|
  .o none (.mv 8 (.t 9)) .nil)) <| .cond (.t 8) (.seq (.rg (.o none (.mv 10 (.t 0)) <|
  .o none (.idx 11 1 (.t 10) (.c (.int .i64 0))) <|
  .o none (.ld 12 1 false (.t 11)) <|
  .o none (.mv 2 (.t 12)) .nil)) <| .ret) (.skip)))) <| .seq (.rg (.o none (.mv 13 (.t 0)) <|
  .o none (.len 14 (.t 13)) <|
  .o none (.bin 15 .quo false (.t 14) (.c (.int .i64 2))) <|
  .o none (.mv 3 (.t 15)) .nil)) <| .seq (.rg (.o none (.mv 16 (.t 0)) <|
  .o none (.mv 17 (.t 3)) <|
  .o none (.sl 18 1 (.t 16) none (some (.t 17)) none) <|
  .o none (.mv 20 (.t 0)) <|
  .o none (.mv 21 (.t 3)) <|
  .o none (.sl 22 1 (.t 20) (some (.t 21)) none none) <|
  .o none (.call (some 19) false (.c (.fn 88 [] [])) [(.t 18)]) <|
  .o none (.call (some 23) false (.c (.fn 88 [] [])) [(.t 22)]) <|
  .o none (.call (some 24) false (.c (.fn 35 [] [])) [(.t 19), (.t 23)]) <|
  .o none (.mv 2 (.t 24)) .nil)) <| .ret⟩
theorem c88_ok : compileF Tryz.prog Tryz.f88 = some c88 := by kernel_rfl
def c92 : SFn := ⟨12, [.t 4], .seq (.rg (.o none (.box 2 3 40 (.t 0)) <|
  .o none (.mv 4 (.c .nilS)) .nil)) <| .seq (.seq (.rg (.o none (.ld 5 3 true (.t 2)) <|
  .o none (.call (some 6) false (.c (.fn 90 [] [])) [(.t 5)]) <|
  .o none (.bin 7 .eql false (.t 6) (.c (.int .i64 0))) .nil)) <| .cond (.t 7) (.seq (.rg (.o none (.mv 4 (.c .nilS)) .nil)) <| .ret) (.skip)) <| .seq (.rg (.o none (.ld 8 3 true (.t 2)) <|
  .o none (.mv 9 (.t 1)) <|
  .o none (.bld 10 [(.bool false), .nilS, .nilS, .nilS] [(0, 3, (.t 8)), (3, 1, (.t 9))]) <|
  .o none (.bs 11 4 49 [(.t 10)]) <|
  .o none (.mv 4 (.t 11)) .nil)) <| .ret⟩
theorem c92_ok : compileF Tryz.prog Tryz.f92 = some c92 := by kernel_rfl
def c54 : SFn := ⟨19, [.t 2], .seq (.rg (.o none (.mv 2 (.c .nilS)) .nil)) <| .seq (.seq (.rg (.o none (.mv 4 (.t 0)) <|
  .o none (.bin 5 .lss false (.t 4) (.c (.int .i64 0))) <|
  .o none (.mv 6 (.t 5)) <|
  .o (some (6, false)) (.mv 7 (.t 0)) <|
  .o (some (6, false)) (.bin 8 .geq false (.t 7) (.c (.int .i64 64))) <|
  .o none (.pick 9 (.t 6) (.c (.bool true)) (.t 8)) .nil)) <| .cond (.t 9) (.seq (.rg (.o none (.mv 2 (.c .nilS)) .nil)) <| .ret) (.skip)) <| .seq (.rg (.o none (.mv 10 (.t 0)) <|
  .o none (.bin 11 .add false (.t 10) (.c (.int .i64 1))) <|
  .o none (.mk 12 1 8 3 (.int .i64 0) (.t 11) (.t 11)) <|
  .o none (.mv 3 (.t 12)) .nil)) <| .seq (.rg (.o none (.mv 13 (.t 3)) <|
  .o none (.mv 14 (.t 0)) <|
  .o none (.idx 15 1 (.t 13) (.t 14)) <|
  .o none (.st 1 (.t 15) (.c (.int .i64 1))) .nil)) <| .seq (.rg (.o none (.call (some 16) false (.c (.fn 58 [] [])) [(.c (.int .i64 1))]) <|
  .o none (.mv 17 (.t 3)) <|
  .o none (.call (some 18) false (.c (.fn 92 [] [])) [(.t 16), (.t 17)]) <|
  .o none (.mv 2 (.t 18)) .nil)) <| .ret⟩
theorem c54_ok : compileF Tryz.prog Tryz.f54 = some c54 := by kernel_rfl
def c33 : SFn := ⟨6, [.t 2], .seq (.rg (.o none (.mv 2 (.c .nilS)) .nil)) <| .seq (.rg (.o none (.mv 3 (.t 0)) <|
  .o none (.call (some 4) false (.c (.fn 58 [] [])) [(.c (.int .i64 (-1)))]) <|
  .o none (.call (some 5) false (.c (.fn 41 [] [])) [(.t 3), (.t 4)]) <|
  .o none (.mv 2 (.t 5)) .nil)) <| .ret⟩
theorem c33_ok : compileF Tryz.prog Tryz.f33 = some c33 := by kernel_rfl
def c35 : SFn := ⟨8, [.t 4], .seq (.rg (.o none (.mv 4 (.c .nilS)) .nil)) <| .seq (.rg (.o none (.mv 5 (.t 0)) <|
  .o none (.mv 6 (.t 1)) <|
  .o none (.call (some 7) false (.c (.fn 84 [] [])) [(.t 5), (.t 6), (.c (.fn 80 [] [])), (.c (.fn 85 [] []))]) <|
  .o none (.mv 4 (.t 7)) .nil)) <| .ret⟩
theorem c35_ok : compileF Tryz.prog Tryz.f35 = some c35 := by kernel_rfl
def c37 : SFn := ⟨9, [.t 4], .seq (.rg (.o none (.mv 4 (.c .nilS)) .nil)) <| .seq (.rg (.o none (.mv 5 (.t 0)) <|
  .o none (.mv 6 (.t 1)) <|
  .o none (.call (some 7) false (.c (.fn 33 [] [])) [(.t 6)]) <|
  .o none (.call (some 8) false (.c (.fn 35 [] [])) [(.t 5), (.t 7)]) <|
  .o none (.mv 4 (.t 8)) .nil)) <| .ret⟩
theorem c37_ok : compileF Tryz.prog Tryz.f37 = some c37 := by kernel_rfl
def c87 : SFn := ⟨38, [.t 4], .seq (.rg (.o none (.box 3 4 49 (.t 1)) <|
  .o none (.mv 4 (.c .nilS)) .nil)) <| .seq (.rg (.o none (.mv 9 (.t 0)) <|
  .o none (.len 10 (.t 9)) <|
  .o none (.mk 11 4 80 49 (.agg [(.bool false), .nilS, .nilS, .nilS]) (.c (.int .i64 0)) (.t 10)) <|
  .o none (.mv 5 (.t 11)) .nil)) <| .seq (.seq (.rg (.o none (.mv 12 (.t 0)) <|
  .o none (.len 13 (.t 12)) <|
  .o none (.mv 14 (.c (.int .i64 0))) .nil)) <| .block 0 (.loop (.seq (.rg (.o none (.bin 15 .lss false (.t 14) (.t 13)) .nil)) <| .seq (.cond (.t 15) (.skip) (.exit 0)) <| .seq (.block 1 (.seq (.rg (.o none (.idx 16 4 (.t 12) (.t 14)) <|
  .o none (.ld 17 4 true (.t 16)) <|
  .o none (.alloc 7 4 49 (.agg [(.bool false), .nilS, .nilS, .nilS])) <|
  .o none (.st 4 (.t 7) (.t 17)) .nil)) <| .seq (.rg (.o none (.fld 18 0 (.t 7)) <|
  .o none (.ld 19 3 true (.t 18)) <|
  .o none (.fld 20 0 (.t 3)) <|
  .o none (.ld 21 3 true (.t 20)) <|
  .o none (.call (some 22) false (.c (.fn 51 [] [])) [(.t 19), (.t 21)]) <|
  .o none (.alloc 8 3 40 (.agg [(.bool false), .nilS, .nilS])) <|
  .o none (.st 3 (.t 8) (.t 22)) .nil)) <| .seq (.rg (.o none (.ld 23 3 true (.t 8)) <|
  .o none (.call (some 24) false (.c (.fn 90 [] [])) [(.t 23)]) <|
  .o none (.bin 25 .neq false (.t 24) (.c (.int .i64 0))) .nil)) <| .cond (.t 25) (.rg (.o none (.mv 26 (.t 5)) <|
  .o none (.ld 27 3 true (.t 8)) <|
  .o none (.fld 28 3 (.t 7)) <|
  .o none (.ld 29 1 false (.t 28)) <|
  .o none (.fld 30 3 (.t 3)) <|
  .o none (.ld 31 1 false (.t 30)) <|
  .o none (.call (some 32) true (.c (.fn 129 [] [])) [(.t 29), (.t 31)]) <|
  .o none (.bld 33 [(.bool false), .nilS, .nilS, .nilS] [(0, 3, (.t 27)), (3, 1, (.t 32))]) <|
  .o none (.bs 34 4 49 [(.t 33)]) <|
  .o none (.app 35 4 80 49 (.t 26) (.t 34)) <|
  .o none (.mv 5 (.t 35)) .nil)) (.skip))) <| .rg (.o none (.bin 36 .add false (.t 14) (.c (.int .i64 1))) <|
  .o none (.mv 14 (.t 36)) .nil)))) <| .seq (.rg (.o none (.mv 37 (.t 5)) <|
  .o none (.mv 4 (.t 37)) .nil)) <| .ret⟩
theorem c87_ok : compileF Tryz.prog Tryz.f87 = some c87 := by kernel_rfl
def c39 : SFn := ⟨33, [.t 4], .seq (.rg (.o none (.mv 4 (.c .nilS)) .nil)) <| .seq (.seq (.rg (.o none (.mv 8 (.t 0)) <|
  .o none (.len 9 (.t 8)) <|
  .o none (.mv 10 (.t 1)) <|
  .o none (.len 11 (.t 10)) <|
  .o none (.bin 12 .gtr false (.t 9) (.t 11)) .nil)) <| .cond (.t 12) (.rg (.o none (.mv 13 (.t 1)) <|
  .o none (.mv 14 (.t 0)) <|
  .o none (.mv 0 (.t 13)) <|
  .o none (.mv 1 (.t 14)) .nil)) (.skip)) <| .seq (.rg (.o none (.mv 15 (.t 0)) <|
  .o none (.len 16 (.t 15)) <|
  .o none (.mk 17 1 24 23 .nilS (.c (.int .i64 0)) (.t 16)) <|
  .o none (.mv 5 (.t 17)) .nil)) <| .seq (.seq (.rg (.o none (.mv 18 (.t 0)) <|
  .o none (.len 19 (.t 18)) <|
  .o none (.mv 20 (.c (.int .i64 0))) .nil)) <| .block 0 (.loop (.seq (.rg (.o none (.bin 21 .lss false (.t 20) (.t 19)) .nil)) <| .seq (.cond (.t 21) (.skip) (.exit 0)) <| .seq (.block 1 (.seq (.rg (.o none (.idx 22 4 (.t 18) (.t 20)) <|
  .o none (.ld 23 4 true (.t 22)) <|
  .o none (.alloc 7 4 49 (.agg [(.bool false), .nilS, .nilS, .nilS])) <|
  .o none (.st 4 (.t 7) (.t 23)) .nil)) <| .rg (.o none (.mv 24 (.t 5)) <|
  .o none (.mv 25 (.t 1)) <|
  .o none (.ld 26 4 true (.t 7)) <|
  .o none (.call (some 27) false (.c (.fn 87 [] [])) [(.t 25), (.t 26)]) <|
  .o none (.bs 28 1 23 [(.t 27)]) <|
  .o none (.app 29 1 24 23 (.t 24) (.t 28)) <|
  .o none (.mv 5 (.t 29)) .nil))) <| .rg (.o none (.bin 30 .add false (.t 20) (.c (.int .i64 1))) <|
  .o none (.mv 20 (.t 30)) .nil)))) <| .seq (.rg (.o none (.mv 31 (.t 5)) <|
  .o none (.call (some 32) false (.c (.fn 88 [] [])) [(.t 31)]) <|
  .o none (.mv 4 (.t 32)) .nil)) <| .ret⟩
theorem c39_ok : compileF Tryz.prog Tryz.f39 = some c39 := by kernel_rfl
def c41 : SFn := ⟨12, [.t 4], .seq (.rg (.o none (.box 3 3 40 (.t 1)) <|
  .o none (.mv 4 (.c .nilS)) .nil)) <| .seq (.seq (.rg (.o none (.ld 5 3 true (.t 3)) <|
  .o none (.call (some 6) false (.c (.fn 90 [] [])) [(.t 5)]) <|
  .o none (.bin 7 .eql false (.t 6) (.c (.int .i64 0))) .nil)) <| .cond (.t 7) (.seq (.rg (.o none (.mv 4 (.c .nilS)) .nil)) <| .ret) (.skip)) <| .seq (.rg (.o none (.mv 8 (.t 0)) <|
  .o none (.ld 9 3 true (.t 3)) <|
  .o none (.bld 10 [(.bool false), .nilS, .nilS, .nilS] [(0, 3, (.t 9))]) <|
  .o none (.call (some 11) false (.c (.fn 87 [] [])) [(.t 8), (.t 10)]) <|
  .o none (.mv 4 (.t 11)) .nil)) <| .ret⟩
theorem c41_ok : compileF Tryz.prog Tryz.f41 = some c41 := by kernel_rfl
def c59 : SFn := ⟨10, [.t 2], .seq (.rg (.o none (.mv 2 (.c (.bool false))) .nil)) <| .seq (.rg (.o none (.mv 3 (.t 0)) <|
  .o none (.len 4 (.t 3)) <|
  .o none (.bin 5 .gtr false (.t 4) (.c (.int .i64 4000))) <|
  .o none (.mv 6 (.t 5)) <|
  .o (some (6, false)) (.mv 7 (.t 0)) <|
  .o (some (6, false)) (.call (some 8) false (.c (.fn 112 [] [])) [(.t 7), (.c (.fn 113 [] []))]) <|
  .o none (.pick 9 (.t 6) (.c (.bool true)) (.t 8)) <|
  .o none (.mv 2 (.t 9)) .nil)) <| .ret⟩
theorem c59_ok : compileF Tryz.prog Tryz.f59 = some c59 := by kernel_rfl
def c113 : SFn := ⟨6, [.t 2], .seq (.rg (.o none (.box 1 4 49 (.t 0)) <|
  .o none (.mv 2 (.c (.bool false))) .nil)) <| .seq (.rg (.o none (.fld 3 3 (.t 1)) <|
  .o none (.ld 4 1 false (.t 3)) <|
  .o none (.call (some 5) false (.c (.fn 114 [] [])) [(.t 4), (.c (.fn 115 [] []))]) <|
  .o none (.mv 2 (.t 5)) .nil)) <| .ret⟩
theorem c113_ok : compileF Tryz.prog Tryz.f113 = some c113 := by kernel_rfl
def c115 : SFn := ⟨5, [.t 2], .seq (.rg (.o none (.mv 2 (.c (.bool false))) .nil)) <| .seq (.rg (.o none (.mv 3 (.t 0)) <|
  .o none (.bin 4 .gtr false (.t 3) (.c (.int .i64 1048576))) <|
  .o none (.mv 2 (.t 4)) .nil)) <| .ret⟩
theorem c115_ok : compileF Tryz.prog Tryz.f115 = some c115 := by kernel_rfl
def c112 : SFn := ⟨9, [.t 4], .seq (.rg (.o none (.mv 4 (.c (.bool false))) .nil)) <| .seq (.rg (.o none (.mv 5 (.t 0)) <|
  .o none (.mv 6 (.t 1)) <|
  .o none (.call (some 7) false (.c (.fn 148 [] [])) [(.t 5), (.t 6)]) <|
  .o none (.bin 8 .geq false (.t 7) (.c (.int .i64 0))) <|
  .o none (.mv 4 (.t 8)) .nil)) <| .ret⟩
theorem c112_ok : compileF Tryz.prog Tryz.f112 = some c112 := by kernel_rfl
def c114 : SFn := ⟨9, [.t 4], .seq (.rg (.o none (.mv 4 (.c (.bool false))) .nil)) <| .seq (.rg (.o none (.mv 5 (.t 0)) <|
  .o none (.mv 6 (.t 1)) <|
  .o none (.call (some 7) false (.c (.fn 149 [] [])) [(.t 5), (.t 6)]) <|
  .o none (.bin 8 .geq false (.t 7) (.c (.int .i64 0))) <|
  .o none (.mv 4 (.t 8)) .nil)) <| .ret⟩
theorem c114_ok : compileF Tryz.prog Tryz.f114 = some c114 := by kernel_rfl
def c148 : SFn := ⟨19, [.t 4], .seq (.rg (.o none (.mv 4 (.c (.int .i64 0))) .nil)) <| .seq (.seq (.rg (.o none (.mv 6 (.t 0)) <|
  .o none (.len 7 (.t 6)) <|
  .o none (.mv 8 (.c (.int .i64 0))) .nil)) <| .block 0 (.loop (.seq (.rg (.o none (.bin 9 .lss false (.t 8) (.t 7)) .nil)) <| .seq (.cond (.t 9) (.skip) (.exit 0)) <| .seq (.block 1 (.seq (.rg (.o none (.mv 10 (.t 8)) <|
  .o none (.mv 5 (.t 10)) .nil)) <| .seq (.rg (.o none (.mv 11 (.t 1)) <|
  .o none (.mv 12 (.t 0)) <|
  .o none (.mv 13 (.t 5)) <|
  .o none (.idx 14 4 (.t 12) (.t 13)) <|
  .o none (.ld 15 4 true (.t 14)) <|
  .o none (.call (some 16) false (.t 11) [(.t 15)]) .nil)) <| .cond (.t 16) (.seq (.rg (.o none (.mv 17 (.t 5)) <|
  .o none (.mv 4 (.t 17)) .nil)) <| .ret) (.skip))) <| .rg (.o none (.bin 18 .add false (.t 8) (.c (.int .i64 1))) <|
  .o none (.mv 8 (.t 18)) .nil)))) <| .seq (.rg (.o none (.mv 4 (.c (.int .i64 (-1)))) .nil)) <| .ret⟩
theorem c148_ok : compileF Tryz.prog Tryz.f148 = some c148 := by kernel_rfl
def c149 : SFn := ⟨19, [.t 4], .seq (.rg (.o none (.mv 4 (.c (.int .i64 0))) .nil)) <| .seq (.seq (.rg (.o none (.mv 6 (.t 0)) <|
  .o none (.len 7 (.t 6)) <|
  .o none (.mv 8 (.c (.int .i64 0))) .nil)) <| .block 0 (.loop (.seq (.rg (.o none (.bin 9 .lss false (.t 8) (.t 7)) .nil)) <| .seq (.cond (.t 9) (.skip) (.exit 0)) <| .seq (.block 1 (.seq (.rg (.o none (.mv 10 (.t 8)) <|
  .o none (.mv 5 (.t 10)) .nil)) <| .seq (.rg (.o none (.mv 11 (.t 1)) <|
  .o none (.mv 12 (.t 0)) <|
  .o none (.mv 13 (.t 5)) <|
  .o none (.idx 14 1 (.t 12) (.t 13)) <|
  .o none (.ld 15 1 false (.t 14)) <|
  .o none (.call (some 16) false (.t 11) [(.t 15)]) .nil)) <| .cond (.t 16) (.seq (.rg (.o none (.mv 17 (.t 5)) <|
  .o none (.mv 4 (.t 17)) .nil)) <| .ret) (.skip))) <| .rg (.o none (.bin 18 .add false (.t 8) (.c (.int .i64 1))) <|
  .o none (.mv 8 (.t 18)) .nil)))) <| .seq (.rg (.o none (.mv 4 (.c (.int .i64 (-1)))) .nil)) <| .ret⟩
theorem c149_ok : compileF Tryz.prog Tryz.f149 = some c149 := by kernel_rfl
end Go.Proofs.YtfhmockdgbkpnaaGreat
namespace Go.Proofs.YtfhmockdgbkpnaaGreat
open Go Go.FW
set_option linter.unusedSimpArgs false
set_option linter.unusedVariables false
set_option maxRecDepth 100000
theorem q_Add {a b : Rat} {k : Nat} (ha : rs a ≤ k) (hb : rs b ≤ k) (hk : k < 2 ^ 36) : FnSpec Tryz.prog 50 [PV.rat a, PV.rat b] (· = PV.rat (a + b)) := by
  have := q_Add_raw (raw_of ha) (raw_of hb) hk
  rwa [rv_of, rv_of] at this
theorem q_Mul {a b : Rat} {k : Nat} (ha : rs a ≤ k) (hb : rs b ≤ k) (hk : k < 2 ^ 36) : FnSpec Tryz.prog 51 [PV.rat a, PV.rat b] (· = PV.rat (a * b)) := by
  have := q_Mul_raw (raw_of ha) (raw_of hb) hk
  rwa [rv_of, rv_of] at this
theorem q_Sign {a : Rat} (ha : rs a < 2 ^ 36) : FnSpec Tryz.prog 90 [PV.rat a] (· = .int .i64 (sgnQ a)) := by
  have := q_Sign_raw (raw_of (Nat.le_refl (rs a))) ha
  rwa [rv_of] at this
theorem p_lex_spec {s t : Tm} {E : Nat} (hs : MB E s.2) (ht : MB E t.2) (hE : E ≤ 2 ^ 38) : FnSpec Tryz.prog 80 [PV.term s, PV.term t] (· = .int .i64 (cmpM s.2 t.2)) := by
  refine fn_of_vc mixed Tryz.func80 rfl c80_ok (by simp [c80]) fun C hP => ?_; simp only [c80]
  simp +decide (disch := first | omega | rfl | (simp +decide only [go_sem, ↓reduceIte] <;> rfl) | fail) only [go_sem, ↓reduceIte, mk_empty, sl_3n, app_nil_map, mk_i64, max_nat]
  refine call_eq0 hP (m_Cmp_spec (o := 0) hs ht (by omega)) rfl rfl rfl ?_
  simp +decide (disch := first | omega | rfl | (simp +decide only [go_sem, ↓reduceIte] <;> rfl) | fail) only [go_sem, ↓reduceIte, mk_empty, sl_3n, app_nil_map, mk_i64, max_nat]
  exact retV_eq (by rw [cmpO_0]) rfl
theorem p_added_spec {s t : Tm} {k : Nat} (hs : rs s.1 ≤ k) (ht : rs t.1 ≤ k) (hk : k < 2 ^ 34) : FnSpec Tryz.prog 85 [PV.term s, PV.term t] (· = .tup [PV.term (s.1 + t.1, s.2), .bool (decide (¬ s.1 + t.1 = 0))]) := by
  have hr := rs_add s.1 t.1
  refine fn_of_vc mixed Tryz.func85 rfl c85_ok (by simp [c85]) fun C hP => ?_; simp only [c85]
  simp +decide (disch := first | omega | rfl | (simp +decide only [go_sem, ↓reduceIte] <;> rfl) | fail) only [go_sem, ↓reduceIte, mk_empty, sl_3n, app_nil_map, mk_i64, max_nat]
  refine call_eq0 hP (q_Add (a := s.1) (b := t.1) hs ht (by omega)) rfl rfl rfl ?_
  simp +decide (disch := first | omega | rfl | (simp +decide only [go_sem, ↓reduceIte] <;> rfl) | fail) only [go_sem, ↓reduceIte, mk_empty, sl_3n, app_nil_map, mk_i64, max_nat]
  refine call_eq0 hP (q_Sign (a := s.1 + t.1) (by omega)) rfl rfl rfl ?_
  simp +decide (disch := first | omega | rfl | (simp +decide only [go_sem, ↓reduceIte] <;> rfl) | fail) only [go_sem, ↓reduceIte, mk_empty, sl_3n, app_nil_map, mk_i64, max_nat]
  refine ret_2 ?_
  simp +decide (disch := first | omega | rfl | (simp +decide only [go_sem, ↓reduceIte] <;> rfl) | fail) only [go_sem, ↓reduceIte, mk_empty, sl_3n, app_nil_map, mk_i64, max_nat]
  exact ret2 rfl rfl rfl (le_refl _) (le_of_eq (congrArg PV.bool (decide_eq_decide.2 (not_congr sgnQ_zero))))
theorem p_single_spec {c : Rat} {m : List Int} (hc : rs c < 2 ^ 36) : FnSpec Tryz.prog 92 [PV.rat c, PV.mono m] (· = PV.poly (if c = 0 then [] else [(c, m)])) := by
  refine fn_of_vc mixed Tryz.func92 rfl c92_ok (by simp [c92]) fun C hP => ?_; simp only [c92]
  simp +decide (disch := first | omega | rfl | (simp +decide only [go_sem, ↓reduceIte] <;> rfl) | fail) only [go_sem, ↓reduceIte, mk_empty, sl_3n, app_nil_map, mk_i64, max_nat]
  refine call_eq0 hP (q_Sign (a := c) hc) rfl rfl rfl ?_
  simp +decide (disch := first | omega | rfl | (simp +decide only [go_sem, ↓reduceIte] <;> rfl) | fail) only [go_sem, ↓reduceIte, mk_empty, sl_3n, app_nil_map, mk_i64, max_nat]
  refine cond_split (fun h0 => ?_) (fun h0 => ?_)
  · rw [if_pos (sgnQ_zero.1 h0)]
    simp +decide (disch := first | omega | rfl | (simp +decide only [go_sem, ↓reduceIte] <;> rfl) | fail) only [go_sem, ↓reduceIte, mk_empty, sl_3n, app_nil_map, mk_i64, max_nat]
    exact retV_le poly_nil rfl
  · rw [if_neg (fun h => h0 (sgnQ_zero.2 h))]
    simp +decide (disch := first | omega | rfl | (simp +decide only [go_sem, ↓reduceIte, looks3, List.contains_cons, List.contains_nil, List.flatMap_cons, List.flatMap_nil, List.append_nil] <;> rfl) | fail) only [go_sem, ↓reduceIte, mk_empty, sl_3n, app_nil_map, mk_i64, max_nat, looks3, List.contains_cons, List.contains_nil, List.flatMap_cons, List.flatMap_nil, List.append_nil]
    exact retV_eq rfl rfl
theorem p_merge_spec {p q : List Tm} {K E : Nat} (hp : PB K E p) (hq : PB K E q) (hK : K ≤ 2 ^ 33) (hE : E ≤ 2 ^ 38) (hlp : p.length ≤ 2 ^ 36) (hlq : q.length ≤ 2 ^ 36) :
    FnSpec Tryz.prog 84 [PV.poly p, PV.poly q, .fn 80 [] [], .fn 85 [] []] (· = PV.poly (padd p q)) := by
  refine fn_of_vc mixed Tryz.func84 rfl c84_ok (by simp [c84]) fun C hP => ?_; simp only [c84]
  simp +decide (disch := first | omega | rfl | (simp +decide only [go_sem, ↓reduceIte] <;> rfl) | fail) only [go_sem, ↓reduceIte, mk_empty, sl_3n, app_nil_map, mk_i64, max_nat]
  refine vc_loopF (by repeat (first | exact okSk_ret | exact okSk_retM | exact okSk_retO | apply okSk_back | apply okSk_out | apply okSk_eb | apply okSk_c | apply okSk_o | apply okSk_again)) [(9, 14), (21, 86)] [13, 20, 57, 58, 71, 72, 83, 84] (fun n J hp => ∃ i k out, n = (p.length - i) + (q.length - k) ∧ i ≤ p.length ∧ k ≤ q.length ∧ out.length ≤ i + k ∧ out ++ padd (p.drop i) (q.drop k) = padd p q ∧
    J 9 = .ms 20 out.length ∧ J 10 = .int .i64 (i : Nat) ∧ J 11 = .int .i64 (k : Nat) ∧ hp 20 = some ⟨4, 49, out.map PV.term, false⟩) (p.length + q.length) ?_ ?_
  · refine ⟨0, 0, [], by omega, by omega, by omega, by simp, rfl, ?_⟩
    simp +decide (disch := first | omega | rfl | (simp +decide only [go_sem, ↓reduceIte] <;> rfl) | fail) only [go_sem, ↓reduceIte, mk_empty, sl_3n, app_nil_map, mk_i64, max_nat]
    simp
  rintro _ J h ⟨i, k, out, rfl, hi, hk, hol, hpad, h9, h10, h11, hh⟩
  simp +decide (disch := first | omega | rfl | (simp +decide only [go_sem, ↓reduceIte, h9, h10, h11] <;> rfl) | fail) only [go_sem, ↓reduceIte, mk_empty, sl_3n, app_nil_map, mk_i64, max_nat, h9, h10, h11]
  refine guard_split (fun hg => ?_) (fun hg => ?_)
  · have hi' : i < p.length := by omega
    simp +decide (disch := first | omega | rfl | (simp +decide only [go_sem, ↓reduceIte, h9, h10, h11] <;> rfl) | fail) only [go_sem, ↓reduceIte, mk_empty, sl_3n, app_nil_map, mk_i64, max_nat, h9, h10, h11]
    refine cond_split (fun hg2 => ?_) (fun hg2 => ?_)
    · have hk' : k < q.length := by omega
      have htp := hp.get hi'
      have htq := hq.get hk'
      rw [padd_drop hi' hk'] at hpad
      have c1 := htp.c
      have c2 := htq.c
      generalize hx : p[i] = x at *
      generalize hy : q[k] = y at *
      simp +decide (disch := first | omega | rfl | (simp +decide only [go_sem, ↓reduceIte, h9, h10, h11, hx, hy] <;> rfl) | fail) only [go_sem, ↓reduceIte, mk_empty, sl_3n, app_nil_map, mk_i64, max_nat, h9, h10, h11, hx, hy]
      refine call_eq0 hP (p_lex_spec (s := x) (t := y) htp.m htq.m hE) rfl rfl rfl ?_
      simp +decide (disch := first | omega | rfl | (simp +decide only [go_sem, ↓reduceIte, h9, h10, h11, hx, hy] <;> rfl) | fail) only [go_sem, ↓reduceIte, mk_empty, sl_3n, app_nil_map, mk_i64, max_nat, h9, h10, h11, hx, hy]
      refine cond_split (fun hc => ?_) (fun hc => ?_)
      · rw [if_pos hc] at hpad
        simp +decide (disch := first | omega | rfl | (simp +decide only [go_sem, ↓reduceIte, h9, h10, h11, hx, hy] <;> rfl) | fail) only [go_sem, ↓reduceIte, mk_empty, sl_3n, app_nil_map, mk_i64, max_nat, h9, h10, h11, hx, hy]
        rw [app_push_map (f := PV.term) (y := x) (xs := out) (ty' := 49) (fz := false) (by simp +decide (disch := first | omega | rfl | (simp +decide only [go_sem, ↓reduceIte, hh] <;> rfl) | fail) only [go_sem, ↓reduceIte, mk_empty, sl_3n, app_nil_map, mk_i64, max_nat, hh]) (by simp +decide (disch := first | omega | rfl | (simp +decide only [go_sem, ↓reduceIte] <;> rfl) | fail) only [go_sem, ↓reduceIte, mk_empty, sl_3n, app_nil_map, mk_i64, max_nat] <;> rfl) (by omega) rfl (by omega) (by omega)]
        simp +decide (disch := first | omega | rfl | (simp +decide only [go_sem, ↓reduceIte, h9, h10, h11, hx, hy] <;> rfl) | fail) only [go_sem, ↓reduceIte, mk_empty, sl_3n, app_nil_map, mk_i64, max_nat, h9, h10, h11, hx, hy]
        refine back_ovr ((p.length - (i + 1)) + (q.length - k)) (by omega) ⟨i + 1, k, out ++ [x], rfl, by omega, hk, by simp; omega, by simpa using hpad, ?_⟩
        simp +decide (disch := first | omega | rfl | (simp +decide only [go_sem, ↓reduceIte, h9, h10, h11] <;> rfl) | fail) only [go_sem, ↓reduceIte, mk_empty, sl_3n, app_nil_map, mk_i64, max_nat, h9, h10, h11]
        simp
      rw [if_neg hc] at hpad
      simp +decide (disch := first | omega | rfl | (simp +decide only [go_sem, ↓reduceIte, h9, h10, h11, hx, hy] <;> rfl) | fail) only [go_sem, ↓reduceIte, mk_empty, sl_3n, app_nil_map, mk_i64, max_nat, h9, h10, h11, hx, hy]
      refine cond_split (fun hc2 => ?_) (fun hc2 => ?_)
      · rw [if_pos hc2] at hpad
        simp +decide (disch := first | omega | rfl | (simp +decide only [go_sem, ↓reduceIte, h9, h10, h11, hx, hy] <;> rfl) | fail) only [go_sem, ↓reduceIte, mk_empty, sl_3n, app_nil_map, mk_i64, max_nat, h9, h10, h11, hx, hy]
        rw [app_push_map (f := PV.term) (y := y) (xs := out) (ty' := 49) (fz := false) (by simp +decide (disch := first | omega | rfl | (simp +decide only [go_sem, ↓reduceIte, hh] <;> rfl) | fail) only [go_sem, ↓reduceIte, mk_empty, sl_3n, app_nil_map, mk_i64, max_nat, hh]) (by simp +decide (disch := first | omega | rfl | (simp +decide only [go_sem, ↓reduceIte] <;> rfl) | fail) only [go_sem, ↓reduceIte, mk_empty, sl_3n, app_nil_map, mk_i64, max_nat] <;> rfl) (by omega) rfl (by omega) (by omega)]
        simp +decide (disch := first | omega | rfl | (simp +decide only [go_sem, ↓reduceIte, h9, h10, h11, hx, hy] <;> rfl) | fail) only [go_sem, ↓reduceIte, mk_empty, sl_3n, app_nil_map, mk_i64, max_nat, h9, h10, h11, hx, hy]
        refine back_ovr ((p.length - i) + (q.length - (k + 1))) (by omega) ⟨i, k + 1, out ++ [y], rfl, hi, by omega, by simp; omega, by simpa using hpad, ?_⟩
        simp +decide (disch := first | omega | rfl | (simp +decide only [go_sem, ↓reduceIte, h9, h10, h11] <;> rfl) | fail) only [go_sem, ↓reduceIte, mk_empty, sl_3n, app_nil_map, mk_i64, max_nat, h9, h10, h11]
        simp
      rw [if_neg hc2] at hpad
      simp +decide (disch := first | omega | rfl | (simp +decide only [go_sem, ↓reduceIte, h9, h10, h11, hx, hy] <;> rfl) | fail) only [go_sem, ↓reduceIte, mk_empty, sl_3n, app_nil_map, mk_i64, max_nat, h9, h10, h11, hx, hy]
      refine br_intro ?_ ?_
      all_goals
        simp +decide (disch := first | omega | rfl | (simp +decide only [go_sem, ↓reduceIte, h9, h10, h11, hx, hy] <;> rfl) | fail) only [go_sem, ↓reduceIte, mk_empty, sl_3n, app_nil_map, mk_i64, max_nat, h9, h10, h11, hx, hy]
        refine call_eq0 hP (p_added_spec (s := x) (t := y) (k := 2 ^ 33) (by omega) (by omega) (by omega)) rfl rfl rfl ?_
        simp +decide (disch := first | omega | rfl | (simp +decide only [go_sem, ↓reduceIte, h9, h10, h11, hx, hy] <;> rfl) | fail) only [go_sem, ↓reduceIte, mk_empty, sl_3n, app_nil_map, mk_i64, max_nat, h9, h10, h11, hx, hy]
        refine cond_split (fun hz => ?_) (fun hz => ?_)
        · rw [if_neg hz] at hpad
          simp +decide (disch := first | omega | rfl | (simp +decide only [go_sem, ↓reduceIte, h9, h10, h11, hx, hy] <;> rfl) | fail) only [go_sem, ↓reduceIte, mk_empty, sl_3n, app_nil_map, mk_i64, max_nat, h9, h10, h11, hx, hy]
          rw [app_push_map (f := PV.term) (y := (x.1 + y.1, x.2)) (xs := out) (ty' := 49) (fz := false) (by simp +decide (disch := first | omega | rfl | (simp +decide only [go_sem, ↓reduceIte, hh] <;> rfl) | fail) only [go_sem, ↓reduceIte, mk_empty, sl_3n, app_nil_map, mk_i64, max_nat, hh]) (by simp +decide (disch := first | omega | rfl | (simp +decide only [go_sem, ↓reduceIte] <;> rfl) | fail) only [go_sem, ↓reduceIte, mk_empty, sl_3n, app_nil_map, mk_i64, max_nat] <;> rfl) (by omega) rfl (by omega) (by omega)]
          simp +decide (disch := first | omega | rfl | (simp +decide only [go_sem, ↓reduceIte, h9, h10, h11, hx, hy] <;> rfl) | fail) only [go_sem, ↓reduceIte, mk_empty, sl_3n, app_nil_map, mk_i64, max_nat, h9, h10, h11, hx, hy]
          refine back_ovr ((p.length - (i + 1)) + (q.length - (k + 1))) (by omega) ⟨i + 1, k + 1, out ++ [(x.1 + y.1, x.2)], rfl, by omega, by omega, by simp; omega, by simpa using hpad, ?_⟩
          simp +decide (disch := first | omega | rfl | (simp +decide only [go_sem, ↓reduceIte, h9, h10, h11] <;> rfl) | fail) only [go_sem, ↓reduceIte, mk_empty, sl_3n, app_nil_map, mk_i64, max_nat, h9, h10, h11]
          simp
        · rw [if_pos (Decidable.not_not.1 hz)] at hpad
          simp +decide (disch := first | omega | rfl | (simp +decide only [go_sem, ↓reduceIte, h9, h10, h11, hx, hy] <;> rfl) | fail) only [go_sem, ↓reduceIte, mk_empty, sl_3n, app_nil_map, mk_i64, max_nat, h9, h10, h11, hx, hy]
          refine back_ovr ((p.length - (i + 1)) + (q.length - (k + 1))) (by omega) ⟨i + 1, k + 1, out, rfl, by omega, by omega, by omega, hpad, ?_⟩
          simp +decide (disch := first | omega | rfl | (simp +decide only [go_sem, ↓reduceIte, h9, h10, h11, hh] <;> rfl) | fail) only [go_sem, ↓reduceIte, mk_empty, sl_3n, app_nil_map, mk_i64, max_nat, h9, h10, h11, hh]
    · have hfin : (out ++ p.drop i ++ q.drop k).take (out.length + (p.drop i).length + (q.drop k).length) = padd p q := by
        rw [List.take_of_length_le (by simp; omega), ← hpad, List.drop_of_length_le (by omega : q.length ≤ k), padd_nil, List.append_nil]
      simp +decide (disch := first | omega | rfl | (simp +decide only [go_sem, ↓reduceIte, h9, h10, h11] <;> rfl) | fail) only [go_sem, ↓reduceIte, mk_empty, sl_3n, app_nil_map, mk_i64, max_nat, h9, h10, h11]
      rw [app_map (f := PV.term) (xs := out) (ys := p.drop i) (by simp +decide (disch := first | omega | rfl | (simp +decide only [go_sem, ↓reduceIte, hh] <;> rfl) | fail) only [go_sem, ↓reduceIte, mk_empty, sl_3n, app_nil_map, mk_i64, max_nat, hh]) rfl (by omega) (by simp; omega) (by simp; omega)]
      simp +decide (disch := first | omega | rfl | (simp +decide only [go_sem, ↓reduceIte, h9, h10, h11] <;> rfl) | fail) only [go_sem, ↓reduceIte, mk_empty, sl_3n, app_nil_map, mk_i64, max_nat, h9, h10, h11]
      rw [app_map (f := PV.term) (xs := out ++ p.drop i) (ys := q.drop k) (by simp +decide (disch := first | omega | rfl | (simp +decide only [go_sem, ↓reduceIte] <;> rfl) | fail) only [go_sem, ↓reduceIte, mk_empty, sl_3n, app_nil_map, mk_i64, max_nat]) (by simp) (by omega) (by simp; omega) (by simp; omega)]
      simp +decide (disch := first | omega | rfl | (simp +decide only [go_sem, ↓reduceIte, h9, h10, h11, looks3, List.contains_cons, List.contains_nil, List.flatMap_cons, List.flatMap_nil, List.append_nil] <;> rfl) | fail) only [go_sem, ↓reduceIte, mk_empty, sl_3n, app_nil_map, mk_i64, max_nat, h9, h10, h11, looks3, List.contains_cons, List.contains_nil, List.flatMap_cons, List.flatMap_nil, List.append_nil]
      exact retV_eq (by rw [← List.map_take, hfin]) rfl
  · have hfin : (out ++ p.drop i ++ q.drop k).take (out.length + (p.drop i).length + (q.drop k).length) = padd p q := by
      rw [List.take_of_length_le (by simp; omega), ← hpad, List.drop_of_length_le (by omega : p.length ≤ i), nil_padd, List.append_nil]
    simp +decide (disch := first | omega | rfl | (simp +decide only [go_sem, ↓reduceIte, h9, h10, h11] <;> rfl) | fail) only [go_sem, ↓reduceIte, mk_empty, sl_3n, app_nil_map, mk_i64, max_nat, h9, h10, h11]
    rw [app_map (f := PV.term) (xs := out) (ys := p.drop i) (by simp +decide (disch := first | omega | rfl | (simp +decide only [go_sem, ↓reduceIte, hh] <;> rfl) | fail) only [go_sem, ↓reduceIte, mk_empty, sl_3n, app_nil_map, mk_i64, max_nat, hh]) rfl (by omega) (by simp; omega) (by simp; omega)]
    simp +decide (disch := first | omega | rfl | (simp +decide only [go_sem, ↓reduceIte, h9, h10, h11] <;> rfl) | fail) only [go_sem, ↓reduceIte, mk_empty, sl_3n, app_nil_map, mk_i64, max_nat, h9, h10, h11]
    rw [app_map (f := PV.term) (xs := out ++ p.drop i) (ys := q.drop k) (by simp +decide (disch := first | omega | rfl | (simp +decide only [go_sem, ↓reduceIte] <;> rfl) | fail) only [go_sem, ↓reduceIte, mk_empty, sl_3n, app_nil_map, mk_i64, max_nat]) (by simp) (by omega) (by simp; omega) (by simp; omega)]
    simp +decide (disch := first | omega | rfl | (simp +decide only [go_sem, ↓reduceIte, h9, h10, h11, looks3, List.contains_cons, List.contains_nil, List.flatMap_cons, List.flatMap_nil, List.append_nil] <;> rfl) | fail) only [go_sem, ↓reduceIte, mk_empty, sl_3n, app_nil_map, mk_i64, max_nat, h9, h10, h11, looks3, List.contains_cons, List.contains_nil, List.flatMap_cons, List.flatMap_nil, List.append_nil]
    exact retV_eq (by rw [← List.map_take, hfin]) rfl
theorem p_Add_spec {p q : List Tm} {K E : Nat} (hp : PB K E p) (hq : PB K E q) (hK : K ≤ 2 ^ 33) (hE : E ≤ 2 ^ 38) (hlp : p.length ≤ 2 ^ 36) (hlq : q.length ≤ 2 ^ 36) :
    FnSpec Tryz.prog 35 [PV.poly p, PV.poly q] (· = PV.poly (padd p q)) := by
  refine fn_of_vc mixed Tryz.func35 rfl c35_ok (by simp [c35]) fun C hP => ?_; simp only [c35]
  simp +decide (disch := first | omega | rfl | (simp +decide only [go_sem, ↓reduceIte] <;> rfl) | fail) only [go_sem, ↓reduceIte, mk_empty, sl_3n, app_nil_map, mk_i64, max_nat]
  refine call_eq0 hP (p_merge_spec hp hq hK hE hlp hlq) rfl rfl rfl ?_
  simp +decide (disch := first | omega | rfl | (simp +decide only [go_sem, ↓reduceIte] <;> rfl) | fail) only [go_sem, ↓reduceIte, mk_empty, sl_3n, app_nil_map, mk_i64, max_nat]
  exact retV_eq rfl rfl
end Go.Proofs.YtfhmockdgbkpnaaGreat
namespace Go.Proofs.YtfhmockdgbkpnaaGreat
open Go Go.FW
set_option linter.unusedSimpArgs false
set_option linter.unusedVariables false
set_option maxRecDepth 100000
theorem p_sum_spec {K E : Nat} (hE : E ≤ 2 ^ 38) : ∀ (n : Nat) (l : List (List Tm)), l.length ≤ n → (∀ p ∈ l, PB K E p) → l.length * K ≤ 2 ^ 33 → l.length ≤ 2 ^ 36 → plen l ≤ 2 ^ 36 → FnSpec Tryz.prog 88 [PV.polys l] (· = PV.poly (psum l)) := by
  intro n
  induction n with
  | zero =>
    intro l hl _ _ _ _
    have : l = [] := List.length_eq_zero_iff.1 (by omega)
    subst this
    refine fn_of_vc mixed Tryz.func88 rfl c88_ok (by simp [c88]) fun C hP => ?_; simp only [c88]
    simp +decide (disch := first | omega | rfl | (simp +decide only [go_sem, ↓reduceIte, List.map_nil, List.length_nil] <;> rfl) | fail) only [go_sem, ↓reduceIte, mk_empty, sl_3n, app_nil_map, mk_i64, max_nat, List.map_nil, List.length_nil]
    exact retV_le (poly_nil' (by rw [psum])) rfl
  | succ n ih =>
    intro l hl hb hK hll hpl
    refine fn_of_vc mixed Tryz.func88 rfl c88_ok (by simp [c88]) fun C hP => ?_; simp only [c88]
    simp +decide (disch := first | omega | rfl | (simp +decide only [go_sem, ↓reduceIte] <;> rfl) | fail) only [go_sem, ↓reduceIte, mk_empty, sl_3n, app_nil_map, mk_i64, max_nat]
    refine cond_split (fun h0 => ?_) (fun h0 => ?_)
    · have : l = [] := List.length_eq_zero_iff.1 (by omega)
      subst this
      simp +decide (disch := first | omega | rfl | (simp +decide only [go_sem, ↓reduceIte] <;> rfl) | fail) only [go_sem, ↓reduceIte, mk_empty, sl_3n, app_nil_map, mk_i64, max_nat]
      exact retV_le (poly_nil' (by rw [psum])) rfl
    simp +decide (disch := first | omega | rfl | (simp +decide only [go_sem, ↓reduceIte] <;> rfl) | fail) only [go_sem, ↓reduceIte, mk_empty, sl_3n, app_nil_map, mk_i64, max_nat]
    refine cond_split (fun h1 => ?_) (fun h1 => ?_)
    · obtain ⟨p, rfl⟩ : ∃ p, l = [p] := List.length_eq_one_iff.1 (by omega)
      simp +decide (disch := first | omega | rfl | (simp +decide only [go_sem, ↓reduceIte, List.map_cons, List.map_nil] <;> rfl) | fail) only [go_sem, ↓reduceIte, mk_empty, sl_3n, app_nil_map, mk_i64, max_nat, List.map_cons, List.map_nil]
      exact retV_eq (by rw [psum]; rfl) rfl
    have h2 : 2 ≤ l.length := by omega
    have hs := plen_split l (l.length / 2)
    have e : (2 : Int) = ((2 : Nat) : Int) := rfl
    have hq : ∀ d fr hp K, binK .quo false (.int .i64 (l.length : Int)) (.int .i64 2) d fr hp K = K (upd fr d (.int .i64 ((l.length / 2 : Nat) : Int))) hp := fun d fr hp K => by
      rw [e, quo_i64 (by omega) (by omega)]
    have b1 := psum_bound (K := K) (E := E) _ (l.take (l.length / 2)) (Nat.le_refl _) (fun p hp => hb p (List.mem_of_mem_take hp))
    have b2 := psum_bound (K := K) (E := E) _ (l.drop (l.length / 2)) (Nat.le_refl _) (fun p hp => hb p (List.mem_of_mem_drop hp))
    have l1 : (l.take (l.length / 2)).length * K ≤ l.length * K := Nat.mul_le_mul_right _ (by rw [List.length_take]; omega)
    have l2 : (l.drop (l.length / 2)).length * K ≤ l.length * K := Nat.mul_le_mul_right _ (by rw [List.length_drop]; omega)
    simp +decide (disch := first | omega | rfl | (simp +decide only [go_sem, ↓reduceIte, hq] <;> rfl) | fail) only [go_sem, ↓reduceIte, mk_empty, sl_3n, app_nil_map, mk_i64, max_nat, hq]
    refine call_eq0 hP (ih (l.take (l.length / 2)) (by rw [List.length_take]; omega) (fun p hp => hb p (List.mem_of_mem_take hp)) (by omega) (by rw [List.length_take]; omega) (by omega)) rfl rfl rfl ?_
    simp +decide (disch := first | omega | rfl | (simp +decide only [go_sem, ↓reduceIte, hq] <;> rfl) | fail) only [go_sem, ↓reduceIte, mk_empty, sl_3n, app_nil_map, mk_i64, max_nat, hq]
    refine call_eq0 hP (ih (l.drop (l.length / 2)) (by rw [List.length_drop]; omega) (fun p hp => hb p (List.mem_of_mem_drop hp)) (by omega) (by rw [List.length_drop]; omega) (by omega)) rfl rfl rfl ?_
    simp +decide (disch := first | omega | rfl | (simp +decide only [go_sem, ↓reduceIte, hq] <;> rfl) | fail) only [go_sem, ↓reduceIte, mk_empty, sl_3n, app_nil_map, mk_i64, max_nat, hq]
    refine call_eq0 hP (p_Add_spec (b1.1.mono (K' := l.length * K) l1 (Nat.le_refl _)) (b2.1.mono l2 (Nat.le_refl _)) hK hE (by omega) (by omega)) rfl rfl rfl ?_
    simp +decide (disch := first | omega | rfl | (simp +decide only [go_sem, ↓reduceIte] <;> rfl) | fail) only [go_sem, ↓reduceIte, mk_empty, sl_3n, app_nil_map, mk_i64, max_nat]
    exact retV_eq (by rw [psum_many h2]) rfl
theorem ptimes_take {p : List Tm} {t : Tm} {i : Nat} (h : i < p.length) : ptimes (p.take (i + 1)) t = ptimes (p.take i) t ++ (if p[i].1 * t.1 = 0 then [] else [(p[i].1 * t.1, mulM p[i].2 t.2)]) := by
  rw [List.take_succ_eq_append_getElem h, ptimes, List.filterMap_append, ptimes]
  congr 1
  simp only [List.filterMap_cons, List.filterMap_nil]
  split <;> split <;> simp_all
theorem p_times_spec {p : List Tm} {t : Tm} {K E : Nat} (hp : PB K E p) (ht : TB K E t) (hK : K ≤ 2 ^ 33) (hE : E ≤ 2 ^ 38) (hlp : p.length ≤ 2 ^ 36) :
    FnSpec Tryz.prog 87 [PV.poly p, PV.term t] (· = PV.poly (ptimes p t)) := by
  refine fn_of_vc mixed Tryz.func87 rfl c87_ok (by simp [c87]) fun C hP => ?_; simp only [c87]
  simp +decide (disch := first | omega | rfl | (simp +decide only [go_sem, ↓reduceIte] <;> rfl) | fail) only [go_sem, ↓reduceIte, mk_empty, sl_3n, app_nil_map, mk_i64, max_nat]
  refine vc_loopF (by repeat (first | exact okSk_ret | exact okSk_retM | exact okSk_retO | apply okSk_back | apply okSk_out | apply okSk_eb | apply okSk_c | apply okSk_o | apply okSk_again)) [(5, 5), (7, 8), (14, 36)] [7, 8, 11, 34, 35] (fun n J hp => ∃ i, n = p.length - i ∧ i ≤ p.length ∧ J 5 = .ms 11 (ptimes (p.take i) t).length ∧ J 14 = .int .i64 (i : Nat) ∧ hp 3 = some ⟨4, 49, [PV.term t], false⟩ ∧ hp 11 = some ⟨4, 49, (ptimes (p.take i) t).map PV.term, false⟩) p.length ?_ ?_
  · refine ⟨0, rfl, by omega, ?_⟩
    simp +decide (disch := first | omega | rfl | (simp +decide only [go_sem, ↓reduceIte] <;> rfl) | fail) only [go_sem, ↓reduceIte, mk_empty, sl_3n, app_nil_map, mk_i64, max_nat]
    simp [ptimes]
  rintro _ J h ⟨i, rfl, hi, h5, h14, hh3, hh11⟩
  simp +decide (disch := first | omega | rfl | (simp +decide only [go_sem, ↓reduceIte, h5, h14] <;> rfl) | fail) only [go_sem, ↓reduceIte, mk_empty, sl_3n, app_nil_map, mk_i64, max_nat, h5, h14]
  refine cond_split (fun hg => ?_) (fun hg => ?_)
  · have hi' : i < p.length := by omega
    have htp := hp.get hi'
    have htk := ptimes_take (t := t) hi'
    have hlen := ptimes_length (p.take i) t
    rw [List.length_take] at hlen
    have c1 := htp.c
    have c2 := ht.c
    have hrm := rs_mul p[i].1 t.1
    generalize hx : p[i] = x at *
    simp +decide (disch := first | omega | rfl | (simp +decide only [go_sem, ↓reduceIte, h5, h14, hh3, hx] <;> rfl) | fail) only [go_sem, ↓reduceIte, mk_empty, sl_3n, app_nil_map, mk_i64, max_nat, h5, h14, hh3, hx]
    refine call_eq0 hP (q_Mul (a := x.1) (b := t.1) (k := 2 ^ 33) (by omega) (by omega) (by omega)) rfl rfl rfl ?_
    simp +decide (disch := first | omega | rfl | (simp +decide only [go_sem, ↓reduceIte, h5, h14, hh3, hx] <;> rfl) | fail) only [go_sem, ↓reduceIte, mk_empty, sl_3n, app_nil_map, mk_i64, max_nat, h5, h14, hh3, hx]
    refine call_eq0 hP (q_Sign (a := x.1 * t.1) (by omega)) rfl rfl rfl ?_
    simp +decide (disch := first | omega | rfl | (simp +decide only [go_sem, ↓reduceIte, h5, h14, hh3, hx] <;> rfl) | fail) only [go_sem, ↓reduceIte, mk_empty, sl_3n, app_nil_map, mk_i64, max_nat, h5, h14, hh3, hx]
    refine cond_split (fun hz => ?_) (fun hz => ?_)
    · rw [if_neg (fun h => hz (sgnQ_zero.2 h))] at htk
      simp +decide (disch := first | omega | rfl | (simp +decide only [go_sem, ↓reduceIte, h5, h14, hh3, hx] <;> rfl) | fail) only [go_sem, ↓reduceIte, mk_empty, sl_3n, app_nil_map, mk_i64, max_nat, h5, h14, hh3, hx]
      refine call_eq0 hP (m_Mul_spec htp.m ht.m (by omega)) rfl rfl rfl ?_
      simp +decide (disch := first | omega | rfl | (simp +decide only [go_sem, ↓reduceIte, h5, h14, hh3, hx] <;> rfl) | fail) only [go_sem, ↓reduceIte, mk_empty, sl_3n, app_nil_map, mk_i64, max_nat, h5, h14, hh3, hx]
      rw [app_push_map (f := PV.term) (y := (x.1 * t.1, mulM x.2 t.2)) (xs := ptimes (p.take i) t) (ty' := 49) (fz := false) (by simp +decide (disch := first | omega | rfl | (simp +decide only [go_sem, ↓reduceIte, hh11] <;> rfl) | fail) only [go_sem, ↓reduceIte, mk_empty, sl_3n, app_nil_map, mk_i64, max_nat, hh11]) (by simp +decide (disch := first | omega | rfl | (simp +decide only [go_sem, ↓reduceIte] <;> rfl) | fail) only [go_sem, ↓reduceIte, mk_empty, sl_3n, app_nil_map, mk_i64, max_nat] <;> rfl) (by omega) rfl (by omega) (by omega)]
      rw [← htk]
      simp +decide (disch := first | omega | rfl | (simp +decide only [go_sem, ↓reduceIte, h5, h14, hh3, hx] <;> rfl) | fail) only [go_sem, ↓reduceIte, mk_empty, sl_3n, app_nil_map, mk_i64, max_nat, h5, h14, hh3, hx]
      refine back_ovr (p.length - (i + 1)) (by omega) ⟨i + 1, rfl, by omega, ?_⟩
      rw [htk]
      simp +decide (disch := first | omega | rfl | (simp +decide only [go_sem, ↓reduceIte, h5, h14, hh3, List.length_append] <;> rfl) | fail) only [go_sem, ↓reduceIte, mk_empty, sl_3n, app_nil_map, mk_i64, max_nat, h5, h14, hh3, List.length_append]
    · rw [if_pos (sgnQ_zero.1 (Decidable.not_not.1 hz)), List.append_nil] at htk
      simp +decide (disch := first | omega | rfl | (simp +decide only [go_sem, ↓reduceIte, h5, h14, hh3, hx] <;> rfl) | fail) only [go_sem, ↓reduceIte, mk_empty, sl_3n, app_nil_map, mk_i64, max_nat, h5, h14, hh3, hx]
      refine back_ovr (p.length - (i + 1)) (by omega) ⟨i + 1, rfl, by omega, ?_⟩
      rw [htk]
      simp +decide (disch := first | omega | rfl | (simp +decide only [go_sem, ↓reduceIte, h5, h14, hh3, hh11] <;> rfl) | fail) only [go_sem, ↓reduceIte, mk_empty, sl_3n, app_nil_map, mk_i64, max_nat, h5, h14, hh3, hh11]
  · obtain rfl : i = p.length := by omega
    rw [List.take_length] at h5 hh11
    simp +decide (disch := first | omega | rfl | (simp +decide only [go_sem, ↓reduceIte, h5, hh11, looks3, List.contains_cons, List.contains_nil, List.flatMap_cons, List.flatMap_nil, List.append_nil] <;> rfl) | fail) only [go_sem, ↓reduceIte, mk_empty, sl_3n, app_nil_map, mk_i64, max_nat, h5, hh11, looks3, List.contains_cons, List.contains_nil, List.flatMap_cons, List.flatMap_nil, List.append_nil]
    exact retV_eq (by simp [List.take_of_length_le]) rfl
theorem p_Mul_spec {p q : List Tm} {K E : Nat} (hp : PB K E p) (hq : PB K E q) (hE : E ≤ 2 ^ 37) (hlp : p.length ≤ 2 ^ 30) (hlq : q.length ≤ 2 ^ 30) (hlm : p.length * q.length ≤ 2 ^ 36) (hK : min p.length q.length * (K + K) ≤ 2 ^ 33) (hK2 : K ≤ 2 ^ 33) :
    FnSpec Tryz.prog 39 [PV.poly p, PV.poly q] (· = PV.poly (pmul p q)) := by
  have main : ∀ (p q : List Tm), PB K E p → PB K E q → p.length ≤ 2 ^ 30 → q.length ≤ 2 ^ 30 → p.length * q.length ≤ 2 ^ 36 → p.length * (K + K) ≤ 2 ^ 33 → p.length ≤ q.length → True := fun _ _ _ _ _ _ _ _ _ => trivial
  refine fn_of_vc mixed Tryz.func39 rfl c39_ok (by simp [c39]) fun C hP => ?_; simp only [c39]
  simp +decide (disch := first | omega | rfl | (simp +decide only [go_sem, ↓reduceIte] <;> rfl) | fail) only [go_sem, ↓reduceIte, mk_empty, sl_3n, app_nil_map, mk_i64, max_nat]
  refine cond_split (fun hg => ?_) (fun hg => ?_)
  · have hfin : pmul0 q p = pmul p q := by rw [pmul, if_pos (by omega)]
    have hK3 : q.length * (K + K) ≤ 2 ^ 33 := by rw [Nat.min_eq_right (by omega)] at hK; exact hK
    have hlm2 : q.length * p.length ≤ 2 ^ 36 := by rw [Nat.mul_comm]; exact hlm
    simp +decide (disch := first | omega | rfl | (simp +decide only [go_sem, ↓reduceIte] <;> rfl) | fail) only [go_sem, ↓reduceIte, mk_empty, sl_3n, app_nil_map, mk_i64, max_nat]
    refine vc_loopF (by repeat (first | exact okSk_ret | exact okSk_retM | exact okSk_retO | apply okSk_back | apply okSk_out | apply okSk_eb | apply okSk_c | apply okSk_o | apply okSk_again)) [(5, 5), (7, 7), (20, 30)] [7, 17, 28, 29] (fun n J hp => ∃ i, n = q.length - i ∧ i ≤ q.length ∧ J 5 = .ms 17 i ∧ J 20 = .int .i64 (i : Nat) ∧ hp 17 = some ⟨1, 23, ((q.take i).map (ptimes p)).map PV.poly, false⟩) q.length ?_ ?_
    · refine ⟨0, rfl, by omega, ?_⟩
      simp +decide (disch := first | omega | rfl | (simp +decide only [go_sem, ↓reduceIte] <;> rfl) | fail) only [go_sem, ↓reduceIte, mk_empty, sl_3n, app_nil_map, mk_i64, max_nat]
      simp
    rintro _ J h ⟨i, rfl, hi, h5, h20, hh⟩
    simp +decide (disch := first | omega | rfl | (simp +decide only [go_sem, ↓reduceIte, h5, h20] <;> rfl) | fail) only [go_sem, ↓reduceIte, mk_empty, sl_3n, app_nil_map, mk_i64, max_nat, h5, h20]
    refine cond_split (fun hg2 => ?_) (fun hg2 => ?_)
    · have hi' : i < q.length := by omega
      have htp := hq.get hi'
      have htk : (q.take (i + 1)).map (ptimes p) = (q.take i).map (ptimes p) ++ [ptimes p q[i]] := by
        rw [List.take_succ_eq_append_getElem hi', List.map_append]; rfl
      generalize hx : q[i] = x at *
      simp +decide (disch := first | omega | rfl | (simp +decide only [go_sem, ↓reduceIte, h5, h20, hx] <;> rfl) | fail) only [go_sem, ↓reduceIte, mk_empty, sl_3n, app_nil_map, mk_i64, max_nat, h5, h20, hx]
      refine call_eq0 hP (p_times_spec (t := x) hp htp hK2 (by omega) (by omega)) rfl rfl rfl ?_
      simp +decide (disch := first | omega | rfl | (simp +decide only [go_sem, ↓reduceIte, h5, h20, hx] <;> rfl) | fail) only [go_sem, ↓reduceIte, mk_empty, sl_3n, app_nil_map, mk_i64, max_nat, h5, h20, hx]
      rw [app_push_map (f := PV.poly) (y := ptimes p x) (xs := (q.take i).map (ptimes p)) (ty' := 23) (fz := false) (by simp +decide (disch := first | omega | rfl | (simp +decide only [go_sem, ↓reduceIte, hh] <;> rfl) | fail) only [go_sem, ↓reduceIte, mk_empty, sl_3n, app_nil_map, mk_i64, max_nat, hh]) (by simp +decide (disch := first | omega | rfl | (simp +decide only [go_sem, ↓reduceIte] <;> rfl) | fail) only [go_sem, ↓reduceIte, mk_empty, sl_3n, app_nil_map, mk_i64, max_nat] <;> rfl) (by omega) (by simp; omega) (by omega) (by omega)]
      rw [← htk]
      simp +decide (disch := first | omega | rfl | (simp +decide only [go_sem, ↓reduceIte, h5, h20, hx] <;> rfl) | fail) only [go_sem, ↓reduceIte, mk_empty, sl_3n, app_nil_map, mk_i64, max_nat, h5, h20, hx]
      refine back_ovr (q.length - (i + 1)) (by omega) ⟨i + 1, rfl, by omega, ?_⟩
      simp +decide (disch := first | omega | rfl | (simp +decide only [go_sem, ↓reduceIte, h5, h20] <;> rfl) | fail) only [go_sem, ↓reduceIte, mk_empty, sl_3n, app_nil_map, mk_i64, max_nat, h5, h20]
    · obtain rfl : i = q.length := by omega
      rw [List.take_length] at hh
      have hpl := plen_map_times q p
      simp +decide (disch := first | omega | rfl | (simp +decide only [go_sem, ↓reduceIte, h5, hh] <;> rfl) | fail) only [go_sem, ↓reduceIte, mk_empty, sl_3n, app_nil_map, mk_i64, max_nat, h5, hh]
      refine call_eq hP (p_sum_spec (K := K + K) (E := E + E) (by omega) _ (q.map (ptimes p)) (Nat.le_refl _) (fun x hx => by
        obtain ⟨t, ht, rfl⟩ := List.mem_map.1 hx
        exact ptimes_PB hp (hq t ht)) (by rw [List.length_map]; omega) (by rw [List.length_map]; omega) (by omega)) (by simp +decide (disch := first | omega | rfl | (simp +decide only [go_sem, ↓reduceIte, hh, looks3, List.contains_cons, List.contains_nil, List.flatMap_cons, List.flatMap_nil, List.append_nil] <;> rfl) | fail) only [go_sem, ↓reduceIte, mk_empty, sl_3n, app_nil_map, mk_i64, max_nat, hh, looks3, List.contains_cons, List.contains_nil, List.flatMap_cons, List.flatMap_nil, List.append_nil]; simp [List.take_of_length_le]) rfl ?_
      simp +decide (disch := first | omega | rfl | (simp +decide only [go_sem, ↓reduceIte] <;> rfl) | fail) only [go_sem, ↓reduceIte, mk_empty, sl_3n, app_nil_map, mk_i64, max_nat]
      exact retV_eq (congrArg PV.poly hfin) rfl
  · have hfin : pmul0 p q = pmul p q := by rw [pmul, if_neg (by omega)]
    have hK3 : p.length * (K + K) ≤ 2 ^ 33 := by rw [Nat.min_eq_left (by omega)] at hK; exact hK
    simp +decide (disch := first | omega | rfl | (simp +decide only [go_sem, ↓reduceIte] <;> rfl) | fail) only [go_sem, ↓reduceIte, mk_empty, sl_3n, app_nil_map, mk_i64, max_nat]
    refine vc_loopF (by repeat (first | exact okSk_ret | exact okSk_retM | exact okSk_retO | apply okSk_back | apply okSk_out | apply okSk_eb | apply okSk_c | apply okSk_o | apply okSk_again)) [(5, 5), (7, 7), (20, 30)] [7, 17, 28, 29] (fun n J hp => ∃ i, n = p.length - i ∧ i ≤ p.length ∧ J 5 = .ms 17 i ∧ J 20 = .int .i64 (i : Nat) ∧ hp 17 = some ⟨1, 23, ((p.take i).map (ptimes q)).map PV.poly, false⟩) p.length ?_ ?_
    · refine ⟨0, rfl, by omega, ?_⟩
      simp +decide (disch := first | omega | rfl | (simp +decide only [go_sem, ↓reduceIte] <;> rfl) | fail) only [go_sem, ↓reduceIte, mk_empty, sl_3n, app_nil_map, mk_i64, max_nat]
      simp
    rintro _ J h ⟨i, rfl, hi, h5, h20, hh⟩
    simp +decide (disch := first | omega | rfl | (simp +decide only [go_sem, ↓reduceIte, h5, h20] <;> rfl) | fail) only [go_sem, ↓reduceIte, mk_empty, sl_3n, app_nil_map, mk_i64, max_nat, h5, h20]
    refine cond_split (fun hg2 => ?_) (fun hg2 => ?_)
    · have hi' : i < p.length := by omega
      have htp := hp.get hi'
      have htk : (p.take (i + 1)).map (ptimes q) = (p.take i).map (ptimes q) ++ [ptimes q p[i]] := by
        rw [List.take_succ_eq_append_getElem hi', List.map_append]; rfl
      generalize hx : p[i] = x at *
      simp +decide (disch := first | omega | rfl | (simp +decide only [go_sem, ↓reduceIte, h5, h20, hx] <;> rfl) | fail) only [go_sem, ↓reduceIte, mk_empty, sl_3n, app_nil_map, mk_i64, max_nat, h5, h20, hx]
      refine call_eq0 hP (p_times_spec (t := x) hq htp hK2 (by omega) (by omega)) rfl rfl rfl ?_
      simp +decide (disch := first | omega | rfl | (simp +decide only [go_sem, ↓reduceIte, h5, h20, hx] <;> rfl) | fail) only [go_sem, ↓reduceIte, mk_empty, sl_3n, app_nil_map, mk_i64, max_nat, h5, h20, hx]
      rw [app_push_map (f := PV.poly) (y := ptimes q x) (xs := (p.take i).map (ptimes q)) (ty' := 23) (fz := false) (by simp +decide (disch := first | omega | rfl | (simp +decide only [go_sem, ↓reduceIte, hh] <;> rfl) | fail) only [go_sem, ↓reduceIte, mk_empty, sl_3n, app_nil_map, mk_i64, max_nat, hh]) (by simp +decide (disch := first | omega | rfl | (simp +decide only [go_sem, ↓reduceIte] <;> rfl) | fail) only [go_sem, ↓reduceIte, mk_empty, sl_3n, app_nil_map, mk_i64, max_nat] <;> rfl) (by omega) (by simp; omega) (by omega) (by omega)]
      rw [← htk]
      simp +decide (disch := first | omega | rfl | (simp +decide only [go_sem, ↓reduceIte, h5, h20, hx] <;> rfl) | fail) only [go_sem, ↓reduceIte, mk_empty, sl_3n, app_nil_map, mk_i64, max_nat, h5, h20, hx]
      refine back_ovr (p.length - (i + 1)) (by omega) ⟨i + 1, rfl, by omega, ?_⟩
      simp +decide (disch := first | omega | rfl | (simp +decide only [go_sem, ↓reduceIte, h5, h20] <;> rfl) | fail) only [go_sem, ↓reduceIte, mk_empty, sl_3n, app_nil_map, mk_i64, max_nat, h5, h20]
    · obtain rfl : i = p.length := by omega
      rw [List.take_length] at hh
      have hpl := plen_map_times p q
      simp +decide (disch := first | omega | rfl | (simp +decide only [go_sem, ↓reduceIte, h5, hh] <;> rfl) | fail) only [go_sem, ↓reduceIte, mk_empty, sl_3n, app_nil_map, mk_i64, max_nat, h5, hh]
      refine call_eq hP (p_sum_spec (K := K + K) (E := E + E) (by omega) _ (p.map (ptimes q)) (Nat.le_refl _) (fun x hx => by
        obtain ⟨t, ht, rfl⟩ := List.mem_map.1 hx
        exact ptimes_PB hq (hp t ht)) (by rw [List.length_map]; omega) (by rw [List.length_map]; omega) (by omega)) (by simp +decide (disch := first | omega | rfl | (simp +decide only [go_sem, ↓reduceIte, hh, looks3, List.contains_cons, List.contains_nil, List.flatMap_cons, List.flatMap_nil, List.append_nil] <;> rfl) | fail) only [go_sem, ↓reduceIte, mk_empty, sl_3n, app_nil_map, mk_i64, max_nat, hh, looks3, List.contains_cons, List.contains_nil, List.flatMap_cons, List.flatMap_nil, List.append_nil]; simp [List.take_of_length_le]) rfl ?_
      simp +decide (disch := first | omega | rfl | (simp +decide only [go_sem, ↓reduceIte] <;> rfl) | fail) only [go_sem, ↓reduceIte, mk_empty, sl_3n, app_nil_map, mk_i64, max_nat]
      exact retV_eq (congrArg PV.poly hfin) rfl
end Go.Proofs.YtfhmockdgbkpnaaGreat
namespace Go.Proofs.YtfhmockdgbkpnaaGreat
open Go Go.FW
set_option linter.unusedSimpArgs false
set_option linter.unusedVariables false
set_option maxRecDepth 100000
theorem zipI_mulM {k l : Nat} {a b : List Int} (ha : MB k a) (hb : MB l b) (h1 : a.getLast? ≠ some 0) (h2 : b.getLast? ≠ some 0) : zipI (· + ·) a b = mulM a b := by
  rw [mulM, trimI_of]
  rw [List.getLast?_eq_getElem?, zipI_length]
  intro h
  obtain ⟨hl, hv⟩ := List.getElem?_eq_some_iff.1 h
  rw [← eN_lt hl, zipI_eN (by simp)] at hv
  rw [zipI_length] at hl
  have p1 := (ha.eN (max a.length b.length - 1)).1
  have p2 := (hb.eN (max a.length b.length - 1)).1
  by_cases hc : b.length ≤ a.length
  · apply h1
    have e : max a.length b.length - 1 = a.length - 1 := by omega
    rw [e] at hv p1 p2
    rw [List.getLast?_eq_getElem?, List.getElem?_eq_getElem (by omega), ← eN_lt (by omega)]
    congr 1; omega
  · apply h2
    have e : max a.length b.length - 1 = b.length - 1 := by omega
    rw [e] at hv p1 p2
    rw [List.getLast?_eq_getElem?, List.getElem?_eq_getElem (by omega), ← eN_lt (by omega)]
    congr 1; omega
theorem r6_times_spec {p : List Tm} {t : Tm} {K E : Nat} (hp : PB K E p) (ht : TB K E t) (hnz : NZ p) (ht0 : t.1 ≠ 0) (hK : K ≤ 2 ^ 33) (hE : E ≤ 2 ^ 38) (hlp : p.length ≤ 2 ^ 36) :
    FnSpec Tryz.prog 89 [PV.poly p, PV.term t] (· = PV.poly (ptimes p t)) := by
  refine fn_of_vc mixed Tryz.func89 rfl c89_ok (by simp [c89]) fun C hP => ?_; simp only [c89]
  simp +decide (disch := first | omega | rfl | (simp +decide only [go_sem, ↓reduceIte] <;> rfl) | fail) only [go_sem, ↓reduceIte, rem64K, quo64K, remI64K, quoI64K, mulK64, mk_empty, sl_3n, app_nil_map, mk_i64, max_nat]
  refine vc_nilF 5 900 4 49 (by omega) (by simp +decide (disch := first | omega | rfl | (simp +decide only [go_sem, ↓reduceIte] <;> rfl) | fail) only [go_sem, ↓reduceIte, rem64K, quo64K, remI64K, quoI64K, mulK64, mk_empty, sl_3n, app_nil_map, mk_i64, max_nat]) ?_
  refine vc_loopF (by repeat (first | exact okSk_ret | exact okSk_retM | exact okSk_retO | apply okSk_back | apply okSk_out | apply okSk_eb | apply okSk_c | apply okSk_o | apply okSk_again | apply okSk_backW)) [(5, 32)] [31, 32, 900] (fun n J hp => ∃ i, n = p.length - i ∧ i ≤ p.length ∧ J 5 = .ms 900 (ptimes (p.take i) t).length ∧ J 6 = .int .i64 (i : Nat) ∧ hp 3 = some ⟨4, 49, [PV.term t], false⟩ ∧ hp 900 = some ⟨4, 49, (ptimes (p.take i) t).map PV.term, false⟩) p.length ?_ ?_
  · refine ⟨0, rfl, by omega, ?_⟩
    simp +decide (disch := first | omega | rfl | (simp +decide only [go_sem, ↓reduceIte] <;> rfl) | fail) only [go_sem, ↓reduceIte, rem64K, quo64K, remI64K, quoI64K, mulK64, mk_empty, sl_3n, app_nil_map, mk_i64, max_nat]
    simp [ptimes]
  rintro _ J h ⟨i, rfl, hi, h5, h6, hh3, hh⟩
  simp +decide (disch := first | omega | rfl | (simp +decide only [go_sem, ↓reduceIte, h5, h6] <;> rfl) | fail) only [go_sem, ↓reduceIte, rem64K, quo64K, remI64K, quoI64K, mulK64, mk_empty, sl_3n, app_nil_map, mk_i64, max_nat, h5, h6]
  refine cond_split (fun hg => ?_) (fun hg => ?_)
  · have hi' : i < p.length := by omega
    have htp := hp.get hi'
    have htk := ptimes_take (t := t) hi'
    have hlen := ptimes_length (p.take i) t
    rw [List.length_take] at hlen
    have c1 := htp.c
    have c2 := ht.c
    have hn0 := hnz _ (List.getElem_mem hi')
    generalize hx : p[i] = x at *
    have hzz := zipI_mulM htp.m ht.m htp.l ht.l
    rw [if_neg (fun h => by rcases Rat.mul_eq_zero.1 h with h | h <;> contradiction)] at htk
    simp +decide (disch := first | omega | rfl | (simp +decide only [go_sem, ↓reduceIte, h5, h6, hh3, hx] <;> rfl) | fail) only [go_sem, ↓reduceIte, rem64K, quo64K, remI64K, quoI64K, mulK64, mk_empty, sl_3n, app_nil_map, mk_i64, max_nat, h5, h6, hh3, hx]
    refine call_eq0 hP (r3_Mul_q (a := x.1) (b := t.1) (k := 2 ^ 33) (by omega) (by omega) (by omega)) rfl rfl rfl ?_
    simp +decide (disch := first | omega | rfl | (simp +decide only [go_sem, ↓reduceIte, h5, h6, hh3, hx] <;> rfl) | fail) only [go_sem, ↓reduceIte, rem64K, quo64K, remI64K, quoI64K, mulK64, mk_empty, sl_3n, app_nil_map, mk_i64, max_nat, h5, h6, hh3, hx]
    refine call_eq0 hP (r5_Mul_spec htp.m ht.m (by omega)) rfl rfl rfl ?_
    rw [hzz]
    simp +decide (disch := first | omega | rfl | (simp +decide only [go_sem, ↓reduceIte, h5, h6, hh3, hx] <;> rfl) | fail) only [go_sem, ↓reduceIte, rem64K, quo64K, remI64K, quoI64K, mulK64, mk_empty, sl_3n, app_nil_map, mk_i64, max_nat, h5, h6, hh3, hx]
    rw [app_push_map (f := PV.term) (y := (x.1 * t.1, mulM x.2 t.2)) (xs := ptimes (p.take i) t) (ty' := 49) (fz := false) (by simp +decide (disch := first | omega | rfl | (simp +decide only [go_sem, ↓reduceIte, hh] <;> rfl) | fail) only [go_sem, ↓reduceIte, rem64K, quo64K, remI64K, quoI64K, mulK64, mk_empty, sl_3n, app_nil_map, mk_i64, max_nat, hh]) (by simp +decide (disch := first | omega | rfl | (simp +decide only [go_sem, ↓reduceIte] <;> rfl) | fail) only [go_sem, ↓reduceIte, rem64K, quo64K, remI64K, quoI64K, mulK64, mk_empty, sl_3n, app_nil_map, mk_i64, max_nat] <;> rfl) (by omega) rfl (by omega) (by omega)]
    rw [← htk]
    simp +decide (disch := first | omega | rfl | (simp +decide only [go_sem, ↓reduceIte, h5, h6, hh3, hx] <;> rfl) | fail) only [go_sem, ↓reduceIte, rem64K, quo64K, remI64K, quoI64K, mulK64, mk_empty, sl_3n, app_nil_map, mk_i64, max_nat, h5, h6, hh3, hx]
    refine back_ovr (p.length - (i + 1)) (by omega) ⟨i + 1, rfl, by omega, ?_⟩
    rw [htk]
    simp +decide (disch := first | omega | rfl | (simp +decide only [go_sem, ↓reduceIte, h5, h6, hh3, List.length_append] <;> rfl) | fail) only [go_sem, ↓reduceIte, rem64K, quo64K, remI64K, quoI64K, mulK64, mk_empty, sl_3n, app_nil_map, mk_i64, max_nat, h5, h6, hh3, List.length_append]
  · obtain rfl : i = p.length := by omega
    rw [List.take_length] at h5 hh
    simp +decide (disch := first | omega | rfl | (simp +decide only [go_sem, ↓reduceIte, h5, hh, looks3, List.contains_cons, List.contains_nil, List.flatMap_cons, List.flatMap_nil, List.append_nil] <;> rfl) | fail) only [go_sem, ↓reduceIte, rem64K, quo64K, remI64K, quoI64K, mulK64, mk_empty, sl_3n, app_nil_map, mk_i64, max_nat, h5, hh, looks3, List.contains_cons, List.contains_nil, List.flatMap_cons, List.flatMap_nil, List.append_nil]
    exact retV_eq (by simp [List.take_of_length_le]) rfl
theorem pmulR_take {p q : List Tm} {i : Nat} (h : i < q.length) : pmulR p (q.take (i + 1)) = padd (pmulR p (q.take i)) (ptimes p q[i]) := by
  rw [List.take_succ_eq_append_getElem h, pmulR, List.foldl_append, pmulR]; rfl
theorem pmulR_bound {K E : Nat} {p : List Tm} (hp : PB K E p) : ∀ (q out : List Tm) (L : Nat), PB K E q → PB L (E + E) out → PB (q.length * (K + K) + L) (E + E) (q.foldl (fun out t => padd out (ptimes p t)) out) ∧ (q.foldl (fun out t => padd out (ptimes p t)) out).length ≤ q.length * p.length + out.length
  | [], out, L, _, ho => ⟨by simpa using ho, by simp⟩
  | t :: q, out, L, hq, ho => by
    obtain ⟨h1, h2⟩ := pmulR_bound hp q (padd out (ptimes p t)) (L + (K + K)) (PB.cons.1 hq).2 (padd_PB _ _ ho (ptimes_PB hp (PB.cons.1 hq).1))
    have h3 := padd_length out (ptimes p t)
    have h4 := ptimes_length p t
    refine ⟨h1.mono (by rw [List.length_cons, Nat.add_mul]; omega) (Nat.le_refl _), Nat.le_trans h2 ?_⟩
    rw [List.length_cons, Nat.add_mul]; omega
theorem pmulR_PB {K E : Nat} {p q : List Tm} (hp : PB K E p) (hq : PB K E q) : PB (q.length * (K + K)) (E + E) (pmulR p q) ∧ (pmulR p q).length ≤ q.length * p.length := by
  have := pmulR_bound hp q [] 0 hq (PB.nil _ _)
  simpa [pmulR] using this
theorem r6_Mul_spec {p q : List Tm} {K E : Nat} (hp : PB K E p) (hq : PB K E q) (hnp : NZ p) (hnq : NZ q) (hE : E ≤ 2 ^ 37) (hlp : p.length ≤ 2 ^ 30) (hlq : q.length ≤ 2 ^ 30) (hlm : q.length * p.length ≤ 2 ^ 36) (hK : q.length * (K + K) + (K + K) ≤ 2 ^ 32) :
    FnSpec Tryz.prog 40 [PV.poly p, PV.poly q] (· = PV.poly (pmulR p q)) := by
  refine fn_of_vc mixed Tryz.func40 rfl c40_ok (by simp [c40]) fun C hP => ?_; simp only [c40]
  simp +decide (disch := first | omega | rfl | (simp +decide only [go_sem, ↓reduceIte] <;> rfl) | fail) only [go_sem, ↓reduceIte, rem64K, quo64K, remI64K, quoI64K, mulK64, mk_empty, sl_3n, app_nil_map, mk_i64, max_nat]
  refine vc_nilD 5 4 (by simp +decide (disch := first | omega | rfl | (simp +decide only [go_sem, ↓reduceIte] <;> rfl) | fail) only [go_sem, ↓reduceIte, rem64K, quo64K, remI64K, quoI64K, mulK64, mk_empty, sl_3n, app_nil_map, mk_i64, max_nat]) ?_
  refine vc_loopF (by repeat (first | exact okSk_ret | exact okSk_retM | exact okSk_retO | apply okSk_back | apply okSk_out | apply okSk_eb | apply okSk_c | apply okSk_o | apply okSk_again | apply okSk_backW)) [(5, 20)] [] (fun n J hp => ∃ i, n = q.length - i ∧ i ≤ q.length ∧ J 5 = PV.poly (pmulR p (q.take i)) ∧ J 6 = .int .i64 (i : Nat)) q.length ?_ ?_
  · refine ⟨0, rfl, by omega, ?_⟩
    simp +decide (disch := first | omega | rfl | (simp +decide only [go_sem, ↓reduceIte] <;> rfl) | fail) only [go_sem, ↓reduceIte, rem64K, quo64K, remI64K, quoI64K, mulK64, mk_empty, sl_3n, app_nil_map, mk_i64, max_nat]
    simp [pmulR]
  rintro _ J h ⟨i, rfl, hi, h5, h6⟩
  simp +decide (disch := first | omega | rfl | (simp +decide only [go_sem, ↓reduceIte, h5, h6] <;> rfl) | fail) only [go_sem, ↓reduceIte, rem64K, quo64K, remI64K, quoI64K, mulK64, mk_empty, sl_3n, app_nil_map, mk_i64, max_nat, h5, h6]
  refine cond_split (fun hg => ?_) (fun hg => ?_)
  · have hi' : i < q.length := by omega
    have htq := hq.get hi'
    have htk := pmulR_take (p := p) hi'
    have hn0 := hnq _ (List.getElem_mem hi')
    obtain ⟨hb1, hb2⟩ := pmulR_PB hp (hq.take i)
    have hbt := ptimes_PB hp htq
    have hlt := ptimes_length p q[i]
    generalize hx : q[i] = x at *
    have e1 : (q.take i).length = i := by rw [List.length_take]; omega
    rw [e1] at hb1 hb2
    have e2 : i * (K + K) ≤ q.length * (K + K) := Nat.mul_le_mul_right _ hi
    have e3 : i * p.length ≤ q.length * p.length := Nat.mul_le_mul_right _ hi
    simp +decide (disch := first | omega | rfl | (simp +decide only [go_sem, ↓reduceIte, h5, h6, hx] <;> rfl) | fail) only [go_sem, ↓reduceIte, rem64K, quo64K, remI64K, quoI64K, mulK64, mk_empty, sl_3n, app_nil_map, mk_i64, max_nat, h5, h6, hx]
    refine call_eq0 hP (r6_times_spec (t := x) hp htq hnp hn0 (by omega) (by omega) (by omega)) rfl rfl rfl ?_
    simp +decide (disch := first | omega | rfl | (simp +decide only [go_sem, ↓reduceIte, h5, h6, hx] <;> rfl) | fail) only [go_sem, ↓reduceIte, rem64K, quo64K, remI64K, quoI64K, mulK64, mk_empty, sl_3n, app_nil_map, mk_i64, max_nat, h5, h6, hx]
    refine call_eq0 hP (r6_Add_spec (K := q.length * (K + K) + (K + K)) (E := E + E) (hb1.mono (by omega) (by omega)) (hbt.mono (by omega) (by omega)) hK (by omega) (by omega) (by omega)) rfl rfl rfl ?_
    simp +decide (disch := first | omega | rfl | (simp +decide only [go_sem, ↓reduceIte, h5, h6, hx] <;> rfl) | fail) only [go_sem, ↓reduceIte, rem64K, quo64K, remI64K, quoI64K, mulK64, mk_empty, sl_3n, app_nil_map, mk_i64, max_nat, h5, h6, hx]
    refine back_ovr (q.length - (i + 1)) (by omega) ⟨i + 1, rfl, by omega, ?_⟩
    rw [htk]
    simp +decide (disch := first | omega | rfl | (simp +decide only [go_sem, ↓reduceIte] <;> rfl) | fail) only [go_sem, ↓reduceIte, rem64K, quo64K, remI64K, quoI64K, mulK64, mk_empty, sl_3n, app_nil_map, mk_i64, max_nat]
  · obtain rfl : i = q.length := by omega
    rw [List.take_length] at h5
    simp +decide (disch := first | omega | rfl | (simp +decide only [go_sem, ↓reduceIte, h5] <;> rfl) | fail) only [go_sem, ↓reduceIte, rem64K, quo64K, remI64K, quoI64K, mulK64, mk_empty, sl_3n, app_nil_map, mk_i64, max_nat, h5]
    exact retV_eq rfl rfl
end Go.Proofs.YtfhmockdgbkpnaaGreat
namespace Go.Proofs.YtfhmockdgbkpnaaGreat
open Go Go.FW
set_option linter.unusedSimpArgs false
set_option linter.unusedVariables false
set_option maxRecDepth 100000
theorem p_Scale_spec {p : List Tm} {a : Rat} {K E : Nat} (hp : PB K E p) (ha : rs a + 1 ≤ K) (hK : K ≤ 2 ^ 33) (hE : E ≤ 2 ^ 38) (hlp : p.length ≤ 2 ^ 36) : FnSpec Tryz.prog 41 [PV.poly p, PV.rat a] (· = PV.poly (pscale p a)) := by
  refine fn_of_vc mixed Tryz.func41 rfl c41_ok (by simp [c41]) fun C hP => ?_; simp only [c41]
  simp +decide (disch := first | omega | rfl | (simp +decide only [go_sem, ↓reduceIte] <;> rfl) | fail) only [go_sem, ↓reduceIte, mk_empty, sl_3n, app_nil_map, mk_i64, max_nat]
  refine call_eq0 hP (q_Sign (a := a) (by omega)) rfl rfl rfl ?_
  simp +decide (disch := first | omega | rfl | (simp +decide only [go_sem, ↓reduceIte] <;> rfl) | fail) only [go_sem, ↓reduceIte, mk_empty, sl_3n, app_nil_map, mk_i64, max_nat]
  refine cond_split (fun h0 => ?_) (fun h0 => ?_)
  · simp +decide (disch := first | omega | rfl | (simp +decide only [go_sem, ↓reduceIte] <;> rfl) | fail) only [go_sem, ↓reduceIte, mk_empty, sl_3n, app_nil_map, mk_i64, max_nat]
    exact retV_le (poly_nil' (by rw [pscale, if_pos (sgnQ_zero.1 h0)])) rfl
  · simp +decide (disch := first | omega | rfl | (simp +decide only [go_sem, ↓reduceIte] <;> rfl) | fail) only [go_sem, ↓reduceIte, mk_empty, sl_3n, app_nil_map, mk_i64, max_nat]
    refine call_eq0 hP ((p_times_spec (t := (a, [])) hp (TB.num ha) hK hE hlp).le (args' := [PV.poly p, .agg [.bool (decide (a.num < 0)), PV.num a.num.natAbs, PV.num a.den, .nilS]]) ⟨le_refl _, ⟨rfl, le1_refl _, le1_refl _, trivial, trivial⟩, trivial⟩) rfl rfl rfl ?_
    simp +decide (disch := first | omega | rfl | (simp +decide only [go_sem, ↓reduceIte] <;> rfl) | fail) only [go_sem, ↓reduceIte, mk_empty, sl_3n, app_nil_map, mk_i64, max_nat]
    exact retV_eq (by rw [pscale, if_neg (fun h => h0 (sgnQ_zero.2 h))]) rfl
theorem p_Neg_spec {p : List Tm} {K E : Nat} (hp : PB K E p) (hK2 : 2 ≤ K) (hK : K ≤ 2 ^ 33) (hE : E ≤ 2 ^ 38) (hlp : p.length ≤ 2 ^ 36) : FnSpec Tryz.prog 33 [PV.poly p] (· = PV.poly (pneg p)) := by
  have h1 := rs_m1
  refine fn_of_vc mixed Tryz.func33 rfl c33_ok (by simp [c33]) fun C hP => ?_; simp only [c33]
  simp +decide (disch := first | omega | rfl | (simp +decide only [go_sem, ↓reduceIte] <;> rfl) | fail) only [go_sem, ↓reduceIte, mk_empty, sl_3n, app_nil_map, mk_i64, max_nat]
  refine call_eq0 hP (q_Of_spec (x := -1) (by omega) (by omega)) rfl rfl rfl ?_
  simp +decide (disch := first | omega | rfl | (simp +decide only [go_sem, ↓reduceIte] <;> rfl) | fail) only [go_sem, ↓reduceIte, mk_empty, sl_3n, app_nil_map, mk_i64, max_nat]
  refine call_eq0 hP (p_Scale_spec (a := ((-1 : Int) : Rat)) hp (by have : ((-1 : Int) : Rat) = -1 := rfl; rw [this]; omega) hK hE hlp) rfl rfl rfl ?_
  simp +decide (disch := first | omega | rfl | (simp +decide only [go_sem, ↓reduceIte] <;> rfl) | fail) only [go_sem, ↓reduceIte, mk_empty, sl_3n, app_nil_map, mk_i64, max_nat]
  exact retV_eq rfl rfl
theorem p_Sub_spec {p q : List Tm} {K E : Nat} (hp : PB K E p) (hq : PB K E q) (hK2 : 2 ≤ K) (hK : K ≤ 2 ^ 32) (hE : E ≤ 2 ^ 38) (hlp : p.length ≤ 2 ^ 36) (hlq : q.length ≤ 2 ^ 36) : FnSpec Tryz.prog 37 [PV.poly p, PV.poly q] (· = PV.poly (psub p q)) := by
  have hl := pscale_length q (-1)
  refine fn_of_vc mixed Tryz.func37 rfl c37_ok (by simp [c37]) fun C hP => ?_; simp only [c37]
  simp +decide (disch := first | omega | rfl | (simp +decide only [go_sem, ↓reduceIte] <;> rfl) | fail) only [go_sem, ↓reduceIte, mk_empty, sl_3n, app_nil_map, mk_i64, max_nat]
  refine call_eq0 hP (p_Neg_spec hq hK2 (by omega) hE hlq) rfl rfl rfl ?_
  simp +decide (disch := first | omega | rfl | (simp +decide only [go_sem, ↓reduceIte] <;> rfl) | fail) only [go_sem, ↓reduceIte, mk_empty, sl_3n, app_nil_map, mk_i64, max_nat]
  refine call_eq0 hP (p_Add_spec (hp.mono (K' := K + 2) (by omega) (Nat.le_refl _)) (pneg_PB hq) (by omega) hE hlp (by show (pscale q (-1)).length ≤ _; omega)) rfl rfl rfl ?_
  simp +decide (disch := first | omega | rfl | (simp +decide only [go_sem, ↓reduceIte] <;> rfl) | fail) only [go_sem, ↓reduceIte, mk_empty, sl_3n, app_nil_map, mk_i64, max_nat]
  exact retV_eq rfl rfl
theorem p_Var_spec {v : Int} (h1 : -9223372036854775808 ≤ v) (h2 : v < 9223372036854775807) : FnSpec Tryz.prog 54 [.int .i64 v] (· = PV.poly (pvar v)) := by
  refine fn_of_vc mixed Tryz.func54 rfl c54_ok (by simp [c54]) fun C hP => ?_; simp only [c54]
  simp +decide (disch := first | omega | rfl | (simp +decide only [go_sem, ↓reduceIte] <;> rfl) | fail) only [go_sem, ↓reduceIte, mk_empty, sl_3n, app_nil_map, mk_i64, max_nat]
  refine guard_splitF (fun h => ?_) (fun h => ?_)
  · simp +decide (disch := first | omega | rfl | (simp +decide only [go_sem, ↓reduceIte] <;> rfl) | fail) only [go_sem, ↓reduceIte, mk_empty, sl_3n, app_nil_map, mk_i64, max_nat]
    exact retV_le (poly_nil' (by rw [pvar, if_pos (.inl h)])) rfl
  obtain ⟨n, rfl⟩ : ∃ n : Nat, v = n := ⟨v.toNat, by omega⟩
  simp +decide (disch := first | omega | rfl | (simp +decide only [go_sem, ↓reduceIte] <;> rfl) | fail) only [go_sem, ↓reduceIte, mk_empty, sl_3n, app_nil_map, mk_i64, max_nat]
  refine cond_split (fun h => ?_) (fun h => ?_)
  · simp +decide (disch := first | omega | rfl | (simp +decide only [go_sem, ↓reduceIte] <;> rfl) | fail) only [go_sem, ↓reduceIte, mk_empty, sl_3n, app_nil_map, mk_i64, max_nat]
    exact retV_le (poly_nil' (by rw [pvar, if_pos (.inr h)])) rfl
  have hset : (List.replicate (n + 1) (0 : Int)).set n 1 = varM n := by
    rw [List.replicate_succ', varM, List.set_append_right _ _ (by simp)]; simp
  have hl : n < (List.replicate (n + 1) (0 : Int)).length := by simp
  have hr := rs_1
  simp +decide (disch := first | omega | rfl | (simp +decide only [go_sem, ↓reduceIte, hset] <;> rfl) | fail) only [go_sem, ↓reduceIte, mk_empty, sl_3n, app_nil_map, mk_i64, max_nat, hset]
  refine call_eq0 hP (q_Of_spec (x := 1) (by omega) (by omega)) rfl rfl rfl ?_
  simp +decide (disch := first | omega | rfl | (simp +decide only [go_sem, ↓reduceIte] <;> rfl) | fail) only [go_sem, ↓reduceIte, mk_empty, sl_3n, app_nil_map, mk_i64, max_nat]
  refine call_eq hP (p_single_spec (c := ((1 : Int) : Rat)) (m := varM n) (by have : ((1 : Int) : Rat) = 1 := rfl; rw [this]; omega)) (by simp +decide (disch := first | omega | rfl | (simp +decide only [go_sem, ↓reduceIte, looks3, List.contains_cons, List.contains_nil, List.flatMap_cons, List.flatMap_nil, List.append_nil] <;> rfl) | fail) only [go_sem, ↓reduceIte, mk_empty, sl_3n, app_nil_map, mk_i64, max_nat, looks3, List.contains_cons, List.contains_nil, List.flatMap_cons, List.flatMap_nil, List.append_nil]; simp [varM, List.take_of_length_le]) rfl ?_
  simp +decide (disch := first | omega | rfl | (simp +decide only [go_sem, ↓reduceIte] <;> rfl) | fail) only [go_sem, ↓reduceIte, mk_empty, sl_3n, app_nil_map, mk_i64, max_nat]
  refine retV_eq ?_ rfl
  rw [pvar, if_neg (show ¬ ((n : Int) < 0 ∨ 64 ≤ (n : Int)) by omega), Int.toNat_natCast]
  rfl
end Go.Proofs.YtfhmockdgbkpnaaGreat
namespace Go.Proofs.YtfhmockdgbkpnaaGreat
open Go Go.FW
set_option linter.unusedSimpArgs false
set_option linter.unusedVariables false
set_option maxRecDepth 100000
theorem RB.raw {k : Nat} {t : RTm} (h : RB k t) (hk : 1 ≤ k) : Raw k t.n t.a t.d := ⟨h.r.1, h.r.2.1, h.r.2.2.1, h.r.2.2.2, hk⟩
end Go.Proofs.YtfhmockdgbkpnaaGreat
namespace Go.Proofs.YtfhmockdgbkpnaaGreat
open Go Go.FW
set_option linter.unusedSimpArgs false
set_option linter.unusedVariables false
set_option maxRecDepth 100000
theorem r6_Right_raw {l : List RTm} {k : Nat} (hb : ∀ t ∈ l, RB k t) (hk1 : 1 ≤ k) (hk : k < 2 ^ 36) (hll : l.length < 2 ^ 40) : FnSpec Tryz.prog 45 [PV.rpoly l] (· = .bool (prOk l)) := by
  have hiff := prOk_iff l
  have bad : ∀ {b : Bool}, (b = true → False) → b = false := fun {b} h => by cases b <;> simp_all
  refine fn_of_vc mixed Tryz.func45 rfl c45_ok (by simp [c45]) fun C hP => ?_; simp only [c45]
  simp +decide (disch := first | omega | rfl | (simp +decide only [go_sem, ↓reduceIte] <;> rfl) | fail) only [go_sem, ↓reduceIte, rem64K, quo64K, remI64K, quoI64K, mulK64, mk_empty, sl_3n, app_nil_map, mk_i64, max_nat]
  refine vc_loopF (by repeat (first | exact okSk_ret | exact okSk_retM | exact okSk_retO | apply okSk_back | apply okSk_out | apply okSk_eb | apply okSk_c | apply okSk_o | apply okSk_again | apply okSk_backW)) [(2, 51)] [] (fun n J hp => ∃ i, n = l.length - i ∧ i ≤ l.length ∧ (∀ j (h : j < l.length), j < i → rOk l[j] = true) ∧ (∀ j (h : j + 1 < l.length), j + 1 < i → 0 < cmpM l[j].m l[j + 1].m) ∧ J 3 = .int .i64 (i : Nat)) l.length ?_ ?_
  · refine ⟨0, rfl, by omega, by omega, by omega, ?_⟩
    simp +decide (disch := first | omega | rfl | (simp +decide only [go_sem, ↓reduceIte] <;> rfl) | fail) only [go_sem, ↓reduceIte, rem64K, quo64K, remI64K, quoI64K, mulK64, mk_empty, sl_3n, app_nil_map, mk_i64, max_nat]
    rfl
  rintro _ J h ⟨i, rfl, hi, h1, h2, h7⟩
  simp +decide (disch := first | omega | rfl | (simp +decide only [go_sem, ↓reduceIte, h7] <;> rfl) | fail) only [go_sem, ↓reduceIte, rem64K, quo64K, remI64K, quoI64K, mulK64, mk_empty, sl_3n, app_nil_map, mk_i64, max_nat, h7]
  refine cond_split (fun hg => ?_) (fun hg => ?_)
  · have hi' : i < l.length := by omega
    have hbt := hb _ (List.getElem_mem hi')
    have hr := (RB.raw hbt hk1).rs
    have hml := hbt.l
    have hbadt : prOk l = true → rOk l[i] = true := fun h => (hiff.1 h).1 i hi'
    have hbadc : ∀ (j : Nat) (hj : j + 1 = i), prOk l = true → 0 < cmpM (l[j]'(by omega)).m l[i].m := fun j hj h => by subst hj; exact (hiff.1 h).2 j hi'
    have hadd1 : rOk l[i] = true → ∀ j (h : j < l.length), j < i + 1 → rOk l[j] = true := fun h j hj hji => by
      by_cases e : j = i
      · subst e; exact h
      · exact h1 j hj (by omega)
    have hprev : ∀ (j : Nat) (hj : j + 1 = i), MB 1048576 (l[j]'(by omega)).m := fun j hj => by
      have := h1 j (by omega) (by omega)
      simp only [rOk, Bool.and_eq_true] at this
      exact MB.ofOk this.2.2
    have hadd2 : (∀ (j : Nat) (hj : j + 1 = i), 0 < cmpM (l[j]'(by omega)).m l[i].m) → ∀ j (h : j + 1 < l.length), j + 1 < i + 1 → 0 < cmpM l[j].m l[j + 1].m := fun h j hj hji => by
      by_cases e : j + 1 = i
      · subst e; exact h j rfl
      · exact h2 j hj (by omega)
    generalize hx : l[i] = x at *
    have hr' : rs (rv x.n x.a x.d) < 2 ^ 36 := by omega
    simp +decide (disch := first | omega | rfl | (simp +decide only [go_sem, ↓reduceIte, h7, hx] <;> rfl) | fail) only [go_sem, ↓reduceIte, rem64K, quo64K, remI64K, quoI64K, mulK64, mk_empty, sl_3n, app_nil_map, mk_i64, max_nat, h7, hx]
    refine call_eq0 hP (r3_Right_spec (RB.raw hbt hk1) hk) rfl rfl rfl ?_
    simp +decide (disch := first | omega | rfl | (simp +decide only [go_sem, ↓reduceIte, h7] <;> rfl) | fail) only [go_sem, ↓reduceIte, rem64K, quo64K, remI64K, quoI64K, mulK64, mk_empty, sl_3n, app_nil_map, mk_i64, max_nat, h7]
    cases hok : ratOk x.n x.a x.d
    · have hf : prOk l = false := bad fun h => by have := hbadt h; simp [rOk, hok] at this
      simp +decide (disch := first | omega | rfl | (simp +decide only [go_sem, ↓reduceIte, h7, Bool.not_false] <;> rfl) | fail) only [go_sem, ↓reduceIte, rem64K, quo64K, remI64K, quoI64K, mulK64, mk_empty, sl_3n, app_nil_map, mk_i64, max_nat, h7, Bool.not_false]
      exact retV_eq (by rw [hf]) rfl
    simp +decide (disch := first | omega | rfl | (simp +decide only [go_sem, ↓reduceIte, h7, Bool.not_true, hx] <;> rfl) | fail) only [go_sem, ↓reduceIte, rem64K, quo64K, remI64K, quoI64K, mulK64, mk_empty, sl_3n, app_nil_map, mk_i64, max_nat, h7, Bool.not_true, hx]
    refine call_eq0 hP (r3_Sign_spec (RB.raw hbt hk1) hk) rfl rfl rfl ?_
    simp +decide (disch := first | omega | rfl | (simp +decide only [go_sem, ↓reduceIte, h7] <;> rfl) | fail) only [go_sem, ↓reduceIte, rem64K, quo64K, remI64K, quoI64K, mulK64, mk_empty, sl_3n, app_nil_map, mk_i64, max_nat, h7]
    refine guard_splitF (fun hz => ?_) (fun hz => ?_)
    · have hf : prOk l = false := bad fun h => by have := hbadt h; simp [rOk, RTm.q, sgnQ_zero.1 hz] at this
      simp +decide (disch := first | omega | rfl | (simp +decide only [go_sem, ↓reduceIte, h7] <;> rfl) | fail) only [go_sem, ↓reduceIte, rem64K, quo64K, remI64K, quoI64K, mulK64, mk_empty, sl_3n, app_nil_map, mk_i64, max_nat, h7]
      exact retV_eq (by rw [hf]) rfl
    simp +decide (disch := first | omega | rfl | (simp +decide only [go_sem, ↓reduceIte, h7, hx] <;> rfl) | fail) only [go_sem, ↓reduceIte, rem64K, quo64K, remI64K, quoI64K, mulK64, mk_empty, sl_3n, app_nil_map, mk_i64, max_nat, h7, hx]
    refine call_eq0 hP (r5_Right_spec (by omega)) rfl rfl rfl ?_
    simp +decide (disch := first | omega | rfl | (simp +decide only [go_sem, ↓reduceIte, h7] <;> rfl) | fail) only [go_sem, ↓reduceIte, rem64K, quo64K, remI64K, quoI64K, mulK64, mk_empty, sl_3n, app_nil_map, mk_i64, max_nat, h7]
    cases hmo : monoOk x.m
    · have hf : prOk l = false := bad fun h => by have := hbadt h; simp [rOk, hmo] at this
      simp +decide (disch := first | omega | rfl | (simp +decide only [go_sem, ↓reduceIte, h7, Bool.not_false] <;> rfl) | fail) only [go_sem, ↓reduceIte, rem64K, quo64K, remI64K, quoI64K, mulK64, mk_empty, sl_3n, app_nil_map, mk_i64, max_nat, h7, Bool.not_false]
      exact retV_eq (by rw [hf]) rfl
    have hrok : rOk x = true := by
      simp only [rOk, hok, hmo, Bool.true_and, Bool.and_true, decide_eq_true_eq]
      exact fun h => hz (sgnQ_zero.2 h)
    simp +decide (disch := first | omega | rfl | (simp +decide only [go_sem, ↓reduceIte, h7, Bool.not_true] <;> rfl) | fail) only [go_sem, ↓reduceIte, rem64K, quo64K, remI64K, quoI64K, mulK64, mk_empty, sl_3n, app_nil_map, mk_i64, max_nat, h7, Bool.not_true]
    refine guard_split (fun hi0 => ?_) (fun hi0 => ?_)
    · obtain ⟨j, rfl⟩ : ∃ j, i = j + 1 := ⟨i - 1, by omega⟩
      have e : ((j + 1 : Nat) : Int) - 1 = j := by omega
      have hjl : j < l.length := by omega
      have hpj := hprev j rfl
      have hbadj := hbadc j rfl
      have hadd2' : 0 < cmpM (l[j]'(by omega)).m x.m → ∀ j2 (h : j2 + 1 < l.length), j2 + 1 < j + 1 + 1 → 0 < cmpM l[j2].m l[j2 + 1].m := fun h => hadd2 (fun j' hj' => by
        obtain rfl : j' = j := by omega
        exact h)
      generalize hy : l[j]'(by omega) = y at *
      simp +decide (disch := first | omega | rfl | (simp +decide only [go_sem, ↓reduceIte, h7, e, hx, hy] <;> rfl) | fail) only [go_sem, ↓reduceIte, rem64K, quo64K, remI64K, quoI64K, mulK64, mk_empty, sl_3n, app_nil_map, mk_i64, max_nat, h7, e, hx, hy]
      refine call_eq0 hP (r5_lex hpj (MB.ofOk hmo) (by omega)) rfl rfl rfl ?_
      simp +decide (disch := first | omega | rfl | (simp +decide only [go_sem, ↓reduceIte, h7, e] <;> rfl) | fail) only [go_sem, ↓reduceIte, rem64K, quo64K, remI64K, quoI64K, mulK64, mk_empty, sl_3n, app_nil_map, mk_i64, max_nat, h7, e]
      refine cond_split (fun hc => ?_) (fun hc => ?_)
      · have hf : prOk l = false := bad fun h => by have := hbadj h; omega
        simp +decide (disch := first | omega | rfl | (simp +decide only [go_sem, ↓reduceIte, h7] <;> rfl) | fail) only [go_sem, ↓reduceIte, rem64K, quo64K, remI64K, quoI64K, mulK64, mk_empty, sl_3n, app_nil_map, mk_i64, max_nat, h7]
        exact retV_eq (by rw [hf]) rfl
      · simp +decide (disch := first | omega | rfl | (simp +decide only [go_sem, ↓reduceIte, h7] <;> rfl) | fail) only [go_sem, ↓reduceIte, rem64K, quo64K, remI64K, quoI64K, mulK64, mk_empty, sl_3n, app_nil_map, mk_i64, max_nat, h7]
        refine back_ovr (l.length - (j + 1 + 1)) (by omega) ⟨j + 1 + 1, rfl, by omega, hadd1 hrok, hadd2' (by omega), ?_⟩
        simp +decide (disch := first | omega | rfl | (simp +decide only [go_sem, ↓reduceIte] <;> rfl) | fail) only [go_sem, ↓reduceIte, rem64K, quo64K, remI64K, quoI64K, mulK64, mk_empty, sl_3n, app_nil_map, mk_i64, max_nat]
    · obtain rfl : i = 0 := by omega
      simp +decide (disch := first | omega | rfl | (simp +decide only [go_sem, ↓reduceIte, h7] <;> rfl) | fail) only [go_sem, ↓reduceIte, rem64K, quo64K, remI64K, quoI64K, mulK64, mk_empty, sl_3n, app_nil_map, mk_i64, max_nat, h7]
      refine back_ovr (l.length - 1) (by omega) ⟨1, rfl, by omega, hadd1 hrok, hadd2 (fun j hj => by omega), ?_⟩
      simp +decide (disch := first | omega | rfl | (simp +decide only [go_sem, ↓reduceIte] <;> rfl) | fail) only [go_sem, ↓reduceIte, rem64K, quo64K, remI64K, quoI64K, mulK64, mk_empty, sl_3n, app_nil_map, mk_i64, max_nat]
  · obtain rfl : i = l.length := by omega
    have hf : prOk l = true := hiff.2 ⟨fun j hj => h1 j hj hj, fun j hj => h2 j hj hj⟩
    simp +decide (disch := first | omega | rfl | (simp +decide only [go_sem, ↓reduceIte] <;> rfl) | fail) only [go_sem, ↓reduceIte, rem64K, quo64K, remI64K, quoI64K, mulK64, mk_empty, sl_3n, app_nil_map, mk_i64, max_nat]
    exact retV_eq (by rw [hf]) rfl
def smT (v : Nat) (e : Int) (t : RTm) : Bool := decide (t.m.length ≤ v) && (decide (t.a.length ≤ 4) && (decide (t.d.length ≤ 4) && t.m.all fun x => decide (x ≤ e)))
def small (n v : Nat) (e : Int) (l : List RTm) : Bool := decide (l.length ≤ n) && (l.all (smT v e) && prOk l)
theorem r6_Small_spec {l : List RTm} {k n v : Nat} {e : Int} (hb : ∀ t ∈ l, RB k t) (hk1 : 1 ≤ k) (hk : k < 2 ^ 36) (hll : l.length < 2 ^ 40) :
    FnSpec Tryz.prog 11 [PV.rpoly l, .int .i64 n, .int .i64 v, .int .i64 e] (· = .bool (small n v e l)) := by
  have bad : l.length ≤ n → ∀ i (h : i < l.length), smT v e l[i] = false → small n v e l = false := fun _ i hi h => by
    have : l.all (smT v e) = false := by
      rw [List.all_eq_false]; exact ⟨_, List.getElem_mem hi, by simp [h]⟩
    simp [small, this]
  refine fn_of_vc mixed Tryz.func11 rfl c11_ok (by simp [c11]) fun C hP => ?_; simp only [c11]
  simp +decide (disch := first | omega | rfl | (simp +decide only [go_sem, ↓reduceIte] <;> rfl) | fail) only [go_sem, ↓reduceIte, rem64K, quo64K, remI64K, quoI64K, mulK64, mk_empty, sl_3n, app_nil_map, mk_i64, max_nat]
  refine cond_split (fun hn => ?_) (fun hn => ?_)
  · simp +decide (disch := first | omega | rfl | (simp +decide only [go_sem, ↓reduceIte] <;> rfl) | fail) only [go_sem, ↓reduceIte, rem64K, quo64K, remI64K, quoI64K, mulK64, mk_empty, sl_3n, app_nil_map, mk_i64, max_nat]
    exact retV_eq (by simp [small, show ¬ l.length ≤ n by omega]) rfl
  have hn' : l.length ≤ n := by omega
  simp +decide (disch := first | omega | rfl | (simp +decide only [go_sem, ↓reduceIte] <;> rfl) | fail) only [go_sem, ↓reduceIte, rem64K, quo64K, remI64K, quoI64K, mulK64, mk_empty, sl_3n, app_nil_map, mk_i64, max_nat]
  refine vc_loopF (by repeat (first | exact okSk_ret | exact okSk_retM | exact okSk_retO | apply okSk_back | apply okSk_out | apply okSk_eb | apply okSk_c | apply okSk_o | apply okSk_again | apply okSk_backW)) [(8, 10), (15, 69)] [] (fun m J hp => ∃ i, m = l.length - i ∧ i ≤ l.length ∧ (∀ j (h : j < l.length), j < i → smT v e l[j] = true) ∧ J 9 = .int .i64 (i : Nat)) l.length ?_ ?_
  · refine ⟨0, rfl, by omega, by omega, ?_⟩
    simp +decide (disch := first | omega | rfl | (simp +decide only [go_sem, ↓reduceIte] <;> rfl) | fail) only [go_sem, ↓reduceIte, rem64K, quo64K, remI64K, quoI64K, mulK64, mk_empty, sl_3n, app_nil_map, mk_i64, max_nat]
    rfl
  rintro _ J h ⟨i, rfl, hi, h1, h9⟩
  simp +decide (disch := first | omega | rfl | (simp +decide only [go_sem, ↓reduceIte, h9] <;> rfl) | fail) only [go_sem, ↓reduceIte, rem64K, quo64K, remI64K, quoI64K, mulK64, mk_empty, sl_3n, app_nil_map, mk_i64, max_nat, h9]
  refine cond_split (fun hg => ?_) (fun hg => ?_)
  · have hi' : i < l.length := by omega
    have hbt := hb _ (List.getElem_mem hi')
    have hbad := bad hn' i hi'
    have hml := hbt.l
    have hadd : smT v e l[i] = true → ∀ j (h : j < l.length), j < i + 1 → smT v e l[j] = true := fun h j hj hji => by
      by_cases e : j = i
      · subst e; exact h
      · exact h1 j hj (by omega)
    generalize hx : l[i] = x at *
    simp +decide (disch := first | omega | rfl | (simp +decide only [go_sem, ↓reduceIte, h9, hx] <;> rfl) | fail) only [go_sem, ↓reduceIte, rem64K, quo64K, remI64K, quoI64K, mulK64, mk_empty, sl_3n, app_nil_map, mk_i64, max_nat, h9, hx]
    refine guard_splitF (fun h2 => ?_) (fun h2 => ?_)
    · simp +decide (disch := first | omega | rfl | (simp +decide only [go_sem, ↓reduceIte, h9, hx] <;> rfl) | fail) only [go_sem, ↓reduceIte, rem64K, quo64K, remI64K, quoI64K, mulK64, mk_empty, sl_3n, app_nil_map, mk_i64, max_nat, h9, hx]
      exact retV_eq (by rw [hbad (by simp [smT, show ¬ x.m.length ≤ v by omega])]) rfl
    simp +decide (disch := first | omega | rfl | (simp +decide only [go_sem, ↓reduceIte, h9, hx] <;> rfl) | fail) only [go_sem, ↓reduceIte, rem64K, quo64K, remI64K, quoI64K, mulK64, mk_empty, sl_3n, app_nil_map, mk_i64, max_nat, h9, hx]
    refine guard_splitF (fun h3 => ?_) (fun h3 => ?_)
    · simp +decide (disch := first | omega | rfl | (simp +decide only [go_sem, ↓reduceIte, h9, hx] <;> rfl) | fail) only [go_sem, ↓reduceIte, rem64K, quo64K, remI64K, quoI64K, mulK64, mk_empty, sl_3n, app_nil_map, mk_i64, max_nat, h9, hx]
      exact retV_eq (by rw [hbad (by simp [smT, show ¬ x.a.length ≤ 4 by omega])]) rfl
    simp +decide (disch := first | omega | rfl | (simp +decide only [go_sem, ↓reduceIte, h9, hx] <;> rfl) | fail) only [go_sem, ↓reduceIte, rem64K, quo64K, remI64K, quoI64K, mulK64, mk_empty, sl_3n, app_nil_map, mk_i64, max_nat, h9, hx]
    refine cond_split (fun h4 => ?_) (fun h4 => ?_)
    · simp +decide (disch := first | omega | rfl | (simp +decide only [go_sem, ↓reduceIte, h9, hx] <;> rfl) | fail) only [go_sem, ↓reduceIte, rem64K, quo64K, remI64K, quoI64K, mulK64, mk_empty, sl_3n, app_nil_map, mk_i64, max_nat, h9, hx]
      exact retV_eq (by rw [hbad (by simp [smT, show ¬ x.d.length ≤ 4 by omega])]) rfl
    simp +decide (disch := first | omega | rfl | (simp +decide only [go_sem, ↓reduceIte, h9, hx] <;> rfl) | fail) only [go_sem, ↓reduceIte, rem64K, quo64K, remI64K, quoI64K, mulK64, mk_empty, sl_3n, app_nil_map, mk_i64, max_nat, h9, hx]
    refine vc_loopF (by repeat (first | exact okSk_ret | exact okSk_retM | exact okSk_retO | apply okSk_back | apply okSk_out | apply okSk_eb | apply okSk_c | apply okSk_o | apply okSk_again | apply okSk_backW)) [(8, 8), (10, 10), (50, 69)] [] (fun m J hp => ∃ j, m = x.m.length - j ∧ j ≤ x.m.length ∧ (∀ y ∈ x.m.take j, y ≤ e) ∧ J 10 = .int .i64 (j : Nat)) x.m.length ?_ ?_
    · refine ⟨0, rfl, by omega, by simp, ?_⟩
      simp +decide (disch := first | omega | rfl | (simp +decide only [go_sem, ↓reduceIte] <;> rfl) | fail) only [go_sem, ↓reduceIte, rem64K, quo64K, remI64K, quoI64K, mulK64, mk_empty, sl_3n, app_nil_map, mk_i64, max_nat]
      rfl
    rintro _ J2 h2' ⟨j, rfl, hj, h5, h10⟩
    simp +decide (disch := first | omega | rfl | (simp +decide only [go_sem, ↓reduceIte, h9, h10, hx] <;> rfl) | fail) only [go_sem, ↓reduceIte, rem64K, quo64K, remI64K, quoI64K, mulK64, mk_empty, sl_3n, app_nil_map, mk_i64, max_nat, h9, h10, hx]
    refine cond_split (fun hg2 => ?_) (fun hg2 => ?_)
    · have hj' : j < x.m.length := by omega
      have hmem := List.getElem_mem hj'
      have htk : x.m.take (j + 1) = x.m.take j ++ [x.m[j]] := List.take_succ_eq_append_getElem hj'
      generalize hy : x.m[j] = y at *
      simp +decide (disch := first | omega | rfl | (simp +decide only [go_sem, ↓reduceIte, h9, h10, hx, hy] <;> rfl) | fail) only [go_sem, ↓reduceIte, rem64K, quo64K, remI64K, quoI64K, mulK64, mk_empty, sl_3n, app_nil_map, mk_i64, max_nat, h9, h10, hx, hy]
      refine cond_split (fun h6 => ?_) (fun h6 => ?_)
      · simp +decide (disch := first | omega | rfl | (simp +decide only [go_sem, ↓reduceIte, h9, h10, hx] <;> rfl) | fail) only [go_sem, ↓reduceIte, rem64K, quo64K, remI64K, quoI64K, mulK64, mk_empty, sl_3n, app_nil_map, mk_i64, max_nat, h9, h10, hx]
        refine retV_eq ?_ rfl
        rw [hbad]
        have : (x.m.all fun x => decide (x ≤ e)) = false := by
          rw [List.all_eq_false]; exact ⟨y, hmem, by simp; omega⟩
        simp [smT, this]
      · simp +decide (disch := first | omega | rfl | (simp +decide only [go_sem, ↓reduceIte, h9, h10, hx] <;> rfl) | fail) only [go_sem, ↓reduceIte, rem64K, quo64K, remI64K, quoI64K, mulK64, mk_empty, sl_3n, app_nil_map, mk_i64, max_nat, h9, h10, hx]
        refine back_ovr (x.m.length - (j + 1)) (by omega) ⟨j + 1, rfl, by omega, ?_, ?_⟩
        · rw [htk]
          intro z hz
          rcases List.mem_append.1 hz with hz | hz
          · exact h5 z hz
          · simp at hz; omega
        · simp +decide (disch := first | omega | rfl | (simp +decide only [go_sem, ↓reduceIte] <;> rfl) | fail) only [go_sem, ↓reduceIte, rem64K, quo64K, remI64K, quoI64K, mulK64, mk_empty, sl_3n, app_nil_map, mk_i64, max_nat]
    · rw [List.take_of_length_le (by omega)] at h5
      have hsm : smT v e x = true := by
        simp only [smT, Bool.and_eq_true, decide_eq_true_eq, List.all_eq_true]
        exact ⟨by omega, by omega, by omega, h5⟩
      simp +decide (disch := first | omega | rfl | (simp +decide only [go_sem, ↓reduceIte, h9, h10] <;> rfl) | fail) only [go_sem, ↓reduceIte, rem64K, quo64K, remI64K, quoI64K, mulK64, mk_empty, sl_3n, app_nil_map, mk_i64, max_nat, h9, h10]
      simp (disch := decide) only [killFs_nil, ovr_sub]
      refine back_ovr (l.length - (i + 1)) (by omega) ⟨i + 1, rfl, by omega, hadd hsm, ?_⟩
      simp +decide (disch := first | omega | rfl | (simp +decide only [go_sem, ↓reduceIte] <;> rfl) | fail) only [go_sem, ↓reduceIte, rem64K, quo64K, remI64K, quoI64K, mulK64, mk_empty, sl_3n, app_nil_map, mk_i64, max_nat]
  · obtain rfl : i = l.length := by omega
    have hall : l.all (smT v e) = true := by
      rw [List.all_eq_true]
      intro t ht
      obtain ⟨j, hj, rfl⟩ := List.getElem_of_mem ht
      exact h1 j hj hj
    simp +decide (disch := first | omega | rfl | (simp +decide only [go_sem, ↓reduceIte] <;> rfl) | fail) only [go_sem, ↓reduceIte, rem64K, quo64K, remI64K, quoI64K, mulK64, mk_empty, sl_3n, app_nil_map, mk_i64, max_nat]
    refine call_eq0 hP (r6_Right_raw hb hk1 hk hll) rfl rfl rfl ?_
    simp +decide (disch := first | omega | rfl | (simp +decide only [go_sem, ↓reduceIte] <;> rfl) | fail) only [go_sem, ↓reduceIte, rem64K, quo64K, remI64K, quoI64K, mulK64, mk_empty, sl_3n, app_nil_map, mk_i64, max_nat]
    exact retV_eq (by simp [small, hn', hall]) rfl
end Go.Proofs.YtfhmockdgbkpnaaGreat
namespace Go.Proofs.YtfhmockdgbkpnaaGreat
open Go Go.FW
set_option maxRecDepth 100000
def c13 : SFn := ⟨40, [.t 0], .seq (.rg (.o none (.mv 0 (.c (.bool false))) .nil)) <| .seq (.rg (.o none (.call (some 4) false (.c (.fn 54 [] [])) [(.c (.int .i64 0))]) <|
  .o none (.call (some 5) false (.c (.fn 54 [] [])) [(.c (.int .i64 1))]) <|
  .o none (.mv 1 (.t 4)) <|
  .o none (.mv 2 (.t 5)) .nil)) <| .seq (.rg (.o none (.mv 6 (.t 1)) <|
  .o none (.mv 7 (.t 2)) <|
  .o none (.call (some 8) false (.c (.fn 35 [] [])) [(.t 6), (.t 7)]) <|
  .o none (.mv 9 (.t 1)) <|
  .o none (.mv 10 (.t 2)) <|
  .o none (.call (some 11) false (.c (.fn 37 [] [])) [(.t 9), (.t 10)]) <|
  .o none (.call (some 12) false (.c (.fn 39 [] [])) [(.t 8), (.t 11)]) <|
  .o none (.mv 3 (.t 12)) .nil)) <| .seq (.rg (.o none (.mv 13 (.t 3)) <|
  .o none (.len 14 (.t 13)) <|
  .o none (.bin 15 .eql false (.t 14) (.c (.int .i64 2))) <|
  .o none (.mv 16 (.t 15)) <|
  .o (some (16, true)) (.mv 17 (.t 3)) <|
  .o (some (16, true)) (.idx 18 4 (.t 17) (.c (.int .i64 0))) <|
  .o (some (16, true)) (.fld 19 3 (.t 18)) <|
  .o (some (16, true)) (.ld 20 1 false (.t 19)) <|
  .o (some (16, true)) (.bs 21 1 3 [(.c (.int .i64 0)), (.c (.int .i64 2))]) <|
  .o (some (16, true)) (.call (some 22) true (.c (.fn 27 [] [])) [(.t 20), (.t 21)]) <|
  .o none (.pick 23 (.t 16) (.t 22) (.c (.bool false))) <|
  .o none (.mv 24 (.t 23)) <|
  .o (some (24, true)) (.mv 25 (.t 3)) <|
  .o (some (24, true)) (.idx 26 4 (.t 25) (.c (.int .i64 0))) <|
  .o (some (24, true)) (.fld 27 0 (.t 26)) <|
  .o (some (24, true)) (.ld 28 3 true (.t 27)) <|
  .o (some (24, true)) (.call (some 29) true (.c (.fn 56 [] [])) [(.c (.int .i64 (-1)))]) <|
  .o (some (24, true)) (.call (some 30) true (.c (.fn 55 [] [])) [(.t 28), (.t 29)]) <|
  .o none (.pick 31 (.t 24) (.t 30) (.c (.bool false))) <|
  .o none (.mv 32 (.t 31)) <|
  .o (some (32, true)) (.mv 33 (.t 3)) <|
  .o (some (32, true)) (.idx 34 4 (.t 33) (.c (.int .i64 1))) <|
  .o (some (32, true)) (.fld 35 3 (.t 34)) <|
  .o (some (32, true)) (.ld 36 1 false (.t 35)) <|
  .o (some (32, true)) (.bs 37 1 3 [(.c (.int .i64 2))]) <|
  .o (some (32, true)) (.call (some 38) true (.c (.fn 27 [] [])) [(.t 36), (.t 37)]) <|
  .o none (.pick 39 (.t 32) (.t 38) (.c (.bool false))) <|
  .o none (.mv 0 (.t 39)) .nil)) <| .ret⟩
theorem c13_ok : compileF Tryz.prog Tryz.f13 = some c13 := by kernel_rfl
def c3 : SFn := ⟨58, [.t 4], .seq (.rg (.o none (.mv 4 (.c (.bool false))) .nil)) <| .seq (.seq (.rg (.o none (.mv 9 (.t 0)) <|
  .o none (.call (some 10) false (.c (.fn 11 [] [])) [(.t 9), (.c (.int .i64 3)), (.c (.int .i64 3)), (.c (.int .i64 8))]) <|
  .o none (.un 11 .not (.t 10)) <|
  .o none (.mv 12 (.t 11)) <|
  .o (some (12, false)) (.mv 13 (.t 1)) <|
  .o (some (12, false)) (.bin 14 .gtr false (.t 13) (.c (.int .i64 6))) <|
  .o (some (12, false)) (.mv 15 (.t 14)) <|
  .o (some (15, true)) (.mv 16 (.t 1)) <|
  .o (some (15, true)) (.bin 17 .leq false (.t 16) (.c (.int .i64 4000))) <|
  .o (some (12, false)) (.pick 18 (.t 15) (.t 17) (.c (.bool false))) <|
  .o (some (12, false)) (.mv 19 (.t 18)) <|
  .o (some (19, true)) (.mv 20 (.t 1)) <|
  .o (some (19, true)) (.bin 21 .gtr false (.t 20) (.c (.int .i64 400))) <|
  .o (some (19, true)) (.mv 22 (.t 21)) <|
  .o (some (22, false)) (.mv 23 (.t 0)) <|
  .o (some (22, false)) (.len 24 (.t 23)) <|
  .o (some (22, false)) (.bin 25 .gtr false (.t 24) (.c (.int .i64 1))) <|
  .o (some (19, true)) (.pick 26 (.t 22) (.c (.bool true)) (.t 25)) <|
  .o (some (19, true)) (.mv 27 (.t 26)) <|
  .o (some (27, false)) (.mv 28 (.t 0)) <|
  .o (some (27, false)) (.call (some 29) false (.c (.fn 12 [] [])) [(.t 28)]) <|
  .o (some (27, false)) (.bin 30 .gtr false (.t 29) (.c (.int .i64 0))) <|
  .o (some (19, true)) (.pick 31 (.t 27) (.c (.bool true)) (.t 30)) <|
  .o (some (12, false)) (.pick 32 (.t 19) (.t 31) (.c (.bool false))) <|
  .o none (.pick 33 (.t 12) (.c (.bool true)) (.t 32)) .nil)) <| .cond (.t 33) (.seq (.rg (.o none (.call (some 34) false (.c (.fn 13 [] [])) []) <|
  .o none (.mv 4 (.t 34)) .nil)) <| .ret) (.skip)) <| .seq (.rg (.o none (.mv 36 (.t 0)) <|
  .o none (.mv 37 (.t 1)) <|
  .o none (.call (some 38) false (.c (.fn 14 [] [])) [(.t 36), (.t 37)]) <|
  .o none (.mv 35 (.t 38)) <|
  .o none (.ext 39 (.t 35) 0) <|
  .o none (.ext 40 (.t 35) 1) <|
  .o none (.mv 5 (.t 39)) <|
  .o none (.mv 6 (.t 40)) .nil)) <| .seq (.rg (.o none (.mv 42 (.t 0)) <|
  .o none (.mv 43 (.t 1)) <|
  .o none (.call (some 44) false (.c (.fn 15 [] [])) [(.t 42), (.t 43)]) <|
  .o none (.mv 41 (.t 44)) <|
  .o none (.ext 45 (.t 41) 0) <|
  .o none (.ext 46 (.t 41) 1) <|
  .o none (.mv 7 (.t 45)) <|
  .o none (.mv 8 (.t 46)) .nil)) <| .seq (.rg (.o none (.mv 47 (.t 5)) <|
  .o none (.mv 48 (.t 7)) <|
  .o none (.call (some 49) false (.c (.fn 16 [] [])) [(.t 47), (.t 48)]) <|
  .o none (.mv 50 (.t 49)) <|
  .o (some (50, true)) (.mv 51 (.t 6)) <|
  .o (some (50, true)) (.mv 52 (.t 8)) <|
  .o (some (50, true)) (.bin 53 .eql false (.t 51) (.t 52)) <|
  .o none (.pick 54 (.t 50) (.t 53) (.c (.bool false))) <|
  .o none (.mv 55 (.t 54)) <|
  .o (some (55, true)) (.call (some 56) false (.c (.fn 13 [] [])) []) <|
  .o none (.pick 57 (.t 55) (.t 56) (.c (.bool false))) <|
  .o none (.mv 4 (.t 57)) .nil)) <| .ret⟩
def c5 : SFn := ⟨79, [.t 4], .seq (.rg (.o none (.mv 4 (.c (.bool false))) .nil)) <| .seq (.seq (.rg (.o none (.mv 12 (.t 0)) <|
  .o none (.call (some 13) false (.c (.fn 11 [] [])) [(.t 12), (.c (.int .i64 8)), (.c (.int .i64 64)), (.c (.int .i64 1048576))]) <|
  .o none (.un 14 .not (.t 13)) .nil)) <| .cond (.t 14) (.seq (.rg (.o none (.call (some 15) false (.c (.fn 13 [] [])) []) <|
  .o none (.mv 4 (.t 15)) .nil)) <| .ret) (.skip)) <| .seq (.rg (.o none (.mv 16 (.t 0)) <|
  .o none (.call (some 17) false (.c (.fn 22 [] [])) [(.t 16)]) <|
  .o none (.mv 18 (.t 0)) <|
  .o none (.call (some 19) false (.c (.fn 23 [] [])) [(.t 18)]) <|
  .o none (.mv 5 (.t 17)) <|
  .o none (.mv 6 (.t 19)) .nil)) <| .seq (.seq (.rg (.o none (.mv 20 (.t 0)) <|
  .o none (.call (some 21) false (.c (.fn 24 [] [])) [(.t 20)]) <|
  .o none (.mv 22 (.t 0)) <|
  .o none (.call (some 23) false (.c (.fn 12 [] [])) [(.t 22)]) <|
  .o none (.bin 24 .neq false (.t 21) (.t 23)) <|
  .o none (.mv 25 (.t 24)) <|
  .o (some (25, false)) (.mv 26 (.t 5)) <|
  .o (some (25, false)) (.len 27 (.t 26)) <|
  .o (some (25, false)) (.mv 28 (.t 6)) <|
  .o (some (25, false)) (.len 29 (.t 28)) <|
  .o (some (25, false)) (.bin 30 .neq false (.t 27) (.t 29)) <|
  .o none (.pick 31 (.t 25) (.c (.bool true)) (.t 30)) .nil)) <| .cond (.t 31) (.seq (.rg (.o none (.mv 4 (.c (.bool false))) .nil)) <| .ret) (.skip)) <| .seq (.seq (.rg (.o none (.mv 7 (.c (.int .i64 0))) .nil)) <| .block 0 (.loop (.seq (.seq (.rg (.o none (.mv 32 (.t 7)) <|
  .o none (.mv 33 (.t 5)) <|
  .o none (.len 34 (.t 33)) <|
  .o none (.bin 35 .lss false (.t 32) (.t 34)) .nil)) <| .cond (.t 35) (.skip) (.exit 0)) <| .seq (.block 1 (.seq (.rg (.o none (.mv 38 (.t 5)) <|
  .o none (.mv 39 (.t 7)) <|
  .o none (.idx 40 1 (.t 38) (.t 39)) <|
  .o none (.ld 41 1 false (.t 40)) <|
  .o none (.mv 42 (.t 6)) <|
  .o none (.mv 43 (.t 7)) <|
  .o none (.idx 44 1 (.t 42) (.t 43)) <|
  .o none (.ld 45 1 false (.t 44)) <|
  .o none (.bin 46 .neq false (.t 41) (.t 45)) .nil)) <| .cond (.t 46) (.seq (.rg (.o none (.mv 4 (.c (.bool false))) .nil)) <| .ret) (.skip))) <| .rg (.o none (.mv 36 (.t 7)) <|
  .o none (.bin 37 .add false (.t 36) (.c (.int .i64 1))) <|
  .o none (.mv 7 (.t 37)) .nil)))) <| .seq (.rg (.o none (.mv 48 (.t 0)) <|
  .o none (.mv 49 (.t 1)) <|
  .o none (.call (some 50) false (.c (.fn 25 [] [])) [(.t 48), (.t 49)]) <|
  .o none (.mv 47 (.t 50)) <|
  .o none (.ext 51 (.t 47) 0) <|
  .o none (.ext 52 (.t 47) 1) <|
  .o none (.alloc 8 4 49 (.agg [(.bool false), .nilS, .nilS, .nilS])) <|
  .o none (.st 4 (.t 8) (.t 51)) <|
  .o none (.mv 9 (.t 52)) .nil)) <| .seq (.rg (.o none (.mv 54 (.t 0)) <|
  .o none (.mv 55 (.t 1)) <|
  .o none (.call (some 56) false (.c (.fn 26 [] [])) [(.t 54), (.t 55)]) <|
  .o none (.mv 53 (.t 56)) <|
  .o none (.ext 57 (.t 53) 0) <|
  .o none (.ext 58 (.t 53) 1) <|
  .o none (.alloc 10 4 49 (.agg [(.bool false), .nilS, .nilS, .nilS])) <|
  .o none (.st 4 (.t 10) (.t 57)) <|
  .o none (.mv 11 (.t 58)) .nil)) <| .seq (.rg (.o none (.mv 59 (.t 9)) <|
  .o none (.mv 60 (.t 11)) <|
  .o none (.bin 61 .eql true (.t 59) (.t 60)) <|
  .o none (.mv 62 (.t 61)) <|
  .o (some (62, true)) (.fld 63 3 (.t 8)) <|
  .o (some (62, true)) (.ld 64 1 false (.t 63)) <|
  .o (some (62, true)) (.fld 65 3 (.t 10)) <|
  .o (some (62, true)) (.ld 66 1 false (.t 65)) <|
  .o (some (62, true)) (.call (some 67) false (.c (.fn 27 [] [])) [(.t 64), (.t 66)]) <|
  .o none (.pick 68 (.t 62) (.t 67) (.c (.bool false))) <|
  .o none (.mv 69 (.t 68)) <|
  .o (some (69, true)) (.fld 70 0 (.t 8)) <|
  .o (some (69, true)) (.ld 71 3 true (.t 70)) <|
  .o (some (69, true)) (.fld 72 0 (.t 10)) <|
  .o (some (69, true)) (.ld 73 3 true (.t 72)) <|
  .o (some (69, true)) (.call (some 74) false (.c (.fn 21 [] [])) [(.t 71), (.t 73)]) <|
  .o none (.pick 75 (.t 69) (.t 74) (.c (.bool false))) <|
  .o none (.mv 76 (.t 75)) <|
  .o (some (76, true)) (.call (some 77) false (.c (.fn 13 [] [])) []) <|
  .o none (.pick 78 (.t 76) (.t 77) (.c (.bool false))) <|
  .o none (.mv 4 (.t 78)) .nil)) <| .ret⟩
def c4 : SFn := ⟨42, [.t 4], .seq (.rg (.o none (.mv 4 (.c (.bool false))) .nil)) <| .seq (.seq (.rg (.o none (.mv 9 (.t 0)) <|
  .o none (.bs 10 1 23 [(.t 9)]) <|
  .o none (.call (some 11) false (.c (.fn 17 [] [])) [(.t 10)]) <|
  .o none (.un 12 .not (.t 11)) <|
  .o none (.mv 13 (.t 12)) <|
  .o (some (13, false)) (.mv 14 (.t 1)) <|
  .o (some (13, false)) (.call (some 15) false (.c (.fn 18 [] [])) [(.t 14)]) <|
  .o (some (13, false)) (.un 16 .not (.t 15)) <|
  .o none (.pick 17 (.t 13) (.c (.bool true)) (.t 16)) .nil)) <| .cond (.t 17) (.seq (.rg (.o none (.call (some 18) false (.c (.fn 13 [] [])) []) <|
  .o none (.mv 4 (.t 18)) .nil)) <| .ret) (.skip)) <| .seq (.rg (.o none (.mv 20 (.t 0)) <|
  .o none (.mv 21 (.t 1)) <|
  .o none (.call (some 22) false (.c (.fn 19 [] [])) [(.t 20), (.t 21)]) <|
  .o none (.mv 19 (.t 22)) <|
  .o none (.ext 23 (.t 19) 0) <|
  .o none (.ext 24 (.t 19) 1) <|
  .o none (.alloc 5 3 40 (.agg [(.bool false), .nilS, .nilS])) <|
  .o none (.st 3 (.t 5) (.t 23)) <|
  .o none (.mv 6 (.t 24)) .nil)) <| .seq (.rg (.o none (.mv 26 (.t 0)) <|
  .o none (.mv 27 (.t 1)) <|
  .o none (.call (some 28) false (.c (.fn 20 [] [])) [(.t 26), (.t 27)]) <|
  .o none (.mv 25 (.t 28)) <|
  .o none (.ext 29 (.t 25) 0) <|
  .o none (.ext 30 (.t 25) 1) <|
  .o none (.alloc 7 3 40 (.agg [(.bool false), .nilS, .nilS])) <|
  .o none (.st 3 (.t 7) (.t 29)) <|
  .o none (.mv 8 (.t 30)) .nil)) <| .seq (.rg (.o none (.ld 31 3 true (.t 5)) <|
  .o none (.ld 32 3 true (.t 7)) <|
  .o none (.call (some 33) false (.c (.fn 21 [] [])) [(.t 31), (.t 32)]) <|
  .o none (.mv 34 (.t 33)) <|
  .o (some (34, true)) (.mv 35 (.t 6)) <|
  .o (some (34, true)) (.mv 36 (.t 8)) <|
  .o (some (34, true)) (.bin 37 .eql false (.t 35) (.t 36)) <|
  .o none (.pick 38 (.t 34) (.t 37) (.c (.bool false))) <|
  .o none (.mv 39 (.t 38)) <|
  .o (some (39, true)) (.call (some 40) false (.c (.fn 13 [] [])) []) <|
  .o none (.pick 41 (.t 39) (.t 40) (.c (.bool false))) <|
  .o none (.mv 4 (.t 41)) .nil)) <| .ret⟩
def c9 : SFn := ⟨45, [.t 6], .seq (.rg (.o none (.mv 6 (.c (.bool false))) .nil)) <| .seq (.seq (.rg (.o none (.mv 11 (.t 0)) <|
  .o none (.call (some 12) false (.c (.fn 11 [] [])) [(.t 11), (.c (.int .i64 6)), (.c (.int .i64 4)), (.c (.int .i64 4))]) <|
  .o none (.un 13 .not (.t 12)) <|
  .o none (.mv 14 (.t 13)) <|
  .o (some (14, false)) (.mv 15 (.t 2)) <|
  .o (some (14, false)) (.call (some 16) false (.c (.fn 11 [] [])) [(.t 15), (.c (.int .i64 3)), (.c (.int .i64 4)), (.c (.int .i64 4))]) <|
  .o (some (14, false)) (.un 17 .not (.t 16)) <|
  .o none (.pick 18 (.t 14) (.c (.bool true)) (.t 17)) .nil)) <| .cond (.t 18) (.seq (.rg (.o none (.call (some 19) false (.c (.fn 13 [] [])) []) <|
  .o none (.mv 6 (.t 19)) .nil)) <| .ret) (.skip)) <| .seq (.rg (.o none (.mv 21 (.t 0)) <|
  .o none (.mv 22 (.t 1)) <|
  .o none (.mv 23 (.t 2)) <|
  .o none (.call (some 24) false (.c (.fn 47 [] [])) [(.t 21), (.t 22), (.t 23)]) <|
  .o none (.mv 20 (.t 24)) <|
  .o none (.ext 25 (.t 20) 0) <|
  .o none (.ext 26 (.t 20) 1) <|
  .o none (.mv 7 (.t 25)) <|
  .o none (.mv 8 (.t 26)) .nil)) <| .seq (.rg (.o none (.mv 28 (.t 0)) <|
  .o none (.mv 29 (.t 1)) <|
  .o none (.mv 30 (.t 2)) <|
  .o none (.call (some 31) false (.c (.fn 48 [] [])) [(.t 28), (.t 29), (.t 30)]) <|
  .o none (.mv 27 (.t 31)) <|
  .o none (.ext 32 (.t 27) 0) <|
  .o none (.ext 33 (.t 27) 1) <|
  .o none (.mv 9 (.t 32)) <|
  .o none (.mv 10 (.t 33)) .nil)) <| .seq (.rg (.o none (.mv 34 (.t 7)) <|
  .o none (.mv 35 (.t 9)) <|
  .o none (.call (some 36) false (.c (.fn 16 [] [])) [(.t 34), (.t 35)]) <|
  .o none (.mv 37 (.t 36)) <|
  .o (some (37, true)) (.mv 38 (.t 8)) <|
  .o (some (37, true)) (.mv 39 (.t 10)) <|
  .o (some (37, true)) (.bin 40 .eql false (.t 38) (.t 39)) <|
  .o none (.pick 41 (.t 37) (.t 40) (.c (.bool false))) <|
  .o none (.mv 42 (.t 41)) <|
  .o (some (42, true)) (.call (some 43) false (.c (.fn 13 [] [])) []) <|
  .o none (.pick 44 (.t 42) (.t 43) (.c (.bool false))) <|
  .o none (.mv 6 (.t 44)) .nil)) <| .ret⟩
theorem c9_ok : compileF Tryz.prog Tryz.f9 = some c9 := by kernel_rfl
end Go.Proofs.YtfhmockdgbkpnaaGreat
namespace Go.Proofs.YtfhmockdgbkpnaaGreat
open Go Go.FW
set_option linter.unusedSimpArgs false
set_option linter.unusedVariables false
set_option maxRecDepth 100000
theorem alive_poly : pmul (padd (pvar 0) (pvar 1)) (psub (pvar 0) (pvar 1)) = [(((-1 : Int) : Rat), [0, 2]), (1, [2])] := by
  have hx : Nrm (pvar 0) := Nrm.one (t := (1, [1])) (by decide) (by decide)
  have hy : Nrm (pvar 1) := Nrm.one (t := (1, [0, 1])) (by decide) (by decide)
  refine pev_inj (pmul_nrm (padd_sorted hx.s hy.s) (psub_nrm hx hy).s) ⟨by simp [FW.Can], by simp [NZ]; decide, by simp [PSorted]; decide⟩ fun φ => ?_
  rw [pmul_pev, pev_padd hx.c hy.c]
  have ex : ∀ ψ : List Int → Rat, pev ψ (pvar 0) = ψ [1] := fun ψ => by show (1 : Rat) * ψ [1] + 0 = ψ [1]; grind
  have ey : ∀ ψ : List Int → Rat, pev ψ (pvar 1) = ψ [0, 1] := fun ψ => by show (1 : Rat) * ψ [0, 1] + 0 = ψ [0, 1]; grind
  rw [ex, ey, psub_pev _ hx.c hy, psub_pev _ hx.c hy, ex, ey, ex, ey]
  have e1 : mulM [1] [1] = [2] := rfl
  have e2 : mulM [1] [0, 1] = [1, 1] := rfl
  have e3 : mulM [0, 1] [1] = [1, 1] := rfl
  have e4 : mulM [0, 1] [0, 1] = [0, 2] := rfl
  rw [e1, e2, e3, e4, pev_cons, pev_cons, pev_nil]
  have e5 : ((-1 : Int) : Rat) = -1 := rfl
  simp only [e5]
  grind
theorem pvar_PB (v : Int) : PB 4 1 (pvar v) := by
  unfold pvar
  split
  · exact PB.nil _ _
  · rename_i h
    intro t ht
    simp only [List.mem_singleton] at ht
    subst ht
    refine ⟨by have := rs_1; show rs 1 + 1 ≤ 4; omega, ⟨?_, ?_, ?_⟩, ?_⟩
    · simp [varM]; omega
    · intro x hx; simp [varM] at hx; omega
    · intro x hx; simp [varM] at hx; omega
    · simp [varM]
theorem pvar_len (v : Int) : (pvar v).length ≤ 1 := by unfold pvar; split <;> simp
theorem r3_Equal_q {a b : Rat} {k : Nat} (ha : rs a ≤ k) (hb : rs b ≤ k) (hk : k < 2 ^ 34) : FnSpec Tryz.prog 55 [PV.rat a, PV.rat b] (· = .bool (decide (a = b))) := by
  have := r3_Equal_spec (raw_of ha) (raw_of hb) hk
  rwa [rv_of, rv_of] at this
theorem alive_spec : FnSpec Tryz.prog 13 [] (· = .bool true) := by
  have b0 := pvar_PB 0
  have b1 := pvar_PB 1
  have l0 := pvar_len 0
  have l1 := pvar_len 1
  have ls : (psub (pvar 0) (pvar 1)).length ≤ 2 := Nat.le_trans (padd_length _ _) (by have := pscale_length (pvar 1) (-1); have e : pneg (pvar 1) = pscale (pvar 1) (-1) := rfl; rw [e]; omega)
  have la : (padd (pvar 0) (pvar 1)).length ≤ 2 := Nat.le_trans (padd_length _ _) (by omega)
  have bs : PB 20 1 (psub (pvar 0) (pvar 1)) := (padd_PB _ _ b0 (pneg_PB b1)).mono (by omega) (by omega)
  have ba : PB 20 1 (padd (pvar 0) (pvar 1)) := (padd_PB _ _ b0 b1).mono (by omega) (by omega)
  have lm : (padd (pvar 0) (pvar 1)).length * (psub (pvar 0) (pvar 1)).length ≤ 2 * 2 := Nat.mul_le_mul la ls
  have ep := alive_poly
  generalize hA : padd (pvar 0) (pvar 1) = A at *
  generalize hB : psub (pvar 0) (pvar 1) = B at *
  have hm1 := rs_m1
  have em1 : ((-1 : Int) : Rat) = -1 := rfl
  refine fn_of_vc mixed Tryz.func13 rfl c13_ok (by simp [c13]) fun C hP => ?_; simp only [c13]
  simp +decide (disch := first | omega | rfl | (simp +decide only [go_sem, ↓reduceIte] <;> rfl) | fail) only [go_sem, ↓reduceIte, rem64K, quo64K, remI64K, quoI64K, mulK64, mk_empty, sl_3n, app_nil_map, mk_i64, max_nat]
  refine call_eq0 hP (p_Var_spec (v := 0) (by omega) (by omega)) rfl rfl rfl ?_
  simp +decide (disch := first | omega | rfl | (simp +decide only [go_sem, ↓reduceIte] <;> rfl) | fail) only [go_sem, ↓reduceIte, rem64K, quo64K, remI64K, quoI64K, mulK64, mk_empty, sl_3n, app_nil_map, mk_i64, max_nat]
  refine call_eq0 hP (p_Var_spec (v := 1) (by omega) (by omega)) rfl rfl rfl ?_
  simp +decide (disch := first | omega | rfl | (simp +decide only [go_sem, ↓reduceIte] <;> rfl) | fail) only [go_sem, ↓reduceIte, rem64K, quo64K, remI64K, quoI64K, mulK64, mk_empty, sl_3n, app_nil_map, mk_i64, max_nat]
  refine call_eq0 hP (p_Add_spec (K := 4) (E := 1) b0 b1 (by omega) (by omega) (by omega) (by omega)) rfl rfl rfl ?_
  rw [hA]
  simp +decide (disch := first | omega | rfl | (simp +decide only [go_sem, ↓reduceIte] <;> rfl) | fail) only [go_sem, ↓reduceIte, rem64K, quo64K, remI64K, quoI64K, mulK64, mk_empty, sl_3n, app_nil_map, mk_i64, max_nat]
  refine call_eq0 hP (p_Sub_spec (K := 4) (E := 1) b0 b1 (by omega) (by omega) (by omega) (by omega) (by omega)) rfl rfl rfl ?_
  rw [hB]
  simp +decide (disch := first | omega | rfl | (simp +decide only [go_sem, ↓reduceIte] <;> rfl) | fail) only [go_sem, ↓reduceIte, rem64K, quo64K, remI64K, quoI64K, mulK64, mk_empty, sl_3n, app_nil_map, mk_i64, max_nat]
  refine call_eq0 hP (p_Mul_spec (K := 20) (E := 1) ba bs (by omega) (by omega) (by omega) (by omega) (by
    have : min A.length B.length * (20 + 20) ≤ 2 * 40 := Nat.mul_le_mul_right _ (by omega)
    omega) (by omega)) rfl rfl rfl ?_
  rw [ep]
  obtain ⟨M, hM⟩ : ∃ M : List Tm, M = [(((-1 : Int) : Rat), [0, 2]), (1, [2])] := ⟨_, rfl⟩
  have hl : M.length = 2 := by rw [hM]; rfl
  have g0 : M[0]'(by omega) = (((-1 : Int) : Rat), [0, 2]) := by simp [hM]
  have g1 : M[1]'(by omega) = (1, [2]) := by simp [hM]
  rw [← hM]
  simp +decide (disch := first | omega | rfl | (simp +decide only [go_sem, ↓reduceIte] <;> rfl) | fail) only [go_sem, ↓reduceIte, rem64K, quo64K, remI64K, quoI64K, mulK64, mk_empty, sl_3n, app_nil_map, mk_i64, max_nat]
  refine guard_split (fun _ => ?_) (fun h => by omega)
  simp +decide (disch := first | omega | rfl | (simp +decide only [go_sem, ↓reduceIte, g0] <;> rfl) | fail) only [go_sem, ↓reduceIte, rem64K, quo64K, remI64K, quoI64K, mulK64, mk_empty, sl_3n, app_nil_map, mk_i64, max_nat, g0]
  refine call_eq hP (r5_Same_spec (a := [0, 2]) (b := [0, 2]) (by simp) (by simp)) (by simp +decide (disch := first | omega | rfl | (simp +decide only [go_sem, ↓reduceIte, looks3, List.contains_cons, List.contains_nil, List.flatMap_cons, List.flatMap_nil, List.append_nil] <;> rfl) | fail) only [go_sem, ↓reduceIte, rem64K, quo64K, remI64K, quoI64K, mulK64, mk_empty, sl_3n, app_nil_map, mk_i64, max_nat, looks3, List.contains_cons, List.contains_nil, List.flatMap_cons, List.flatMap_nil, List.append_nil] <;> rfl) rfl ?_
  rw [decide_eq_true (p := ([0, 2] : List Int) = [0, 2]) rfl]
  simp +decide (disch := first | omega | rfl | (simp +decide only [go_sem, ↓reduceIte, g0] <;> rfl) | fail) only [go_sem, ↓reduceIte, rem64K, quo64K, remI64K, quoI64K, mulK64, mk_empty, sl_3n, app_nil_map, mk_i64, max_nat, g0]
  refine call_eq0 hP (r3_Of_spec (x := -1) (by omega) (by omega)) rfl rfl rfl ?_
  simp +decide (disch := first | omega | rfl | (simp +decide only [go_sem, ↓reduceIte, g0] <;> rfl) | fail) only [go_sem, ↓reduceIte, rem64K, quo64K, remI64K, quoI64K, mulK64, mk_empty, sl_3n, app_nil_map, mk_i64, max_nat, g0]
  refine call_eq0 hP (r3_Equal_q (a := ((-1 : Int) : Rat)) (b := ((-1 : Int) : Rat)) (k := 4) (by rw [em1]; omega) (by rw [em1]; omega) (by omega)) rfl rfl rfl ?_
  rw [decide_eq_true (p := ((-1 : Int) : Rat) = ((-1 : Int) : Rat)) rfl]
  simp +decide (disch := first | omega | rfl | (simp +decide only [go_sem, ↓reduceIte, g1] <;> rfl) | fail) only [go_sem, ↓reduceIte, rem64K, quo64K, remI64K, quoI64K, mulK64, mk_empty, sl_3n, app_nil_map, mk_i64, max_nat, g1]
  refine call_eq hP (r5_Same_spec (a := [2]) (b := [2]) (by simp) (by simp)) (by simp +decide (disch := first | omega | rfl | (simp +decide only [go_sem, ↓reduceIte, looks3, List.contains_cons, List.contains_nil, List.flatMap_cons, List.flatMap_nil, List.append_nil] <;> rfl) | fail) only [go_sem, ↓reduceIte, rem64K, quo64K, remI64K, quoI64K, mulK64, mk_empty, sl_3n, app_nil_map, mk_i64, max_nat, looks3, List.contains_cons, List.contains_nil, List.flatMap_cons, List.flatMap_nil, List.append_nil] <;> rfl) rfl ?_
  rw [decide_eq_true (p := ([2] : List Int) = [2]) rfl]
  simp +decide (disch := first | omega | rfl | (simp +decide only [go_sem, ↓reduceIte] <;> rfl) | fail) only [go_sem, ↓reduceIte, rem64K, quo64K, remI64K, quoI64K, mulK64, mk_empty, sl_3n, app_nil_map, mk_i64, max_nat]
  exact retV_eq rfl rfl
end Go.Proofs.YtfhmockdgbkpnaaGreat
namespace Go.Proofs.YtfhmockdgbkpnaaGreat
open Go Go.FW
set_option linter.unusedSimpArgs false
set_option linter.unusedVariables false
set_option maxRecDepth 100000
structure Smd (n v : Nat) (e : Nat) (l : List RTm) (p : List Tm) : Prop where
  q : p = l.map RTm.tm
  eq : PV.rpoly l = PV.poly p
  ml : ∀ t ∈ p, t.2.length ≤ v
  va : PVd p
  b : PB 5 e p
  ln : p.length ≤ n
theorem small_spec {l : List RTm} {k n v e : Nat} (hb : ∀ t ∈ l, RB k t) (h : small n v e l = true) : Smd n v e l (l.map RTm.tm) := by
  simp only [small, Bool.and_eq_true, decide_eq_true_eq, List.all_eq_true] at h
  obtain ⟨h1, h2, h3⟩ := h
  obtain ⟨e1, e2⟩ := prOk_spec hb h3
  refine ⟨rfl, e1, fun t ht => ?_, e2, fun t ht => ?_, by simpa using h1⟩
  rotate_left
  · obtain ⟨x, hx, rfl⟩ := List.mem_map.1 ht
    have hs := h2 x hx
    simp only [smT, Bool.and_eq_true, decide_eq_true_eq, List.all_eq_true] at hs
    have hv := e2.t _ ht
    have hr := (show Raw 4 x.n x.a x.d from ⟨(hb x hx).r.1, (hb x hx).r.2.1, hs.2.1, hs.2.2.1, by omega⟩).rs
    have hm := MB.ofOk hv.m
    refine ⟨?_, ⟨hm.len, hm.lo, fun y hy => hs.2.2.2 y hy⟩, monoOk_last hv.m⟩
    show rs (rv x.n x.a x.d) + 1 ≤ 5
    omega
  · obtain ⟨x, hx, rfl⟩ := List.mem_map.1 ht
    have hs := h2 x hx
    simp only [smT, Bool.and_eq_true, decide_eq_true_eq, List.all_eq_true] at hs
    exact hs.1
end Go.Proofs.YtfhmockdgbkpnaaGreat
namespace Go.Proofs.YtfhmockdgbkpnaaGreat
open Go Go.FW
set_option maxRecDepth 100000
def c99 : SFn := ⟨80, [.t 4, .t 5], .seq (.rg (.o none (.mv 4 (.c .nilS)) <|
  .o none (.mv 5 (.c .nilS)) .nil)) <| .seq (.seq (.rg (.o none (.mv 15 (.t 0)) <|
  .o none (.len 16 (.t 15)) <|
  .o none (.mv 17 (.c (.int .i64 0))) .nil)) <| .block 0 (.loop (.seq (.rg (.o none (.bin 18 .lss false (.t 17) (.t 16)) .nil)) <| .seq (.cond (.t 18) (.skip) (.exit 0)) <| .seq (.block 1 (.seq (.rg (.o none (.idx 19 4 (.t 15) (.t 17)) <|
  .o none (.ld 20 4 true (.t 19)) <|
  .o none (.alloc 7 4 49 (.agg [(.bool false), .nilS, .nilS, .nilS])) <|
  .o none (.st 4 (.t 7) (.t 20)) .nil)) <| .seq (.rg (.o none (.fld 21 3 (.t 7)) <|
  .o none (.ld 22 1 false (.t 21)) <|
  .o none (.mv 23 (.t 1)) <|
  .o none (.call (some 24) false (.c (.fn 122 [] [])) [(.t 22), (.t 23)]) <|
  .o none (.mv 8 (.t 24)) .nil)) <| .seq (.rg (.o none (.mv 25 (.t 4)) <|
  .o none (.mv 26 (.t 8)) <|
  .o none (.call (some 27) false (.c (.fn 134 [] [])) [(.t 25), (.t 26)]) <|
  .o none (.un 28 .not (.t 27)) .nil)) <| .cond (.t 28) (.rg (.o none (.mv 29 (.t 4)) <|
  .o none (.mv 30 (.t 8)) <|
  .o none (.bs 31 1 3 [(.t 30)]) <|
  .o none (.app 32 1 8 3 (.t 29) (.t 31)) <|
  .o none (.mv 4 (.t 32)) .nil)) (.skip))) <| .rg (.o none (.bin 33 .add false (.t 17) (.c (.int .i64 1))) <|
  .o none (.mv 17 (.t 33)) .nil)))) <| .seq (.rg (.o none (.mv 34 (.t 4)) <|
  .o none (.call (some 35) false (.c (.fn 135 [] [])) [(.t 34)]) .nil)) <| .seq (.rg (.o none (.mv 36 (.t 4)) <|
  .o none (.call (some 37) false (.c (.fn 136 [] [])) [(.t 36)]) .nil)) <| .seq (.seq (.rg (.o none (.mv 38 (.t 4)) <|
  .o none (.len 39 (.t 38)) <|
  .o none (.mv 40 (.c (.int .i64 0))) .nil)) <| .block 2 (.loop (.seq (.rg (.o none (.bin 41 .lss false (.t 40) (.t 39)) .nil)) <| .seq (.cond (.t 41) (.skip) (.exit 2)) <| .seq (.block 3 (.seq (.rg (.o none (.idx 42 1 (.t 38) (.t 40)) <|
  .o none (.ld 43 1 false (.t 42)) <|
  .o none (.mv 10 (.t 43)) .nil)) <| .seq (.rg (.o none (.mv 11 (.c .nilS)) .nil)) <| .seq (.seq (.rg (.o none (.mv 44 (.t 0)) <|
  .o none (.len 45 (.t 44)) <|
  .o none (.mv 46 (.c (.int .i64 0))) .nil)) <| .block 4 (.loop (.seq (.rg (.o none (.bin 47 .lss false (.t 46) (.t 45)) .nil)) <| .seq (.cond (.t 47) (.skip) (.exit 4)) <| .seq (.block 5 (.seq (.rg (.o none (.idx 48 4 (.t 44) (.t 46)) <|
  .o none (.ld 49 4 true (.t 48)) <|
  .o none (.alloc 13 4 49 (.agg [(.bool false), .nilS, .nilS, .nilS])) <|
  .o none (.st 4 (.t 13) (.t 49)) .nil)) <| .seq (.rg (.o none (.fld 50 3 (.t 13)) <|
  .o none (.ld 51 1 false (.t 50)) <|
  .o none (.mv 52 (.t 1)) <|
  .o none (.call (some 53) false (.c (.fn 122 [] [])) [(.t 51), (.t 52)]) <|
  .o none (.mv 54 (.t 10)) <|
  .o none (.bin 55 .eql false (.t 53) (.t 54)) .nil)) <| .cond (.t 55) (.seq (.rg (.o none (.fld 56 3 (.t 13)) <|
  .o none (.ld 57 1 false (.t 56)) <|
  .o none (.app 58 1 8 3 (.c .nilS) (.t 57)) <|
  .o none (.mv 14 (.t 58)) .nil)) <| .seq (.seq (.rg (.o none (.mv 59 (.t 10)) <|
  .o none (.bin 60 .gtr false (.t 59) (.c (.int .i64 0))) .nil)) <| .cond (.t 60) (.rg (.o none (.mv 61 (.t 14)) <|
  .o none (.mv 62 (.t 1)) <|
  .o none (.idx 63 1 (.t 61) (.t 62)) <|
  .o none (.st 1 (.t 63) (.c (.int .i64 0))) .nil)) (.skip)) <| .rg (.o none (.mv 64 (.t 11)) <|
  .o none (.fld 65 0 (.t 13)) <|
  .o none (.ld 66 3 true (.t 65)) <|
  .o none (.mv 67 (.t 14)) <|
  .o none (.call (some 68) true (.c (.fn 93 [] [])) [(.t 67)]) <|
  .o none (.bld 69 [(.bool false), .nilS, .nilS, .nilS] [(0, 3, (.t 66)), (3, 1, (.t 68))]) <|
  .o none (.bs 70 4 49 [(.t 69)]) <|
  .o none (.app 71 4 80 49 (.t 64) (.t 70)) <|
  .o none (.mv 11 (.t 71)) .nil)) (.skip))) <| .rg (.o none (.bin 72 .add false (.t 46) (.c (.int .i64 1))) <|
  .o none (.mv 46 (.t 72)) .nil)))) <| .rg (.o none (.mv 73 (.t 5)) <|
  .o none (.mv 74 (.t 11)) <|
  .o none (.bs 75 1 23 [(.t 74)]) <|
  .o none (.app 76 1 24 23 (.t 73) (.t 75)) <|
  .o none (.mv 5 (.t 76)) .nil))) <| .rg (.o none (.bin 77 .add false (.t 40) (.c (.int .i64 1))) <|
  .o none (.mv 40 (.t 77)) .nil)))) <| .seq (.rg (.o none (.mv 78 (.t 4)) <|
  .o none (.mv 79 (.t 5)) <|
  .o none (.mv 4 (.t 78)) <|
  .o none (.mv 5 (.t 79)) .nil)) <| .ret⟩
theorem c99_ok : compileF Tryz.prog Tryz.f99 = some c99 := by kernel_rfl
def c47 : SFn := ⟨70, [.t 6, .t 7], .seq (.rg (.o none (.mv 6 (.c .nilS)) <|
  .o none (.mv 7 (.c (.int .i64 0))) .nil)) <| .seq (.seq (.rg (.o none (.mv 13 (.t 1)) <|
  .o none (.bin 14 .lss false (.t 13) (.c (.int .i64 0))) <|
  .o none (.mv 15 (.t 14)) <|
  .o (some (15, false)) (.mv 16 (.t 1)) <|
  .o (some (15, false)) (.bin 17 .geq false (.t 16) (.c (.int .i64 64))) <|
  .o none (.pick 18 (.t 15) (.c (.bool true)) (.t 17)) .nil)) <| .cond (.t 18) (.seq (.rg (.o none (.mv 6 (.c .nilS)) <|
  .o none (.mv 7 (.c (.int .i64 2))) .nil)) <| .ret) (.skip)) <| .seq (.rg (.o none (.mv 20 (.t 0)) <|
  .o none (.mv 21 (.t 1)) <|
  .o none (.call (some 22) false (.c (.fn 99 [] [])) [(.t 20), (.t 21)]) <|
  .o none (.mv 19 (.t 22)) <|
  .o none (.ext 23 (.t 19) 0) <|
  .o none (.ext 24 (.t 19) 1) <|
  .o none (.mv 8 (.t 23)) <|
  .o none (.mv 9 (.t 24)) .nil)) <| .seq (.seq (.rg (.o none (.mv 25 (.t 8)) <|
  .o none (.len 26 (.t 25)) <|
  .o none (.bin 27 .eql false (.t 26) (.c (.int .i64 0))) .nil)) <| .cond (.t 27) (.seq (.rg (.o none (.mv 6 (.c .nilS)) <|
  .o none (.mv 7 (.c (.int .i64 0))) .nil)) <| .ret) (.skip)) <| .seq (.seq (.rg (.o none (.mv 28 (.t 8)) <|
  .o none (.idx 29 1 (.t 28) (.c (.int .i64 0))) <|
  .o none (.ld 30 1 false (.t 29)) <|
  .o none (.bin 31 .gtr false (.t 30) (.c (.int .i64 4000))) .nil)) <| .cond (.t 31) (.seq (.rg (.o none (.mv 6 (.c .nilS)) <|
  .o none (.mv 7 (.c (.int .i64 4))) .nil)) <| .ret) (.skip)) <| .seq (.rg (.o none (.mv 32 (.t 9)) <|
  .o none (.idx 33 1 (.t 32) (.c (.int .i64 0))) <|
  .o none (.ld 34 1 false (.t 33)) <|
  .o none (.mv 10 (.t 34)) <|
  .o none (.mv 11 (.c (.int .i64 1))) .nil)) <| .seq (.seq (.rg (.o none (.mv 35 (.t 8)) <|
  .o none (.idx 36 1 (.t 35) (.c (.int .i64 0))) <|
  .o none (.ld 37 1 false (.t 36)) <|
  .o none (.bin 38 .sub false (.t 37) (.c (.int .i64 1))) <|
  .o none (.mv 12 (.t 38)) .nil)) <| .block 0 (.loop (.seq (.seq (.rg (.o none (.mv 39 (.t 10)) <|
  .o none (.call (some 40) false (.c (.fn 59 [] [])) [(.t 39)]) <|
  .o none (.un 41 .not (.t 40)) .nil)) <| .cond (.t 41) (.skip) (.exit 0)) <| .seq (.block 1 (.seq (.seq (.rg (.o none (.mv 44 (.t 12)) <|
  .o none (.bin 45 .lss false (.t 44) (.c (.int .i64 0))) .nil)) <| .cond (.t 45) (.seq (.rg (.o none (.mv 46 (.t 10)) <|
  .o none (.mv 6 (.t 46)) <|
  .o none (.mv 7 (.c (.int .i64 0))) .nil)) <| .ret) (.skip)) <| .seq (.rg (.o none (.mv 47 (.t 10)) <|
  .o none (.mv 48 (.t 2)) <|
  .o none (.call (some 49) false (.c (.fn 39 [] [])) [(.t 47), (.t 48)]) <|
  .o none (.mv 10 (.t 49)) .nil)) <| .seq (.rg (.o none (.mv 50 (.t 11)) <|
  .o none (.mv 51 (.t 9)) <|
  .o none (.len 52 (.t 51)) <|
  .o none (.bin 53 .lss false (.t 50) (.t 52)) <|
  .o none (.mv 54 (.t 53)) <|
  .o (some (54, true)) (.mv 55 (.t 8)) <|
  .o (some (54, true)) (.mv 56 (.t 11)) <|
  .o (some (54, true)) (.idx 57 1 (.t 55) (.t 56)) <|
  .o (some (54, true)) (.ld 58 1 false (.t 57)) <|
  .o (some (54, true)) (.mv 59 (.t 12)) <|
  .o (some (54, true)) (.bin 60 .eql false (.t 58) (.t 59)) <|
  .o none (.pick 61 (.t 54) (.t 60) (.c (.bool false))) .nil)) <| .cond (.t 61) (.seq (.rg (.o none (.mv 62 (.t 10)) <|
  .o none (.mv 63 (.t 9)) <|
  .o none (.mv 64 (.t 11)) <|
  .o none (.idx 65 1 (.t 63) (.t 64)) <|
  .o none (.ld 66 1 false (.t 65)) <|
  .o none (.call (some 67) false (.c (.fn 35 [] [])) [(.t 62), (.t 66)]) <|
  .o none (.mv 10 (.t 67)) .nil)) <| .rg (.o none (.mv 68 (.t 11)) <|
  .o none (.bin 69 .add false (.t 68) (.c (.int .i64 1))) <|
  .o none (.mv 11 (.t 69)) .nil)) (.skip))) <| .rg (.o none (.mv 42 (.t 12)) <|
  .o none (.bin 43 .sub false (.t 42) (.c (.int .i64 1))) <|
  .o none (.mv 12 (.t 43)) .nil)))) <| .seq (.rg (.o none (.mv 6 (.c .nilS)) <|
  .o none (.mv 7 (.c (.int .i64 4))) .nil)) <| .ret⟩
theorem c47_ok : compileF Tryz.prog Tryz.f47 = some c47 := by kernel_rfl
def c134 : SFn := ⟨9, [.t 4], .seq (.rg (.o none (.mv 4 (.c (.bool false))) .nil)) <| .seq (.rg (.o none (.mv 5 (.t 0)) <|
  .o none (.mv 6 (.t 1)) <|
  .o none (.call (some 7) false (.c (.fn 160 [] [])) [(.t 5), (.t 6)]) <|
  .o none (.bin 8 .geq false (.t 7) (.c (.int .i64 0))) <|
  .o none (.mv 4 (.t 8)) .nil)) <| .ret⟩
theorem c134_ok : compileF Tryz.prog Tryz.f134 = some c134 := by kernel_rfl
def c160 : SFn := ⟨19, [.t 4], .seq (.rg (.o none (.mv 4 (.c (.int .i64 0))) .nil)) <| .seq (.seq (.rg (.o none (.mv 6 (.t 0)) <|
  .o none (.len 7 (.t 6)) <|
  .o none (.mv 8 (.c (.int .i64 0))) .nil)) <| .block 0 (.loop (.seq (.rg (.o none (.bin 9 .lss false (.t 8) (.t 7)) .nil)) <| .seq (.cond (.t 9) (.skip) (.exit 0)) <| .seq (.block 1 (.seq (.rg (.o none (.mv 10 (.t 8)) <|
  .o none (.mv 5 (.t 10)) .nil)) <| .seq (.rg (.o none (.mv 11 (.t 1)) <|
  .o none (.mv 12 (.t 0)) <|
  .o none (.mv 13 (.t 5)) <|
  .o none (.idx 14 1 (.t 12) (.t 13)) <|
  .o none (.ld 15 1 false (.t 14)) <|
  .o none (.bin 16 .eql false (.t 11) (.t 15)) .nil)) <| .cond (.t 16) (.seq (.rg (.o none (.mv 17 (.t 5)) <|
  .o none (.mv 4 (.t 17)) .nil)) <| .ret) (.skip))) <| .rg (.o none (.bin 18 .add false (.t 8) (.c (.int .i64 1))) <|
  .o none (.mv 8 (.t 18)) .nil)))) <| .seq (.rg (.o none (.mv 4 (.c (.int .i64 (-1)))) .nil)) <| .ret⟩
theorem c160_ok : compileF Tryz.prog Tryz.f160 = some c160 := by kernel_rfl
def c135 : SFn := ⟨11, [], .seq (.rg (.o none (.mv 3 (.t 0)) <|
  .o none (.len 4 (.t 3)) <|
  .o none (.mv 2 (.t 4)) .nil)) <| .rg (.o none (.mv 5 (.t 0)) <|
  .o none (.mv 6 (.t 2)) <|
  .o none (.mv 7 (.t 2)) <|
  .o none (.conv 8 .u64 (.t 7)) <|
  .o none (.call (some 9) false (.c (.fn 162 [] [])) [(.t 8)]) <|
  .o none (.call (some 10) false (.c (.fn 161 [] [])) [(.t 5), (.c (.int .i64 0)), (.t 6), (.t 9)]) .nil)⟩
theorem c135_ok : compileF Tryz.prog Tryz.f135 = some c135 := by kernel_rfl
def c136 : SFn := ⟨28, [], .seq (.rg (.o none (.mv 4 (.t 0)) <|
  .o none (.len 5 (.t 4)) <|
  .o none (.bin 6 .sub false (.t 5) (.c (.int .i64 1))) <|
  .o none (.mv 2 (.c (.int .i64 0))) <|
  .o none (.mv 3 (.t 6)) .nil)) <| .block 0 (.loop (.seq (.seq (.rg (.o none (.mv 7 (.t 2)) <|
  .o none (.mv 8 (.t 3)) <|
  .o none (.bin 9 .lss false (.t 7) (.t 8)) .nil)) <| .cond (.t 9) (.skip) (.exit 0)) <| .seq (.block 1 (.rg (.o none (.mv 14 (.t 0)) <|
  .o none (.mv 15 (.t 2)) <|
  .o none (.mv 16 (.t 0)) <|
  .o none (.mv 17 (.t 3)) <|
  .o none (.mv 18 (.t 0)) <|
  .o none (.mv 19 (.t 3)) <|
  .o none (.idx 20 1 (.t 18) (.t 19)) <|
  .o none (.ld 21 1 false (.t 20)) <|
  .o none (.mv 22 (.t 0)) <|
  .o none (.mv 23 (.t 2)) <|
  .o none (.idx 24 1 (.t 22) (.t 23)) <|
  .o none (.ld 25 1 false (.t 24)) <|
  .o none (.idx 26 1 (.t 14) (.t 15)) <|
  .o none (.st 1 (.t 26) (.t 21)) <|
  .o none (.idx 27 1 (.t 16) (.t 17)) <|
  .o none (.st 1 (.t 27) (.t 25)) .nil))) <| .rg (.o none (.mv 10 (.t 2)) <|
  .o none (.bin 11 .add false (.t 10) (.c (.int .i64 1))) <|
  .o none (.mv 12 (.t 3)) <|
  .o none (.bin 13 .sub false (.t 12) (.c (.int .i64 1))) <|
  .o none (.mv 2 (.t 11)) <|
  .o none (.mv 3 (.t 13)) .nil)))⟩
theorem c136_ok : compileF Tryz.prog Tryz.f136 = some c136 := by kernel_rfl
def c161 : SFn := ⟨134, [], .seq (.rg (.o none (.mv 8 (.c (.bool true))) .nil)) <| .seq (.rg (.o none (.mv 9 (.c (.bool true))) .nil)) <| .block 0 (.loop (.block 1 (.seq (.rg (.o none (.mv 19 (.t 2)) <|
  .o none (.mv 20 (.t 1)) <|
  .o none (.bin 21 .sub false (.t 19) (.t 20)) <|
  .o none (.mv 10 (.t 21)) .nil)) <| .seq (.seq (.rg (.o none (.mv 22 (.t 10)) <|
  .o none (.bin 23 .leq false (.t 22) (.c (.int .i64 12))) .nil)) <| .cond (.t 23) (.seq (.rg (.o none (.mv 24 (.t 0)) <|
  .o none (.mv 25 (.t 1)) <|
  .o none (.mv 26 (.t 2)) <|
  .o none (.call (some 27) false (.c (.fn 171 [] [])) [(.t 24), (.t 25), (.t 26)]) .nil)) <| .ret) (.skip)) <| .seq (.seq (.rg (.o none (.mv 28 (.t 3)) <|
  .o none (.bin 29 .eql false (.t 28) (.c (.int .i64 0))) .nil)) <| .cond (.t 29) (.seq (.rg (.o none (.mv 30 (.t 0)) <|
  .o none (.mv 31 (.t 1)) <|
  .o none (.mv 32 (.t 2)) <|
  .o none (.call (some 33) false (.c (.fn 172 [] [])) [(.t 30), (.t 31), (.t 32)]) .nil)) <| .ret) (.skip)) <| .seq (.seq (.rg (.o none (.mv 34 (.t 8)) <|
  .o none (.un 35 .not (.t 34)) .nil)) <| .cond (.t 35) (.seq (.rg (.o none (.mv 36 (.t 0)) <|
  .o none (.mv 37 (.t 1)) <|
  .o none (.mv 38 (.t 2)) <|
  .o none (.call (some 39) false (.c (.fn 173 [] [])) [(.t 36), (.t 37), (.t 38)]) .nil)) <| .rg (.o none (.mv 40 (.t 3)) <|
  .o none (.bin 41 .sub false (.t 40) (.c (.int .i64 1))) <|
  .o none (.mv 3 (.t 41)) .nil)) (.skip)) <| .seq (.rg (.o none (.mv 43 (.t 0)) <|
  .o none (.mv 44 (.t 1)) <|
  .o none (.mv 45 (.t 2)) <|
  .o none (.call (some 46) false (.c (.fn 174 [] [])) [(.t 43), (.t 44), (.t 45)]) <|
  .o none (.mv 42 (.t 46)) <|
  .o none (.ext 47 (.t 42) 0) <|
  .o none (.ext 48 (.t 42) 1) <|
  .o none (.mv 11 (.t 47)) <|
  .o none (.mv 12 (.t 48)) .nil)) <| .seq (.seq (.rg (.o none (.mv 49 (.t 12)) <|
  .o none (.bin 50 .eql false (.t 49) (.c (.int .i64 2))) .nil)) <| .cond (.t 50) (.seq (.rg (.o none (.mv 51 (.t 0)) <|
  .o none (.mv 52 (.t 1)) <|
  .o none (.mv 53 (.t 2)) <|
  .o none (.call (some 54) false (.c (.fn 175 [] [])) [(.t 51), (.t 52), (.t 53)]) .nil)) <| .seq (.rg (.o none (.mv 55 (.t 2)) <|
  .o none (.bin 56 .sub false (.t 55) (.c (.int .i64 1))) <|
  .o none (.mv 57 (.t 11)) <|
  .o none (.mv 58 (.t 1)) <|
  .o none (.bin 59 .sub false (.t 57) (.t 58)) <|
  .o none (.bin 60 .sub false (.t 56) (.t 59)) <|
  .o none (.mv 11 (.t 60)) .nil)) <| .rg (.o none (.mv 12 (.c (.int .i64 1))) .nil)) (.skip)) <| .seq (.seq (.rg (.o none (.mv 61 (.t 8)) <|
  .o none (.mv 62 (.t 61)) <|
  .o (some (62, true)) (.mv 63 (.t 9)) <|
  .o none (.pick 64 (.t 62) (.t 63) (.c (.bool false))) <|
  .o none (.mv 65 (.t 64)) <|
  .o (some (65, true)) (.mv 66 (.t 12)) <|
  .o (some (65, true)) (.bin 67 .eql false (.t 66) (.c (.int .i64 1))) <|
  .o none (.pick 68 (.t 65) (.t 67) (.c (.bool false))) .nil)) <| .cond (.t 68) (.seq (.rg (.o none (.mv 69 (.t 0)) <|
  .o none (.mv 70 (.t 1)) <|
  .o none (.mv 71 (.t 2)) <|
  .o none (.call (some 72) false (.c (.fn 176 [] [])) [(.t 69), (.t 70), (.t 71)]) .nil)) <| .cond (.t 72) (.ret) (.skip)) (.skip)) <| .seq (.seq (.rg (.o none (.mv 73 (.t 1)) <|
  .o none (.bin 74 .gtr false (.t 73) (.c (.int .i64 0))) <|
  .o none (.mv 75 (.t 74)) <|
  .o (some (75, true)) (.mv 76 (.t 0)) <|
  .o (some (75, true)) (.mv 77 (.t 1)) <|
  .o (some (75, true)) (.bin 78 .sub false (.t 77) (.c (.int .i64 1))) <|
  .o (some (75, true)) (.idx 79 1 (.t 76) (.t 78)) <|
  .o (some (75, true)) (.ld 80 1 false (.t 79)) <|
  .o (some (75, true)) (.mv 81 (.t 0)) <|
  .o (some (75, true)) (.mv 82 (.t 11)) <|
  .o (some (75, true)) (.idx 83 1 (.t 81) (.t 82)) <|
  .o (some (75, true)) (.ld 84 1 false (.t 83)) <|
  .o (some (75, true)) (.call (some 85) false (.c (.fn 177 [] [])) [(.t 80), (.t 84)]) <|
  .o (some (75, true)) (.un 86 .not (.t 85)) <|
  .o none (.pick 87 (.t 75) (.t 86) (.c (.bool false))) .nil)) <| .cond (.t 87) (.seq (.rg (.o none (.mv 88 (.t 0)) <|
  .o none (.mv 89 (.t 1)) <|
  .o none (.mv 90 (.t 2)) <|
  .o none (.mv 91 (.t 11)) <|
  .o none (.call (some 92) false (.c (.fn 178 [] [])) [(.t 88), (.t 89), (.t 90), (.t 91)]) <|
  .o none (.mv 13 (.t 92)) .nil)) <| .seq (.rg (.o none (.mv 93 (.t 13)) <|
  .o none (.mv 1 (.t 93)) .nil)) <| .exit 1) (.skip)) <| .seq (.rg (.o none (.mv 95 (.t 0)) <|
  .o none (.mv 96 (.t 1)) <|
  .o none (.mv 97 (.t 2)) <|
  .o none (.mv 98 (.t 11)) <|
  .o none (.call (some 99) false (.c (.fn 179 [] [])) [(.t 95), (.t 96), (.t 97), (.t 98)]) <|
  .o none (.mv 94 (.t 99)) <|
  .o none (.ext 100 (.t 94) 0) <|
  .o none (.ext 101 (.t 94) 1) <|
  .o none (.mv 14 (.t 100)) <|
  .o none (.mv 15 (.t 101)) .nil)) <| .seq (.rg (.o none (.mv 102 (.t 15)) <|
  .o none (.mv 9 (.t 102)) .nil)) <| .seq (.rg (.o none (.mv 103 (.t 14)) <|
  .o none (.mv 104 (.t 1)) <|
  .o none (.bin 105 .sub false (.t 103) (.t 104)) <|
  .o none (.mv 106 (.t 2)) <|
  .o none (.mv 107 (.t 14)) <|
  .o none (.bin 108 .sub false (.t 106) (.t 107)) <|
  .o none (.mv 16 (.t 105)) <|
  .o none (.mv 17 (.t 108)) .nil)) <| .seq (.rg (.o none (.mv 109 (.t 10)) <|
  .o none (.bin 110 .quo false (.t 109) (.c (.int .i64 8))) <|
  .o none (.mv 18 (.t 110)) .nil)) <| .seq (.rg (.o none (.mv 111 (.t 16)) <|
  .o none (.mv 112 (.t 17)) <|
  .o none (.bin 113 .lss false (.t 111) (.t 112)) .nil)) <| .cond (.t 113) (.seq (.rg (.o none (.mv 114 (.t 16)) <|
  .o none (.mv 115 (.t 18)) <|
  .o none (.bin 116 .geq false (.t 114) (.t 115)) <|
  .o none (.mv 8 (.t 116)) .nil)) <| .seq (.rg (.o none (.mv 117 (.t 0)) <|
  .o none (.mv 118 (.t 1)) <|
  .o none (.mv 119 (.t 14)) <|
  .o none (.mv 120 (.t 3)) <|
  .o none (.call (some 121) false (.c (.fn 161 [] [])) [(.t 117), (.t 118), (.t 119), (.t 120)]) .nil)) <| .rg (.o none (.mv 122 (.t 14)) <|
  .o none (.bin 123 .add false (.t 122) (.c (.int .i64 1))) <|
  .o none (.mv 1 (.t 123)) .nil)) (.seq (.rg (.o none (.mv 124 (.t 17)) <|
  .o none (.mv 125 (.t 18)) <|
  .o none (.bin 126 .geq false (.t 124) (.t 125)) <|
  .o none (.mv 8 (.t 126)) .nil)) <| .seq (.rg (.o none (.mv 127 (.t 0)) <|
  .o none (.mv 128 (.t 14)) <|
  .o none (.bin 129 .add false (.t 128) (.c (.int .i64 1))) <|
  .o none (.mv 130 (.t 2)) <|
  .o none (.mv 131 (.t 3)) <|
  .o none (.call (some 132) false (.c (.fn 161 [] [])) [(.t 127), (.t 129), (.t 130), (.t 131)]) .nil)) <| .rg (.o none (.mv 133 (.t 14)) <|
  .o none (.mv 2 (.t 133)) .nil)))))⟩
theorem c161_ok : compileF Tryz.prog Tryz.f161 = some c161 := by kernel_rfl
def c171 : SFn := ⟨49, [], .seq (.rg (.o none (.mv 8 (.t 1)) <|
  .o none (.bin 9 .add false (.t 8) (.c (.int .i64 1))) <|
  .o none (.mv 6 (.t 9)) .nil)) <| .block 0 (.loop (.seq (.seq (.rg (.o none (.mv 10 (.t 6)) <|
  .o none (.mv 11 (.t 2)) <|
  .o none (.bin 12 .lss false (.t 10) (.t 11)) .nil)) <| .cond (.t 12) (.skip) (.exit 0)) <| .seq (.block 1 (.seq (.rg (.o none (.mv 15 (.t 6)) <|
  .o none (.mv 7 (.t 15)) .nil)) <| .block 2 (.loop (.seq (.seq (.rg (.o none (.mv 16 (.t 7)) <|
  .o none (.mv 17 (.t 1)) <|
  .o none (.bin 18 .gtr false (.t 16) (.t 17)) <|
  .o none (.mv 19 (.t 18)) <|
  .o (some (19, true)) (.mv 20 (.t 0)) <|
  .o (some (19, true)) (.mv 21 (.t 7)) <|
  .o (some (19, true)) (.idx 22 1 (.t 20) (.t 21)) <|
  .o (some (19, true)) (.ld 23 1 false (.t 22)) <|
  .o (some (19, true)) (.mv 24 (.t 0)) <|
  .o (some (19, true)) (.mv 25 (.t 7)) <|
  .o (some (19, true)) (.bin 26 .sub false (.t 25) (.c (.int .i64 1))) <|
  .o (some (19, true)) (.idx 27 1 (.t 24) (.t 26)) <|
  .o (some (19, true)) (.ld 28 1 false (.t 27)) <|
  .o (some (19, true)) (.call (some 29) false (.c (.fn 177 [] [])) [(.t 23), (.t 28)]) <|
  .o none (.pick 30 (.t 19) (.t 29) (.c (.bool false))) .nil)) <| .cond (.t 30) (.skip) (.exit 2)) <| .seq (.block 3 (.rg (.o none (.mv 33 (.t 0)) <|
  .o none (.mv 34 (.t 7)) <|
  .o none (.mv 35 (.t 0)) <|
  .o none (.mv 36 (.t 7)) <|
  .o none (.bin 37 .sub false (.t 36) (.c (.int .i64 1))) <|
  .o none (.mv 38 (.t 0)) <|
  .o none (.mv 39 (.t 7)) <|
  .o none (.bin 40 .sub false (.t 39) (.c (.int .i64 1))) <|
  .o none (.idx 41 1 (.t 38) (.t 40)) <|
  .o none (.ld 42 1 false (.t 41)) <|
  .o none (.mv 43 (.t 0)) <|
  .o none (.mv 44 (.t 7)) <|
  .o none (.idx 45 1 (.t 43) (.t 44)) <|
  .o none (.ld 46 1 false (.t 45)) <|
  .o none (.idx 47 1 (.t 33) (.t 34)) <|
  .o none (.st 1 (.t 47) (.t 42)) <|
  .o none (.idx 48 1 (.t 35) (.t 37)) <|
  .o none (.st 1 (.t 48) (.t 46)) .nil))) <| .rg (.o none (.mv 31 (.t 7)) <|
  .o none (.bin 32 .sub false (.t 31) (.c (.int .i64 1))) <|
  .o none (.mv 7 (.t 32)) .nil))))) <| .rg (.o none (.mv 13 (.t 6)) <|
  .o none (.bin 14 .add false (.t 13) (.c (.int .i64 1))) <|
  .o none (.mv 6 (.t 14)) .nil)))⟩
theorem c171_ok : compileF Tryz.prog Tryz.f171 = some c171 := by kernel_rfl
def c177 : SFn := ⟨17, [.t 4], .seq (.rg (.o none (.mv 4 (.c (.bool false))) .nil)) <| .seq (.rg (.o none (.mv 5 (.t 0)) <|
  .o none (.call (some 6) false (.c (.fn 191 [] [])) [(.t 5)]) <|
  .o none (.mv 7 (.t 6)) <|
  .o (some (7, true)) (.mv 8 (.t 1)) <|
  .o (some (7, true)) (.call (some 9) false (.c (.fn 191 [] [])) [(.t 8)]) <|
  .o (some (7, true)) (.un 10 .not (.t 9)) <|
  .o none (.pick 11 (.t 7) (.t 10) (.c (.bool false))) <|
  .o none (.mv 12 (.t 11)) <|
  .o (some (12, false)) (.mv 13 (.t 0)) <|
  .o (some (12, false)) (.mv 14 (.t 1)) <|
  .o (some (12, false)) (.bin 15 .lss false (.t 13) (.t 14)) <|
  .o none (.pick 16 (.t 12) (.c (.bool true)) (.t 15)) <|
  .o none (.mv 4 (.t 16)) .nil)) <| .ret⟩
theorem c177_ok : compileF Tryz.prog Tryz.f177 = some c177 := by kernel_rfl
def c191 : SFn := ⟨6, [.t 2], .seq (.rg (.o none (.mv 2 (.c (.bool false))) .nil)) <| .seq (.rg (.o none (.mv 3 (.t 0)) <|
  .o none (.mv 4 (.t 0)) <|
  .o none (.bin 5 .neq false (.t 3) (.t 4)) <|
  .o none (.mv 2 (.t 5)) .nil)) <| .ret⟩
theorem c191_ok : compileF Tryz.prog Tryz.f191 = some c191 := by kernel_rfl
def c162 : SFn := ⟨8, [.t 2], .seq (.rg (.o none (.mv 2 (.c (.int .i64 0))) .nil)) <| .seq (.cond (.c (.bool false)) (.seq (.rg (.o none (.mv 3 (.t 0)) <|
  .o none (.conv 4 .u32 (.t 3)) <|
  .o none (.call (some 5) false (.c (.fn 180 [] [])) [(.t 4)]) <|
  .o none (.mv 2 (.t 5)) .nil)) <| .ret) (.skip)) <| .seq (.rg (.o none (.mv 6 (.t 0)) <|
  .o none (.call (some 7) false (.c (.fn 181 [] [])) [(.t 6)]) <|
  .o none (.mv 2 (.t 7)) .nil)) <| .ret⟩
theorem c162_ok : compileF Tryz.prog Tryz.f162 = some c162 := by kernel_rfl
end Go.Proofs.YtfhmockdgbkpnaaGreat
namespace Go.FW
open Go
variable {C : Ctx} {fr : Fr} {hp : HP} {w : World} {K R : Kont}
theorem app_nil_nil {e by_ ty d : Nat} (h0 : 0 < e) : appK e by_ ty .nilS (.sl e []) d fr hp K = K (upd (killF d fr) d (.ms d 0)) (updH hp d ⟨e, ty, [], false⟩) := by
  have := app_nil_eq (fr := fr) (hp := hp) (K := K) (e := e) (by_ := by_) (ty := ty) (d := d) (x := .sl e []) (ys := []) rfl h0 (by simp) (by simp)
  simpa using this
def plarge (p : List Tm) : Bool := decide (4000 < p.length) || p.any fun t => t.2.any fun x => decide (1048576 < x)
end Go.FW
namespace Go.FW
open Go
theorem padd_gt {m : List Int} {c : Rat} : ∀ {u v : List Tm}, (∀ t ∈ u, 0 < cmpM t.2 m) → (∀ t ∈ v, cmpM t.2 m < 0) → padd (u ++ v) [(c, m)] = u ++ (c, m) :: v
  | [], [], _, _ => by rw [List.nil_append, nil_padd]; rfl
  | [], t :: v, _, hv => by
    have h1 := hv t (by simp)
    rw [List.nil_append, padd_cons, if_neg (by show ¬ 0 < cmpM t.2 m; omega), if_pos (by exact h1), padd_nil]; rfl
  | t :: u, v, hu, hv => by
    rw [List.cons_append, padd_cons, if_pos (by exact hu t (by simp)), padd_gt (fun s hs => hu s (by simp [hs])) hv]; rfl
theorem padd_at {m : List Int} {c d : Rat} : ∀ {u v : List Tm}, (∀ t ∈ u, 0 < cmpM t.2 m) → padd (u ++ (d, m) :: v) [(c, m)] = u ++ (if d + c = 0 then [] else [(d + c, m)]) ++ v
  | [], v, _ => by
    have h0 := cmpM_self m
    rw [List.nil_append, padd_cons, if_neg (by show ¬ 0 < cmpM m m; omega), if_neg (by show ¬ cmpM m m < 0; omega)]
    show (if d + c = 0 then padd v [] else (d + c, m) :: padd v []) = _
    rw [padd_nil]
    split <;> rfl
  | t :: u, v, hu => by
    rw [List.cons_append, padd_cons, if_pos (by exact hu t (by simp)), padd_at (fun s hs => hu s (by simp [hs]))]; simp
def paddT (p : List Tm) (c : Rat) (m : List Int) : List Tm := padd p (if c = 0 then [] else [(c, m)])
theorem psorted_take {p : List Tm} (hs : PSorted p) : ∀ {i : Nat} (h : i < p.length), ∀ t ∈ p.take i, 0 < cmpM t.2 p[i].2 := by
  induction p with
  | nil => intro i h; simp at h
  | cons s p ih =>
    intro i h t ht
    cases i with
    | zero => simp at ht
    | succ i =>
      simp only [List.take_succ_cons, List.mem_cons] at ht
      have hi : i < p.length := by simpa using h
      show 0 < cmpM t.2 p[i].2
      rcases ht with rfl | ht
      · exact hs.1 _ (List.getElem_mem hi)
      · exact ih hs.2 hi t ht
theorem paddT_PB {K L E : Nat} {p : List Tm} {c : Rat} {m : List Int} (hp : PB K E p) (hc : rs c + 1 ≤ L) (hm : MB E m) (hl : m.getLast? ≠ some 0) : PB (K + L) E (paddT p c m) := by
  refine padd_PB _ _ hp ?_
  split
  · exact PB.nil _ _
  · intro t ht; simp only [List.mem_singleton] at ht; subst ht; exact ⟨hc, hm, hl⟩
theorem paddT_length (p : List Tm) (c : Rat) (m : List Int) : (paddT p c m).length ≤ p.length + 1 := by
  refine Nat.le_trans (padd_length _ _) ?_
  split <;> simp
theorem tm_nrm {c : Rat} {m : List Int} (hl : m.getLast? ≠ some 0) : Nrm (if c = 0 then [] else [(c, m)]) := by
  split
  · exact Nrm.nil
  · rename_i h; exact Nrm.one h hl
theorem paddT_nrm {p : List Tm} {c : Rat} {m : List Int} (hp : Nrm p) (hl : m.getLast? ≠ some 0) : Nrm (paddT p c m) := padd_nrm hp (tm_nrm hl)
theorem paddT_pev {φ : List Int → Rat} {p : List Tm} {c : Rat} {m : List Int} (hp : Can p) (hl : m.getLast? ≠ some 0) : pev φ (paddT p c m) = pev φ p + c * φ m := by
  rw [paddT, pev_padd hp (tm_nrm hl).c]
  split
  · rename_i h; rw [h, pev_nil]; grind
  · rw [pev_cons, pev_nil]; grind
def findI {α : Type} (g : α → Bool) (l : List α) : Int := match l.findIdx? g with
  | some i => i
  | none => -1
theorem findI_any {α : Type} (g : α → Bool) (l : List α) : decide (0 ≤ findI g l) = l.any g := by
  unfold findI
  cases h : l.findIdx? g with
  | none =>
    rw [List.findIdx?_eq_none_iff] at h
    symm
    show l.any g = decide ((0 : Int) ≤ -1)
    rw [show decide ((0 : Int) ≤ -1) = false from rfl, List.any_eq_false]
    intro x hx; simp [h x hx]
  | some i =>
    obtain ⟨hi, h1, _⟩ := List.findIdx?_eq_some_iff_getElem.1 h
    symm
    show l.any g = decide ((0 : Int) ≤ (i : Int))
    rw [decide_eq_true (by omega), List.any_eq_true]
    exact ⟨_, List.getElem_mem hi, h1⟩
theorem findI_at {α : Type} {g : α → Bool} {l : List α} {i : Nat} (hi : i < l.length) (h1 : g l[i] = true) (h2 : ∀ j (h : j < l.length), j < i → g l[j] = false) : findI g l = i := by
  unfold findI
  rw [List.findIdx?_eq_some_iff_getElem.2 ⟨hi, h1, fun j hj => by simp [h2 j (by omega) hj]⟩]
theorem findI_none {α : Type} {g : α → Bool} {l : List α} (h2 : ∀ j (h : j < l.length), g l[j] = false) : findI g l = -1 := by
  unfold findI
  rw [List.findIdx?_eq_none_iff.2 (fun x hx => by
    obtain ⟨j, hj, rfl⟩ := List.getElem_of_mem hx
    exact h2 j hj)]
end Go.FW
namespace Go.FW
open Go
theorem pnormR_aux : ∀ (ts : List Tm), (∀ t ∈ ts, t.2.getLast? ≠ some 0) → ∀ out, Nrm out → Nrm (ts.foldl (fun out t => paddT out t.1 t.2) out) ∧ ∀ φ, pev φ (ts.foldl (fun out t => paddT out t.1 t.2) out) = pev φ out + pev φ ts
  | [], _, out, ho => ⟨ho, fun φ => by rw [List.foldl_nil, pev_nil]; grind⟩
  | t :: ts, h, out, ho => by
    have hl := h t (by simp)
    obtain ⟨h1, h2⟩ := pnormR_aux ts (fun x hx => h x (by simp [hx])) (paddT out t.1 t.2) (paddT_nrm ho hl)
    refine ⟨h1, fun φ => ?_⟩
    rw [List.foldl_cons, h2, paddT_pev ho.c hl, pev_cons]; grind
end Go.FW
namespace Go.FW
open Go
end Go.FW
namespace Go.FW
open Go
end Go.FW
namespace Go.FW
open Go
abbrev Srt (l : List Int) : Prop := l.Pairwise (· ≤ ·)
theorem get_app {A R : List Int} {x : Int} {j : Nat} (h : A.length = j) (hl : j < (A ++ x :: R).length) : (A ++ x :: R)[j] = x := by
  subst h; simp
theorem get_app1 {A R : List Int} {a x : Int} {j : Nat} (h : A.length = j) (hl : j + 1 < (A ++ a :: x :: R).length) : (A ++ a :: x :: R)[j + 1] = x := by
  subst h; simp
theorem swap_app {A R : List Int} {a x : Int} {j : Nat} (h : A.length = j) : ((A ++ a :: x :: R).set (j + 1) a).set j x = A ++ x :: a :: R := by
  subst h
  rw [List.set_append_right _ _ (by omega), show A.length + 1 - A.length = 1 by omega, List.set_cons_succ, List.set_cons_zero, List.set_append_right _ _ (by omega), Nat.sub_self, List.set_cons_zero]
theorem srt_insert {A B : List Int} {x : Int} (hs : Srt (A ++ B)) (hA : ∀ a, A.getLast? = some a → a ≤ x) (hB : ∀ b ∈ B, x ≤ b) : Srt (A ++ x :: B) := by
  rw [Srt, List.pairwise_append] at hs ⊢
  obtain ⟨h1, h2, h3⟩ := hs
  have hAx : ∀ a ∈ A, a ≤ x := fun a ha => by
    rcases List.eq_nil_or_concat A with h | ⟨A', l, h⟩
    · subst h; cases ha
    · have h' : A = A' ++ [l] := by simpa using h
      subst h'
      have hl := hA l (by simp)
      rw [List.pairwise_append] at h1
      rcases List.mem_append.1 ha with ha | ha
      · have := h1.2.2 a ha l (by simp); omega
      · simp only [List.mem_singleton] at ha; subst ha; exact hl
  refine ⟨h1, List.pairwise_cons.2 ⟨hB, h2⟩, fun a ha b hb => ?_⟩
  rcases List.mem_cons.1 hb with rfl | hb
  · exact hAx a ha
  · exact h3 a ha b hb
end Go.FW
