/- PolyParts holds, for arguments of bulk at most 1048576. -/
import Derived.Test.YtfhmockdgbkpnaaGreatPolyPartsPart5
set_option linter.unusedSimpArgs false
set_option linter.unnecessarySimpa false
set_option linter.unusedVariables false
namespace Go.Proofs.YtfhmockdgbkpnaaGreat
open Go Go.FW
set_option linter.unusedSimpArgs false
set_option linter.unusedVariables false
set_option maxRecDepth 100000
theorem r6_Degree_spec {p : List Tm} {K E : Nat} (hp : PB K E p) (hE : E ≤ 2 ^ 38) (hlp : p.length ≤ 2 ^ 36) : FnSpec Tryz.prog 12 [PV.poly p] (· = .int .i64 (pdeg p)) := by
  refine fn_of_vc mixed Tryz.func12 rfl c12_ok (by simp [c12]) fun C hP => ?_; simp only [c12]
  simp +decide (disch := first | omega | rfl | (simp +decide only [go_sem, ↓reduceIte] <;> rfl) | fail) only [go_sem, ↓reduceIte, rem64K, quo64K, remI64K, quoI64K, mulK64, mk_empty, sl_3n, app_nil_map, mk_i64, max_nat]
  refine vc_loopF (by repeat (first | exact okSk_ret | exact okSk_retM | exact okSk_retO | apply okSk_back | apply okSk_out | apply okSk_eb | apply okSk_c | apply okSk_o | apply okSk_again | apply okSk_backW)) [(3, 18)] [] (fun n J hp => ∃ i, n = p.length - i ∧ i ≤ p.length ∧ J 3 = .int .i64 (pdeg (p.take i)) ∧ J 4 = .int .i64 (i : Nat)) p.length ?_ ?_
  · refine ⟨0, rfl, by omega, ?_⟩
    simp +decide (disch := first | omega | rfl | (simp +decide only [go_sem, ↓reduceIte] <;> rfl) | fail) only [go_sem, ↓reduceIte, rem64K, quo64K, remI64K, quoI64K, mulK64, mk_empty, sl_3n, app_nil_map, mk_i64, max_nat]
    simp [pdeg]
  rintro _ J h ⟨i, rfl, hi, h3, h4⟩
  simp +decide (disch := first | omega | rfl | (simp +decide only [go_sem, ↓reduceIte, h3, h4] <;> rfl) | fail) only [go_sem, ↓reduceIte, rem64K, quo64K, remI64K, quoI64K, mulK64, mk_empty, sl_3n, app_nil_map, mk_i64, max_nat, h3, h4]
  refine cond_split (fun hg => ?_) (fun hg => ?_)
  · have hi' : i < p.length := by omega
    have htp := hp.get hi'
    have htk := pdeg_take hi'
    generalize hx : p[i] = x at *
    have hl := htp.m.len
    have hd := degM_le htp.m
    simp +decide (disch := first | omega | rfl | (simp +decide only [go_sem, ↓reduceIte, h3, h4, hx] <;> rfl) | fail) only [go_sem, ↓reduceIte, rem64K, quo64K, remI64K, quoI64K, mulK64, mk_empty, sl_3n, app_nil_map, mk_i64, max_nat, h3, h4, hx]
    refine call_eq0 hP (r5_Degree_spec (a := x.2) (by omega) (fun y hy => ⟨htp.m.lo y hy, by have := htp.m.hi y hy; omega⟩)) rfl rfl rfl ?_
    simp +decide (disch := first | omega | rfl | (simp +decide only [go_sem, ↓reduceIte, h3, h4, hx] <;> rfl) | fail) only [go_sem, ↓reduceIte, rem64K, quo64K, remI64K, quoI64K, mulK64, mk_empty, sl_3n, app_nil_map, mk_i64, max_nat, h3, h4, hx]
    refine back_ovr (p.length - (i + 1)) (by omega) ⟨i + 1, rfl, by omega, ?_⟩
    rw [htk]
    simp +decide (disch := first | omega | rfl | (simp +decide only [go_sem, ↓reduceIte] <;> rfl) | fail) only [go_sem, ↓reduceIte, rem64K, quo64K, remI64K, quoI64K, mulK64, mk_empty, sl_3n, app_nil_map, mk_i64, max_nat]
  · obtain rfl : i = p.length := by omega
    rw [List.take_length] at h3
    simp +decide (disch := first | omega | rfl | (simp +decide only [go_sem, ↓reduceIte, h3] <;> rfl) | fail) only [go_sem, ↓reduceIte, rem64K, quo64K, remI64K, quoI64K, mulK64, mk_empty, sl_3n, app_nil_map, mk_i64, max_nat, h3]
    exact retV_eq rfl rfl
theorem r6_Lead_spec {p : List Tm} {o : Int} {K E : Nat} (hp : PB K E p) (h0 : 0 < p.length) (hE : E ≤ 2 ^ 38) (hlp : p.length ≤ 2 ^ 36) :
    FnSpec Tryz.prog 26 [PV.poly p, .int .i64 o] (· = .tup [PV.term (plead o p[0] p), .bool true]) := by
  have htk : p.take 1 = [p[0]] := by
    rw [List.take_succ_eq_append_getElem h0]; rfl
  have hlt := plead_one o p[0]
  have hb0 := hp.get h0
  refine fn_of_vc mixed Tryz.func26 rfl c26_ok (by simp [c26]) fun C hP => ?_; simp only [c26]
  simp +decide (disch := first | omega | rfl | (simp +decide only [go_sem, ↓reduceIte] <;> rfl) | fail) only [go_sem, ↓reduceIte, rem64K, quo64K, remI64K, quoI64K, mulK64, mk_empty, sl_3n, app_nil_map, mk_i64, max_nat]
  generalize hx0 : p[0] = x0 at *
  refine cond_split (fun h => by omega) (fun _ => ?_)
  simp +decide (disch := first | omega | rfl | (simp +decide only [go_sem, ↓reduceIte, hx0] <;> rfl) | fail) only [go_sem, ↓reduceIte, rem64K, quo64K, remI64K, quoI64K, mulK64, mk_empty, sl_3n, app_nil_map, mk_i64, max_nat, hx0]
  refine vc_loopF (by repeat (first | exact okSk_ret | exact okSk_retM | exact okSk_retO | apply okSk_back | apply okSk_out | apply okSk_eb | apply okSk_c | apply okSk_o | apply okSk_again | apply okSk_backW)) [(7, 7), (15, 34)] [] (fun n J hp => ∃ i, n = p.length - i ∧ i ≤ p.length ∧ 1 ≤ i ∧ J 7 = .int .i64 (i : Nat) ∧ hp 4 = some ⟨4, 49, [PV.agg [.bool false, .nilS, .nilS, .nilS]], false⟩ ∧ hp 6 = some ⟨4, 49, [PV.term (plead o x0 (p.take i))], false⟩) (p.length - 1) ?_ ?_
  · refine ⟨1, rfl, by omega, by omega, ?_⟩
    rw [htk, hlt]
    simp +decide (disch := first | omega | rfl | (simp +decide only [go_sem, ↓reduceIte] <;> rfl) | fail) only [go_sem, ↓reduceIte, rem64K, quo64K, remI64K, quoI64K, mulK64, mk_empty, sl_3n, app_nil_map, mk_i64, max_nat]
    simp
  rintro _ J h ⟨i, rfl, hi, hi1, h6, hh4, hh5⟩
  simp +decide (disch := first | omega | rfl | (simp +decide only [go_sem, ↓reduceIte, h6] <;> rfl) | fail) only [go_sem, ↓reduceIte, rem64K, quo64K, remI64K, quoI64K, mulK64, mk_empty, sl_3n, app_nil_map, mk_i64, max_nat, h6]
  refine cond_split (fun hg => ?_) (fun hg => ?_)
  · have hi' : i < p.length := by omega
    have htp := hp.get hi'
    have htk2 := plead_take (o := o) (t := x0) hi'
    have hbt := plead_TB (o := o) hb0 (hp.take i)
    generalize hx : p[i] = x at *
    generalize plead o x0 (p.take i) = y at *
    simp +decide (disch := first | omega | rfl | (simp +decide only [go_sem, ↓reduceIte, h6, hh5, hx] <;> rfl) | fail) only [go_sem, ↓reduceIte, rem64K, quo64K, remI64K, quoI64K, mulK64, mk_empty, sl_3n, app_nil_map, mk_i64, max_nat, h6, hh5, hx]
    refine call_eq0 hP (r5_Cmp_spec (o := o) htp.m hbt.m (by omega)) rfl rfl rfl ?_
    simp +decide (disch := first | omega | rfl | (simp +decide only [go_sem, ↓reduceIte, h6, hh5, hx] <;> rfl) | fail) only [go_sem, ↓reduceIte, rem64K, quo64K, remI64K, quoI64K, mulK64, mk_empty, sl_3n, app_nil_map, mk_i64, max_nat, h6, hh5, hx]
    refine cond_split (fun hc => ?_) (fun hc => ?_)
    · rw [if_pos hc] at htk2
      simp +decide (disch := first | omega | rfl | (simp +decide only [go_sem, ↓reduceIte, h6, hh5, hx] <;> rfl) | fail) only [go_sem, ↓reduceIte, rem64K, quo64K, remI64K, quoI64K, mulK64, mk_empty, sl_3n, app_nil_map, mk_i64, max_nat, h6, hh5, hx]
      refine back_ovr (p.length - (i + 1)) (by omega) ⟨i + 1, rfl, by omega, by omega, ?_⟩
      rw [htk2]
      simp +decide (disch := first | omega | rfl | (simp +decide only [go_sem, ↓reduceIte, hh4] <;> rfl) | fail) only [go_sem, ↓reduceIte, rem64K, quo64K, remI64K, quoI64K, mulK64, mk_empty, sl_3n, app_nil_map, mk_i64, max_nat, hh4]
    · rw [if_neg hc] at htk2
      simp +decide (disch := first | omega | rfl | (simp +decide only [go_sem, ↓reduceIte, h6, hh5, hx] <;> rfl) | fail) only [go_sem, ↓reduceIte, rem64K, quo64K, remI64K, quoI64K, mulK64, mk_empty, sl_3n, app_nil_map, mk_i64, max_nat, h6, hh5, hx]
      refine back_ovr (p.length - (i + 1)) (by omega) ⟨i + 1, rfl, by omega, by omega, ?_⟩
      rw [htk2]
      simp +decide (disch := first | omega | rfl | (simp +decide only [go_sem, ↓reduceIte, hh4, hh5] <;> rfl) | fail) only [go_sem, ↓reduceIte, rem64K, quo64K, remI64K, quoI64K, mulK64, mk_empty, sl_3n, app_nil_map, mk_i64, max_nat, hh4, hh5]
  · obtain rfl : i = p.length := by omega
    rw [List.take_length] at hh5
    simp +decide (disch := first | omega | rfl | (simp +decide only [go_sem, ↓reduceIte, hh4, hh5] <;> rfl) | fail) only [go_sem, ↓reduceIte, rem64K, quo64K, remI64K, quoI64K, mulK64, mk_empty, sl_3n, app_nil_map, mk_i64, max_nat, hh4, hh5]
    refine ret_2 ?_
    simp +decide (disch := first | omega | rfl | (simp +decide only [go_sem, ↓reduceIte] <;> rfl) | fail) only [go_sem, ↓reduceIte, rem64K, quo64K, remI64K, quoI64K, mulK64, mk_empty, sl_3n, app_nil_map, mk_i64, max_nat]
    exact ret2 rfl rfl rfl (le_refl _) (le_refl _)
theorem r6_Lead_nil {o : Int} : FnSpec Tryz.prog 26 [PV.poly [], .int .i64 o] (· = .tup [.agg [.bool false, PV.nat [], PV.nat [], PV.mono []], .bool false]) := by
  refine fn_of_vc mixed Tryz.func26 rfl c26_ok (by simp [c26]) fun C hP => ?_; simp only [c26]
  simp +decide (disch := first | omega | rfl | (simp +decide only [go_sem, ↓reduceIte] <;> rfl) | fail) only [go_sem, ↓reduceIte, rem64K, quo64K, remI64K, quoI64K, mulK64, mk_empty, sl_3n, app_nil_map, mk_i64, max_nat]
  refine ret_2 ?_
  simp +decide (disch := first | omega | rfl | (simp +decide only [go_sem, ↓reduceIte] <;> rfl) | fail) only [go_sem, ↓reduceIte, rem64K, quo64K, remI64K, quoI64K, mulK64, mk_empty, sl_3n, app_nil_map, mk_i64, max_nat]
  exact ret2 rfl rfl rfl ⟨rfl, trivial, trivial, trivial, trivial⟩ (le_refl _)
theorem r6_Vars_spec {p : List Tm} {E : Nat} (hp : ∀ t ∈ p, MB E t.2) (hlp : p.length ≤ 2 ^ 36) : FnSpec Tryz.prog 23 [PV.poly p] (· = PV.mono (pvars p)) := by
  refine fn_of_vc mixed Tryz.func23 rfl c23_ok (by simp [c23]) fun C hP => ?_; simp only [c23]
  simp +decide (disch := first | omega | rfl | (simp +decide only [go_sem, ↓reduceIte] <;> rfl) | fail) only [go_sem, ↓reduceIte, rem64K, quo64K, remI64K, quoI64K, mulK64, mk_empty, sl_3n, app_nil_map, mk_i64, max_nat]
  refine vc_nilF 3 900 1 3 (by omega) (by simp +decide (disch := first | omega | rfl | (simp +decide only [go_sem, ↓reduceIte] <;> rfl) | fail) only [go_sem, ↓reduceIte, rem64K, quo64K, remI64K, quoI64K, mulK64, mk_empty, sl_3n, app_nil_map, mk_i64, max_nat]) ?_
  refine vc_loopF (by repeat (first | exact okSk_ret | exact okSk_retM | exact okSk_retO | apply okSk_back | apply okSk_out | apply okSk_eb | apply okSk_c | apply okSk_o | apply okSk_again | apply okSk_backW)) [(3, 32)] [31, 32, 900] (fun n J hp => ∃ k, n = 64 - k ∧ k ≤ 64 ∧ J 3 = .ms 900 (pvarsN k (hasV p)).length ∧ J 4 = .int .i64 (k : Nat) ∧ hp 900 = some ⟨1, 3, i64s (pvarsN k (hasV p)), false⟩) 64 ?_ ?_
  · refine ⟨0, rfl, by omega, ?_⟩
    simp +decide (disch := first | omega | rfl | (simp +decide only [go_sem, ↓reduceIte] <;> rfl) | fail) only [go_sem, ↓reduceIte, rem64K, quo64K, remI64K, quoI64K, mulK64, mk_empty, sl_3n, app_nil_map, mk_i64, max_nat]
    exact ⟨rfl, rfl, rfl⟩
  rintro _ J h ⟨k, rfl, hk, h3, h4, hh⟩
  have hpl := pvarsN_length k (hasV p)
  have hps := pvarsN_succ k (hasV p)
  simp +decide (disch := first | omega | rfl | (simp +decide only [go_sem, ↓reduceIte, h3, h4] <;> rfl) | fail) only [go_sem, ↓reduceIte, rem64K, quo64K, remI64K, quoI64K, mulK64, mk_empty, sl_3n, app_nil_map, mk_i64, max_nat, h3, h4]
  refine cond_split (fun hg => ?_) (fun hg => ?_)
  · have hk' : k < 64 := by omega
    simp +decide (disch := first | omega | rfl | (simp +decide only [go_sem, ↓reduceIte, h3, h4] <;> rfl) | fail) only [go_sem, ↓reduceIte, rem64K, quo64K, remI64K, quoI64K, mulK64, mk_empty, sl_3n, app_nil_map, mk_i64, max_nat, h3, h4]
    refine vc_loopF (by repeat (first | exact okSk_ret | exact okSk_retM | exact okSk_retO | apply okSk_back | apply okSk_out | apply okSk_eb | apply okSk_c | apply okSk_o | apply okSk_again | apply okSk_backW)) [(5, 6), (11, 27)] [] (fun n J hp => ∃ i, n = p.length - i ∧ i ≤ p.length ∧ J 5 = .bool (hasV (p.take i) k) ∧ J 6 = .int .i64 (i : Nat) ∧ hp 900 = some ⟨1, 3, i64s (pvarsN k (hasV p)), false⟩) p.length ?_ ?_
    · refine ⟨0, rfl, by omega, ?_⟩
      simp +decide (disch := first | omega | rfl | (simp +decide only [go_sem, ↓reduceIte, hh] <;> rfl) | fail) only [go_sem, ↓reduceIte, rem64K, quo64K, remI64K, quoI64K, mulK64, mk_empty, sl_3n, app_nil_map, mk_i64, max_nat, hh]
      exact ⟨rfl, rfl⟩
    rintro _ J2 h2 ⟨i, rfl, hi, h5, h6, hh2⟩
    simp +decide (disch := first | omega | rfl | (simp +decide only [go_sem, ↓reduceIte, h5, h6] <;> rfl) | fail) only [go_sem, ↓reduceIte, rem64K, quo64K, remI64K, quoI64K, mulK64, mk_empty, sl_3n, app_nil_map, mk_i64, max_nat, h5, h6]
    refine cond_split (fun hg2 => ?_) (fun hg2 => ?_)
    · have hi' : i < p.length := by omega
      have htp := hp _ (List.getElem_mem hi')
      have htk := hasV_take hi' k
      generalize hx : p[i] = x at *
      have hml := htp.len
      have hlo := (htp.eN k).1
      cases hb : hasV (p.take i) k
      · rw [hb, Bool.false_or] at htk
        rw [hb] at h5
        simp +decide (disch := first | omega | rfl | (simp +decide only [go_sem, ↓reduceIte, h3, h4, h5, h6, hx] <;> rfl) | fail) only [go_sem, ↓reduceIte, rem64K, quo64K, remI64K, quoI64K, mulK64, mk_empty, sl_3n, app_nil_map, mk_i64, max_nat, h3, h4, h5, h6, hx]
        refine call_eq0 hP (r5_Exp_nat (by omega)) rfl rfl rfl ?_
        simp +decide (disch := first | omega | rfl | (simp +decide only [go_sem, ↓reduceIte, h3, h4, h5, h6, hx] <;> rfl) | fail) only [go_sem, ↓reduceIte, rem64K, quo64K, remI64K, quoI64K, mulK64, mk_empty, sl_3n, app_nil_map, mk_i64, max_nat, h3, h4, h5, h6, hx]
        refine back_ovr (p.length - (i + 1)) (by omega) ⟨i + 1, rfl, by omega, ?_⟩
        rw [htk, show decide (eN x.2 k ≠ 0) = decide (0 < eN x.2 k) from decide_eq_decide.2 (by omega)]
        simp +decide (disch := first | omega | rfl | (simp +decide only [go_sem, ↓reduceIte, hh2] <;> rfl) | fail) only [go_sem, ↓reduceIte, rem64K, quo64K, remI64K, quoI64K, mulK64, mk_empty, sl_3n, app_nil_map, mk_i64, max_nat, hh2]
      · rw [hb, Bool.true_or] at htk
        rw [hb] at h5
        simp +decide (disch := first | omega | rfl | (simp +decide only [go_sem, ↓reduceIte, h3, h4, h5, h6, hx] <;> rfl) | fail) only [go_sem, ↓reduceIte, rem64K, quo64K, remI64K, quoI64K, mulK64, mk_empty, sl_3n, app_nil_map, mk_i64, max_nat, h3, h4, h5, h6, hx]
        refine back_ovr (p.length - (i + 1)) (by omega) ⟨i + 1, rfl, by omega, ?_⟩
        rw [htk]
        simp +decide (disch := first | omega | rfl | (simp +decide only [go_sem, ↓reduceIte, hh2] <;> rfl) | fail) only [go_sem, ↓reduceIte, rem64K, quo64K, remI64K, quoI64K, mulK64, mk_empty, sl_3n, app_nil_map, mk_i64, max_nat, hh2]
    · obtain rfl : i = p.length := by omega
      rw [List.take_length] at h5
      simp +decide (disch := first | omega | rfl | (simp +decide only [go_sem, ↓reduceIte, h3, h4, h5, h6] <;> rfl) | fail) only [go_sem, ↓reduceIte, rem64K, quo64K, remI64K, quoI64K, mulK64, mk_empty, sl_3n, app_nil_map, mk_i64, max_nat, h3, h4, h5, h6]
      cases hb : hasV p k
      · rw [if_neg (by simp [hb]), List.append_nil] at hps
        simp +decide (disch := first | omega | rfl | (simp +decide only [go_sem, ↓reduceIte, h3, h4] <;> rfl) | fail) only [go_sem, ↓reduceIte, rem64K, quo64K, remI64K, quoI64K, mulK64, mk_empty, sl_3n, app_nil_map, mk_i64, max_nat, h3, h4]
        simp (disch := decide) only [killFs_nil, ovr_sub]
        refine back_ovr (64 - (k + 1)) (by omega) ⟨k + 1, rfl, by omega, ?_⟩
        rw [hps]
        simp +decide (disch := first | omega | rfl | (simp +decide only [go_sem, ↓reduceIte, hh2, h3] <;> rfl) | fail) only [go_sem, ↓reduceIte, rem64K, quo64K, remI64K, quoI64K, mulK64, mk_empty, sl_3n, app_nil_map, mk_i64, max_nat, hh2, h3]
      · rw [if_pos hb] at hps
        simp +decide (disch := first | omega | rfl | (simp +decide only [go_sem, ↓reduceIte, h3, h4] <;> rfl) | fail) only [go_sem, ↓reduceIte, rem64K, quo64K, remI64K, quoI64K, mulK64, mk_empty, sl_3n, app_nil_map, mk_i64, max_nat, h3, h4]
        rw [app_push_map (f := fun (x : Int) => .int .i64 x) (y := (k : Int)) (xs := pvarsN k (hasV p)) (ty' := 3) (fz := false) (by simp +decide (disch := first | omega | rfl | (simp +decide only [go_sem, ↓reduceIte, hh2] <;> rfl) | fail) only [go_sem, ↓reduceIte, rem64K, quo64K, remI64K, quoI64K, mulK64, mk_empty, sl_3n, app_nil_map, mk_i64, max_nat, hh2]) (by simp +decide (disch := first | omega | rfl | (simp +decide only [go_sem, ↓reduceIte] <;> rfl) | fail) only [go_sem, ↓reduceIte, rem64K, quo64K, remI64K, quoI64K, mulK64, mk_empty, sl_3n, app_nil_map, mk_i64, max_nat] <;> rfl) (by omega) rfl (by omega) (by omega)]
        simp +decide (disch := first | omega | rfl | (simp +decide only [go_sem, ↓reduceIte, h3, h4] <;> rfl) | fail) only [go_sem, ↓reduceIte, rem64K, quo64K, remI64K, quoI64K, mulK64, mk_empty, sl_3n, app_nil_map, mk_i64, max_nat, h3, h4]
        simp (disch := decide) only [killFs_nil, ovr_sub]
        refine back_ovr (64 - (k + 1)) (by omega) ⟨k + 1, rfl, by omega, ?_⟩
        rw [hps]
        simp +decide (disch := first | omega | rfl | (simp +decide only [go_sem, ↓reduceIte, List.length_append] <;> rfl) | fail) only [go_sem, ↓reduceIte, rem64K, quo64K, remI64K, quoI64K, mulK64, mk_empty, sl_3n, app_nil_map, mk_i64, max_nat, List.length_append]
  · obtain rfl : k = 64 := by omega
    simp +decide (disch := first | omega | rfl | (simp +decide only [go_sem, ↓reduceIte, h3, hh, looks3, List.contains_cons, List.contains_nil, List.flatMap_cons, List.flatMap_nil, List.append_nil] <;> rfl) | fail) only [go_sem, ↓reduceIte, rem64K, quo64K, remI64K, quoI64K, mulK64, mk_empty, sl_3n, app_nil_map, mk_i64, max_nat, h3, hh, looks3, List.contains_cons, List.contains_nil, List.flatMap_cons, List.flatMap_nil, List.append_nil]
    exact retV_eq (by rw [List.take_of_length_le (by simp)]; rfl) rfl
end Go.Proofs.YtfhmockdgbkpnaaGreat
namespace Go.Proofs.YtfhmockdgbkpnaaGreat
open Go Go.FW
set_option linter.unusedSimpArgs false
set_option linter.unusedVariables false
set_option maxRecDepth 100000
theorem p_Vars_spec {p : List Tm} {E : Nat} (hp : ∀ t ∈ p, MB E t.2) (hlp : p.length ≤ 2 ^ 36) : FnSpec Tryz.prog 22 [PV.poly p] (· = PV.mono (pvars p)) := by
  refine fn_of_vc mixed Tryz.func22 rfl c22_ok (by simp [c22]) fun C hP => ?_; simp only [c22]
  simp +decide (disch := first | omega | rfl | (simp +decide only [go_sem, ↓reduceIte] <;> rfl) | fail) only [go_sem, ↓reduceIte, mk_empty, sl_3n, app_nil_map, mk_i64, max_nat]
  refine vc_loopF (by repeat (first | exact okSk_ret | exact okSk_retM | exact okSk_retO | apply okSk_back | apply okSk_out | apply okSk_eb | apply okSk_c | apply okSk_o | apply okSk_again)) [(5, 7), (13, 34)] [5] (fun n J hp => ∃ i, n = p.length - i ∧ i ≤ p.length ∧ J 13 = .int .i64 (i : Nat) ∧ hp 3 = some ⟨64, 76, [.agg ((rowB 64 (hasV (p.take i))).map PV.bool)], false⟩) p.length ?_ ?_
  · refine ⟨0, rfl, by omega, ?_⟩
    simp +decide (disch := first | omega | rfl | (simp +decide only [go_sem, ↓reduceIte] <;> rfl) | fail) only [go_sem, ↓reduceIte, mk_empty, sl_3n, app_nil_map, mk_i64, max_nat]
    exact ⟨rfl, rfl⟩
  rintro _ J h ⟨i, rfl, hi, h13, hh⟩
  simp +decide (disch := first | omega | rfl | (simp +decide only [go_sem, ↓reduceIte, h13] <;> rfl) | fail) only [go_sem, ↓reduceIte, mk_empty, sl_3n, app_nil_map, mk_i64, max_nat, h13]
  refine cond_split (fun hg => ?_) (fun hg => ?_)
  · have hi' : i < p.length := by omega
    have htp := hp _ (List.getElem_mem hi')
    have htk := hasV_take hi'
    generalize hx : p[i] = x at *
    have hml := htp.len
    simp +decide (disch := first | omega | rfl | (simp +decide only [go_sem, ↓reduceIte, h13, hx] <;> rfl) | fail) only [go_sem, ↓reduceIte, mk_empty, sl_3n, app_nil_map, mk_i64, max_nat, h13, hx]
    refine vc_loopF (by repeat (first | exact okSk_ret | exact okSk_retM | exact okSk_retO | apply okSk_back | apply okSk_out | apply okSk_eb | apply okSk_c | apply okSk_o | apply okSk_again)) [(6, 7), (20, 33)] [] (fun n J hp => ∃ j, n = x.2.length - j ∧ j ≤ x.2.length ∧ J 20 = .int .i64 (j : Nat) ∧ hp 3 = some ⟨64, 76, [.agg ((rowB 64 (fun v => hasV (p.take i) v || (decide (v < j) && decide (eN x.2 v ≠ 0)))).map PV.bool)], false⟩) x.2.length ?_ ?_
    · refine ⟨0, rfl, by omega, ?_⟩
      simp +decide (disch := first | omega | rfl | (simp +decide only [go_sem, ↓reduceIte, hh] <;> rfl) | fail) only [go_sem, ↓reduceIte, mk_empty, sl_3n, app_nil_map, mk_i64, max_nat, hh]
      exact ⟨rfl, by simp⟩
    rintro _ J2 h2 ⟨j, rfl, hj, h20, hh2⟩
    simp +decide (disch := first | omega | rfl | (simp +decide only [go_sem, ↓reduceIte, h20] <;> rfl) | fail) only [go_sem, ↓reduceIte, mk_empty, sl_3n, app_nil_map, mk_i64, max_nat, h20]
    refine cond_split (fun hg2 => ?_) (fun hg2 => ?_)
    · have hj' : j < x.2.length := by omega
      have he := eN_lt hj'
      generalize hy : x.2[j] = y at *
      simp +decide (disch := first | omega | rfl | (simp +decide only [go_sem, ↓reduceIte, h20, hy] <;> rfl) | fail) only [go_sem, ↓reduceIte, mk_empty, sl_3n, app_nil_map, mk_i64, max_nat, h20, hy]
      refine guard_split (fun hz => ?_) (fun hz => ?_)
      · simp +decide (disch := first | omega | rfl | (simp +decide only [go_sem, ↓reduceIte, h20, hy] <;> rfl) | fail) only [go_sem, ↓reduceIte, mk_empty, sl_3n, app_nil_map, mk_i64, max_nat, h20, hy]
        refine cond_split (fun _ => ?_) (fun h => by omega)
        simp +decide (disch := first | omega | rfl | (simp +decide only [go_sem, ↓reduceIte, h20, hy, hh2, idxA_mp (show j < 64 by omega), Nat.mul_one] <;> rfl) | fail) only [go_sem, ↓reduceIte, mk_empty, sl_3n, app_nil_map, mk_i64, max_nat, h20, hy, hh2, idxA_mp (show j < 64 by omega), Nat.mul_one]
        refine back_ovr (x.2.length - (j + 1)) (by omega) ⟨j + 1, rfl, by omega, ?_⟩
        have hset := rowB_set (n := 64) (h := fun v => hasV (p.take i) v || (decide (v < j) && decide (eN x.2 v ≠ 0))) (g := fun v => hasV (p.take i) v || (decide (v < j + 1) && decide (eN x.2 v ≠ 0))) (show j < 64 by omega) (fun v hv => by
          by_cases hvj : v = j
          · subst hvj
            simp [he, hz]
          · rw [if_neg hvj, decide_eq_decide.2 (show v < j + 1 ↔ v < j by omega)])
        rw [← hset]
        simp +decide (disch := first | omega | rfl | (simp +decide only [go_sem, ↓reduceIte] <;> rfl) | fail) only [go_sem, ↓reduceIte, mk_empty, sl_3n, app_nil_map, mk_i64, max_nat]
      · simp +decide (disch := first | omega | rfl | (simp +decide only [go_sem, ↓reduceIte, h20, hy] <;> rfl) | fail) only [go_sem, ↓reduceIte, mk_empty, sl_3n, app_nil_map, mk_i64, max_nat, h20, hy]
        refine back_ovr (x.2.length - (j + 1)) (by omega) ⟨j + 1, rfl, by omega, ?_⟩
        have hc := rowB_congr (n := 64) (h := fun v => hasV (p.take i) v || (decide (v < j + 1) && decide (eN x.2 v ≠ 0))) (g := fun v => hasV (p.take i) v || (decide (v < j) && decide (eN x.2 v ≠ 0))) (fun v hv => by
          by_cases hvj : v = j
          · subst hvj
            simp [he, Decidable.not_not.1 hz]
          · show (_ || _) = _
            rw [decide_eq_decide.2 (show v < j + 1 ↔ v < j by omega)])
        rw [hc]
        simp +decide (disch := first | omega | rfl | (simp +decide only [go_sem, ↓reduceIte, hh2] <;> rfl) | fail) only [go_sem, ↓reduceIte, mk_empty, sl_3n, app_nil_map, mk_i64, max_nat, hh2]
    · obtain rfl : j = x.2.length := by omega
      have hc := rowB_congr (n := 64) (h := hasV (p.take (i + 1))) (g := fun v => hasV (p.take i) v || (decide (v < x.2.length) && decide (eN x.2 v ≠ 0))) (fun v hv => by
        rw [htk]
        by_cases hvj : v < x.2.length
        · simp [hvj]
        · rw [eN_ge (by omega)]; simp)
      simp +decide (disch := first | omega | rfl | (simp +decide only [go_sem, ↓reduceIte, h13, h20] <;> rfl) | fail) only [go_sem, ↓reduceIte, mk_empty, sl_3n, app_nil_map, mk_i64, max_nat, h13, h20]
      simp (disch := decide) only [killFs_nil, ovr_sub]
      refine back_ovr (p.length - (i + 1)) (by omega) ⟨i + 1, rfl, by omega, ?_⟩
      rw [hc]
      simp +decide (disch := first | omega | rfl | (simp +decide only [go_sem, ↓reduceIte, hh2] <;> rfl) | fail) only [go_sem, ↓reduceIte, mk_empty, sl_3n, app_nil_map, mk_i64, max_nat, hh2]
  · obtain rfl : i = p.length := by omega
    rw [List.take_length] at hh
    have htb := take_bools (rowB_length 64 (hasV p))
    simp +decide (disch := first | omega | rfl | (simp +decide only [go_sem, ↓reduceIte, h13, hh, htb] <;> rfl) | fail) only [go_sem, ↓reduceIte, mk_empty, sl_3n, app_nil_map, mk_i64, max_nat, h13, hh, htb]
    refine vc_nilF 8 900 1 3 (by omega) (by simp +decide (disch := first | omega | rfl | (simp +decide only [go_sem, ↓reduceIte] <;> rfl) | fail) only [go_sem, ↓reduceIte, mk_empty, sl_3n, app_nil_map, mk_i64, max_nat]) ?_
    refine vc_loopF (by repeat (first | exact okSk_ret | exact okSk_retM | exact okSk_retO | apply okSk_back | apply okSk_out | apply okSk_eb | apply okSk_c | apply okSk_o | apply okSk_again)) [(8, 10), (36, 45)] [43, 44, 900] (fun n J hp => ∃ k, n = 64 - k ∧ k ≤ 64 ∧ J 8 = .ms 900 (pvarsN k (hasV p)).length ∧ J 36 = .int .i64 (k : Nat) ∧ hp 900 = some ⟨1, 3, i64s (pvarsN k (hasV p)), false⟩) 64 ?_ ?_
    · refine ⟨0, rfl, by omega, ?_⟩
      simp +decide (disch := first | omega | rfl | (simp +decide only [go_sem, ↓reduceIte] <;> rfl) | fail) only [go_sem, ↓reduceIte, mk_empty, sl_3n, app_nil_map, mk_i64, max_nat]
      exact ⟨rfl, rfl, rfl⟩
    rintro _ J3 h3 ⟨k, rfl, hk, h8, h36, hh3⟩
    have hpl := pvarsN_length k (hasV p)
    have hps := pvarsN_succ k (hasV p)
    simp +decide (disch := first | omega | rfl | (simp +decide only [go_sem, ↓reduceIte, h8, h36] <;> rfl) | fail) only [go_sem, ↓reduceIte, mk_empty, sl_3n, app_nil_map, mk_i64, max_nat, h8, h36]
    refine cond_split (fun hg3 => ?_) (fun hg3 => ?_)
    · have hk' : k < 64 := by omega
      have hrl : k < (rowB 64 (hasV p)).length := by rw [rowB_length]; exact hk'
      have hrg := rowB_get hrl
      simp +decide (disch := first | omega | rfl | (simp +decide only [go_sem, ↓reduceIte, h8, h36, ixv_bool (rowB_length 64 (hasV p)) hrl, hrg] <;> rfl) | fail) only [go_sem, ↓reduceIte, mk_empty, sl_3n, app_nil_map, mk_i64, max_nat, h8, h36, ixv_bool (rowB_length 64 (hasV p)) hrl, hrg]
      cases hb : hasV p k
      · rw [if_neg (by simp [hb]), List.append_nil] at hps
        simp +decide (disch := first | omega | rfl | (simp +decide only [go_sem, ↓reduceIte, h8, h36] <;> rfl) | fail) only [go_sem, ↓reduceIte, mk_empty, sl_3n, app_nil_map, mk_i64, max_nat, h8, h36]
        refine back_ovr (64 - (k + 1)) (by omega) ⟨k + 1, rfl, by omega, ?_⟩
        rw [hps]
        simp +decide (disch := first | omega | rfl | (simp +decide only [go_sem, ↓reduceIte, hh3, h8] <;> rfl) | fail) only [go_sem, ↓reduceIte, mk_empty, sl_3n, app_nil_map, mk_i64, max_nat, hh3, h8]
      · rw [if_pos hb] at hps
        simp +decide (disch := first | omega | rfl | (simp +decide only [go_sem, ↓reduceIte, h8, h36] <;> rfl) | fail) only [go_sem, ↓reduceIte, mk_empty, sl_3n, app_nil_map, mk_i64, max_nat, h8, h36]
        rw [app_push_map (f := fun (x : Int) => .int .i64 x) (y := (k : Int)) (xs := pvarsN k (hasV p)) (ty' := 3) (fz := false) (by simp +decide (disch := first | omega | rfl | (simp +decide only [go_sem, ↓reduceIte, hh3] <;> rfl) | fail) only [go_sem, ↓reduceIte, mk_empty, sl_3n, app_nil_map, mk_i64, max_nat, hh3]) (by simp +decide (disch := first | omega | rfl | (simp +decide only [go_sem, ↓reduceIte] <;> rfl) | fail) only [go_sem, ↓reduceIte, mk_empty, sl_3n, app_nil_map, mk_i64, max_nat] <;> rfl) (by omega) rfl (by omega) (by omega)]
        simp +decide (disch := first | omega | rfl | (simp +decide only [go_sem, ↓reduceIte, h8, h36] <;> rfl) | fail) only [go_sem, ↓reduceIte, mk_empty, sl_3n, app_nil_map, mk_i64, max_nat, h8, h36]
        refine back_ovr (64 - (k + 1)) (by omega) ⟨k + 1, rfl, by omega, ?_⟩
        rw [hps]
        simp +decide (disch := first | omega | rfl | (simp +decide only [go_sem, ↓reduceIte, List.length_append] <;> rfl) | fail) only [go_sem, ↓reduceIte, mk_empty, sl_3n, app_nil_map, mk_i64, max_nat, List.length_append]
    · obtain rfl : k = 64 := by omega
      simp +decide (disch := first | omega | rfl | (simp +decide only [go_sem, ↓reduceIte, h8, hh3, looks3, List.contains_cons, List.contains_nil, List.flatMap_cons, List.flatMap_nil, List.append_nil] <;> rfl) | fail) only [go_sem, ↓reduceIte, mk_empty, sl_3n, app_nil_map, mk_i64, max_nat, h8, hh3, looks3, List.contains_cons, List.contains_nil, List.flatMap_cons, List.flatMap_nil, List.append_nil]
      exact retV_eq (by rw [List.take_of_length_le (by simp)]; rfl) rfl
end Go.Proofs.YtfhmockdgbkpnaaGreat
namespace Go.Proofs.YtfhmockdgbkpnaaGreat
open Go Go.FW
set_option linter.unusedSimpArgs false
set_option linter.unusedVariables false
set_option maxRecDepth 100000
theorem pvars_len (p : List Tm) : (pvars p).length ≤ 64 := pvarsN_length _ _
theorem r5_Same_self {a : List Int} (h : a.length < 2 ^ 43) : FnSpec Tryz.prog 27 [PV.mono a, PV.mono a] (· = .bool true) := by
  have := r5_Same_spec h h
  rwa [decide_eq_true rfl] at this
theorem r3_Same_self {n : Bool} {a d : List Nat} {k : Nat} (h : Raw k n a d) (hk : k < 2 ^ 36) : FnSpec Tryz.prog 21 [PV.rr n a d, PV.rr n a d] (· = .bool true) := by
  have := r3_Same_spec h h hk
  rwa [decide_eq_true (show (n = n ∧ a = a) ∧ d = d from ⟨⟨rfl, rfl⟩, rfl⟩)] at this
theorem PolyParts_walk {p : List RTm} {o : Int} {k : Nat} (hb : ∀ t ∈ p, RB k t) (hk1 : 1 ≤ k) (hk : k < 2 ^ 36) (hl : p.length < 2 ^ 40) :
    FnSpec Tryz.prog 5 [PV.rpoly p, .int .i64 o] (· = .bool true) := by
  refine fn_of_vc mixed Tryz.func5 rfl c5_ok (by simp [c5]) fun C hP => ?_; simp only [c5]
  simp +decide (disch := first | omega | rfl | (simp +decide only [go_sem, ↓reduceIte] <;> rfl) | fail) only [go_sem, ↓reduceIte, rem64K, quo64K, remI64K, quoI64K, mulK64, mk_empty, sl_3n, app_nil_map, mk_i64, max_nat]
  refine call_eq0 hP (r6_Small_spec (n := 8) (v := 64) (e := (1048576 : Nat)) hb hk1 hk hl) rfl rfl rfl ?_
  simp +decide (disch := first | omega | rfl | (simp +decide only [go_sem, ↓reduceIte] <;> rfl) | fail) only [go_sem, ↓reduceIte, rem64K, quo64K, remI64K, quoI64K, mulK64, mk_empty, sl_3n, app_nil_map, mk_i64, max_nat]
  cases hsm : small 8 64 (1048576 : Nat) p
  · simp +decide (disch := first | omega | rfl | (simp +decide only [go_sem, ↓reduceIte] <;> rfl) | fail) only [go_sem, ↓reduceIte, rem64K, quo64K, remI64K, quoI64K, mulK64, mk_empty, sl_3n, app_nil_map, mk_i64, max_nat]
    refine call_eq0 hP alive_spec rfl rfl rfl ?_
    simp +decide (disch := first | omega | rfl | (simp +decide only [go_sem, ↓reduceIte] <;> rfl) | fail) only [go_sem, ↓reduceIte, rem64K, quo64K, remI64K, quoI64K, mulK64, mk_empty, sl_3n, app_nil_map, mk_i64, max_nat]
    exact retV_eq rfl rfl
  obtain ⟨_, e1, _, v1, b1, l1⟩ := small_spec hb hsm
  rw [e1]
  clear e1
  generalize p.map RTm.tm = P at *
  have hm : ∀ t ∈ P, MB 1048576 t.2 := fun t ht => (b1 t ht).m
  have hvl := pvars_len P
  simp +decide (disch := first | omega | rfl | (simp +decide only [go_sem, ↓reduceIte] <;> rfl) | fail) only [go_sem, ↓reduceIte, rem64K, quo64K, remI64K, quoI64K, mulK64, mk_empty, sl_3n, app_nil_map, mk_i64, max_nat]
  refine call_eq0 hP (p_Vars_spec hm (by omega)) rfl rfl rfl ?_
  simp +decide (disch := first | omega | rfl | (simp +decide only [go_sem, ↓reduceIte] <;> rfl) | fail) only [go_sem, ↓reduceIte, rem64K, quo64K, remI64K, quoI64K, mulK64, mk_empty, sl_3n, app_nil_map, mk_i64, max_nat]
  refine call_eq0 hP (r6_Vars_spec hm (by omega)) rfl rfl rfl ?_
  simp +decide (disch := first | omega | rfl | (simp +decide only [go_sem, ↓reduceIte] <;> rfl) | fail) only [go_sem, ↓reduceIte, rem64K, quo64K, remI64K, quoI64K, mulK64, mk_empty, sl_3n, app_nil_map, mk_i64, max_nat]
  refine call_eq0 hP (p_Degree_spec b1 (by omega) (by omega)) rfl rfl rfl ?_
  simp +decide (disch := first | omega | rfl | (simp +decide only [go_sem, ↓reduceIte] <;> rfl) | fail) only [go_sem, ↓reduceIte, rem64K, quo64K, remI64K, quoI64K, mulK64, mk_empty, sl_3n, app_nil_map, mk_i64, max_nat]
  refine call_eq0 hP (r6_Degree_spec b1 (by omega) (by omega)) rfl rfl rfl ?_
  simp +decide (disch := first | omega | rfl | (simp +decide only [go_sem, ↓reduceIte, not_true_eq_false] <;> rfl) | fail) only [go_sem, ↓reduceIte, rem64K, quo64K, remI64K, quoI64K, mulK64, mk_empty, sl_3n, app_nil_map, mk_i64, max_nat, not_true_eq_false]
  generalize pvars P = V at *
  refine vc_loopF (by repeat (first | exact okSk_ret | exact okSk_retM | exact okSk_retO | apply okSk_back | apply okSk_out | apply okSk_eb | apply okSk_c | apply okSk_o | apply okSk_again | apply okSk_backW)) [(4, 4), (7, 7), (32, 46)] [] (fun n J hp => ∃ i, n = V.length - i ∧ i ≤ V.length ∧ J 7 = .int .i64 (i : Nat) ∧ hp = hp0) V.length ?_ ?_
  · refine ⟨0, rfl, by omega, ?_⟩
    simp +decide (disch := first | omega | rfl | (simp +decide only [go_sem, ↓reduceIte] <;> rfl) | fail) only [go_sem, ↓reduceIte, rem64K, quo64K, remI64K, quoI64K, mulK64, mk_empty, sl_3n, app_nil_map, mk_i64, max_nat]
    exact rfl
  rintro _ J _ ⟨i, rfl, hi, h7, rfl⟩
  simp +decide (disch := first | omega | rfl | (simp +decide only [go_sem, ↓reduceIte, h7] <;> rfl) | fail) only [go_sem, ↓reduceIte, rem64K, quo64K, remI64K, quoI64K, mulK64, mk_empty, sl_3n, app_nil_map, mk_i64, max_nat, h7]
  refine cond_split (fun hg => ?_) (fun hg => ?_)
  · have hi' : i < V.length := by omega
    generalize hx : V[i] = x at *
    simp +decide (disch := first | omega | rfl | (simp +decide only [go_sem, ↓reduceIte, h7, hx, not_true_eq_false] <;> rfl) | fail) only [go_sem, ↓reduceIte, rem64K, quo64K, remI64K, quoI64K, mulK64, mk_empty, sl_3n, app_nil_map, mk_i64, max_nat, h7, hx, not_true_eq_false]
    refine back_ovr (V.length - (i + 1)) (by omega) ⟨i + 1, rfl, by omega, ?_⟩
    simp +decide (disch := first | omega | rfl | (simp +decide only [go_sem, ↓reduceIte] <;> rfl) | fail) only [go_sem, ↓reduceIte, rem64K, quo64K, remI64K, quoI64K, mulK64, mk_empty, sl_3n, app_nil_map, mk_i64, max_nat]
  · obtain rfl : i = V.length := by omega
    by_cases h0 : P = []
    · subst h0
      have hraw : Raw 5 false [] [] := ⟨by simp [limbs], by simp [limbs], by simp, by simp, by omega⟩
      have hml : ([] : List Int).length < 2 ^ 43 := by simp
      simp +decide (disch := first | omega | rfl | (simp +decide only [go_sem, ↓reduceIte] <;> rfl) | fail) only [go_sem, ↓reduceIte, rem64K, quo64K, remI64K, quoI64K, mulK64, mk_empty, sl_3n, app_nil_map, mk_i64, max_nat]
      refine call_eq0 hP p_Lead_nil rfl rfl rfl ?_
      simp +decide (disch := first | omega | rfl | (simp +decide only [go_sem, ↓reduceIte] <;> rfl) | fail) only [go_sem, ↓reduceIte, rem64K, quo64K, remI64K, quoI64K, mulK64, mk_empty, sl_3n, app_nil_map, mk_i64, max_nat]
      refine call_eq0 hP r6_Lead_nil rfl rfl rfl ?_
      simp +decide (disch := first | omega | rfl | (simp +decide only [go_sem, ↓reduceIte, beq_self_eq_true] <;> rfl) | fail) only [go_sem, ↓reduceIte, rem64K, quo64K, remI64K, quoI64K, mulK64, mk_empty, sl_3n, app_nil_map, mk_i64, max_nat, beq_self_eq_true]
      refine call_eq0 hP (r5_Same_self hml) rfl rfl rfl ?_
      simp +decide (disch := first | omega | rfl | (simp +decide only [go_sem, ↓reduceIte] <;> rfl) | fail) only [go_sem, ↓reduceIte, rem64K, quo64K, remI64K, quoI64K, mulK64, mk_empty, sl_3n, app_nil_map, mk_i64, max_nat]
      refine call_eq0 hP (r3_Same_self hraw (by omega)) rfl rfl rfl ?_
      simp +decide (disch := first | omega | rfl | (simp +decide only [go_sem, ↓reduceIte] <;> rfl) | fail) only [go_sem, ↓reduceIte, rem64K, quo64K, remI64K, quoI64K, mulK64, mk_empty, sl_3n, app_nil_map, mk_i64, max_nat]
      refine call_eq0 hP alive_spec rfl rfl rfl ?_
      simp +decide (disch := first | omega | rfl | (simp +decide only [go_sem, ↓reduceIte] <;> rfl) | fail) only [go_sem, ↓reduceIte, rem64K, quo64K, remI64K, quoI64K, mulK64, mk_empty, sl_3n, app_nil_map, mk_i64, max_nat]
      exact retV_eq rfl rfl
    · have h0' : 0 < P.length := List.length_pos_iff.2 h0
      have hbt := plead_TB (o := o) (b1.get h0') b1
      simp +decide (disch := first | omega | rfl | (simp +decide only [go_sem, ↓reduceIte] <;> rfl) | fail) only [go_sem, ↓reduceIte, rem64K, quo64K, remI64K, quoI64K, mulK64, mk_empty, sl_3n, app_nil_map, mk_i64, max_nat]
      refine call_eq0 hP (p_Lead_spec b1 h0' (by omega) (by omega)) rfl rfl rfl ?_
      simp +decide (disch := first | omega | rfl | (simp +decide only [go_sem, ↓reduceIte] <;> rfl) | fail) only [go_sem, ↓reduceIte, rem64K, quo64K, remI64K, quoI64K, mulK64, mk_empty, sl_3n, app_nil_map, mk_i64, max_nat]
      refine call_eq0 hP (r6_Lead_spec b1 h0' (by omega) (by omega)) rfl rfl rfl ?_
      generalize plead o P[0] P = T at *
      have hml : T.2.length < 2 ^ 43 := by have := hbt.m.len; omega
      have hc := hbt.c
      have hraw := raw_of (q := T.1) (k := 5) (by omega)
      simp +decide (disch := first | omega | rfl | (simp +decide only [go_sem, ↓reduceIte, beq_self_eq_true] <;> rfl) | fail) only [go_sem, ↓reduceIte, rem64K, quo64K, remI64K, quoI64K, mulK64, mk_empty, sl_3n, app_nil_map, mk_i64, max_nat, beq_self_eq_true]
      refine call_eq0 hP (r5_Same_self hml) rfl rfl rfl ?_
      simp +decide (disch := first | omega | rfl | (simp +decide only [go_sem, ↓reduceIte] <;> rfl) | fail) only [go_sem, ↓reduceIte, rem64K, quo64K, remI64K, quoI64K, mulK64, mk_empty, sl_3n, app_nil_map, mk_i64, max_nat]
      refine call_eq0 hP (r3_Same_self hraw (by omega)) rfl rfl rfl ?_
      simp +decide (disch := first | omega | rfl | (simp +decide only [go_sem, ↓reduceIte] <;> rfl) | fail) only [go_sem, ↓reduceIte, rem64K, quo64K, remI64K, quoI64K, mulK64, mk_empty, sl_3n, app_nil_map, mk_i64, max_nat]
      refine call_eq0 hP alive_spec rfl rfl rfl ?_
      simp +decide (disch := first | omega | rfl | (simp +decide only [go_sem, ↓reduceIte] <;> rfl) | fail) only [go_sem, ↓reduceIte, rem64K, quo64K, remI64K, quoI64K, mulK64, mk_empty, sl_3n, app_nil_map, mk_i64, max_nat]
      exact retV_eq rfl rfl
theorem PolyParts_all {p : List RTm} {o : Int} (hp : RPoly p) (ho : -9223372036854775808 ≤ o ∧ o ≤ 9223372036854775807) : FnSpec Tryz.prog 5 [PV.rpoly p, .int .i64 o] (· = .bool true) :=
  PolyParts_walk (k := 1048576) (fun t ht => (hp.2 t ht).1) (by omega) (by omega) (by have := hp.1; omega)
end Go.Proofs.YtfhmockdgbkpnaaGreat
namespace Go.Proofs.YtfhmockdgbkpnaaGreat
open Go Go.FW Go.ChangeShapes Go.WideShapes Go.ChangeAt Go.RowKit
set_option linter.unusedSimpArgs false
set_option linter.unusedVariables false
set_option maxRecDepth 100000
theorem polyParts_contract (H : Type) (enc : TypeId × Value → H) (W : World) (base : Nat) (args : Array Value) (ds gs : List (DataW H)) (before : List MemPlace)
    (hval : ∀ (j : Nat) t v, Tryz.f5.params[j]? = some t → args[j]? = some v → Value.okWide Tryz.prog W .any base t v)
    (hW : DataW.Whole enc Tryz.prog Tryz.f5.params.toList Rows.polyPartsSpec.vars false W args.toList ds gs before) (hk : Rows.uptoSmall H (ds ++ gs) = true) :
    Calls Tryz.prog 5 args W fun e W' => ∃ v, e = .returned v ∧ Rows.polyPartsSpec.post enc Tryz.prog Tryz.f5 false true false false W args v W' := by
  have hW' := hW
  obtain ⟨p, q, hA0, hV, rfl, hfz, hnd⟩ := hW
  have hA : DataW.TrodAll enc Tryz.prog W 0 (fun _ => true) true Tryz.f5.params.toList args.toList ds p := hA0
  rw [Tryz.params5] at hA hval
  obtain ⟨v0, vs0, e0, ds0, p0, q0, hargs, rfl, rfl, h0, r0⟩ := trodAll_cons hA
  obtain ⟨v1, vs1, e1, ds1, p1, q1, rfl, rfl, rfl, h1, r1⟩ := trodAll_cons r0
  obtain ⟨rfl, rfl, rfl⟩ := trodAll_nil r1
  obtain rfl : args = #[v0, v1] := by cases args; simp_all
  obtain ⟨rfl, rfl⟩ := trodVars_none hV
  have hb := bulk_all hk
  simp only [List.append_nil, Rows.uptoBulkAll] at hb
  obtain ⟨a0, g0, b0⟩ := arg_poly (hval 0 _ v0 rfl rfl) h0 (by omega)
  obtain ⟨a1, g1, b1⟩ := arg_i64 (hval 1 _ v1 rfl rfl) h1 (by omega)
  exact post_true hW' rfl (by kernel_rfl) (by kernel_rfl) rfl (PolyParts_all b0 b1) rfl
    (rep_list (vs := [v0, v1]) (by
      intro i x hx v hv
      match i, hx, hv with
      | 0, hx, hv => simp at hx hv; subst hx hv; exact g0
      | 1, hx, hv => simp at hx hv; subst hx hv; exact g1
      | i + 2, hx, hv => simp at hx) rfl)
theorem polyParts_lifted (os : Os) (started : os.Started) (H : Type) (enc : TypeId × Value → H) (F : Stop.Interp) :
    ReturnsInHanded {} Tryz.checked os 5 .any ((Rows.OpenSpec.upto Rows.polyPartsSpec).pre6 enc Tryz.prog Tryz.f5 Rows.polyPartsUptoRow.domain false) (((Rows.OpenSpec.upto Rows.polyPartsSpec).at F).post enc Tryz.prog Tryz.f5 false true false false) := by
  refine returnsInHanded_of_cond (C := Tryz.checked) (s := Rows.OpenSpec.upto Rows.polyPartsSpec) (k := Rows.uptoSmall) rfl own started (by kernel_rfl) Tryz.func5
    (OpenSpec.witness (enc := enc) (C := Tryz.checked) (s := Rows.OpenSpec.upto Rows.polyPartsSpec) (k := Rows.uptoSmall) rfl false ⟨#[], #[.slice none 0 0, .int .i64 0], []⟩ 8 (by kernel_rfl) (by kernel_rfl) (by kernel_rfl)
      (x := ([.nil, .lit (.int .i64 0)], [], [])) (by kernel_rfl) rfl (by kernel_rfl)) ?_
  intro W base args ds gs before hval hW _ hk _
  exact polyParts_contract H enc W base args ds gs before hval hW hk
theorem polyParts_proved : Rows.PolyPartsUptoSaid :=
  OpenClaim.holds_of_cond 5 Tryz.f5 rfl rfl rfl rfl rfl rfl rfl ⟨rfl, rfl, rfl, rfl, rfl⟩ rfl rfl rfl rfl rfl (by kernel_rfl) Tryz.func5 (by kernel_rfl)
    (of_decide_eq_true (by kernel_rfl)) (by unfold Func.isWrapper; first | (rw [if_pos (by decide +kernel)]; kernel_rfl) | (rw [if_neg (by decide +kernel)]; exact ⟨rfl, rfl⟩))
    (fun os started H enc _ F => polyParts_lifted os started H enc F)
end Go.Proofs.YtfhmockdgbkpnaaGreat
