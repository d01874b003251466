/- Part 7 of the proof of PolyForms: U7, FwSE. Own lemmas; no conditions. -/
import Derived.Test.YtfhmockdgbkpnaaGreatPolyFormsPart6
set_option linter.unusedSimpArgs false
set_option linter.unnecessarySimpa false
set_option linter.unusedVariables false
namespace Go.Proofs.YtfhmockdgbkpnaaGreat
open Go Go.FW
set_option linter.unusedSimpArgs false
set_option linter.unusedVariables false
set_option maxRecDepth 100000
theorem r6_add_spec {p : List Tm} {n : Bool} {a d : List Nat} {m : List Int} {K E k : Nat} (hp : PB K E p) (hs : PSorted p) (hnz : NZ p) (hr : Raw k n a d) (hk : k ≤ 2 ^ 32) (hm : MB E m) (hl : m.getLast? ≠ some 0) (hK : K ≤ 2 ^ 32) (hE : E ≤ 2 ^ 38) (hlp : p.length ≤ 2 ^ 36) :
    FnSpec Tryz.prog 98 [PV.poly p, PV.rr n a d, PV.mono m] (· = PV.poly (paddT p (rv n a d) m)) := by
  have hrr := hr.rs
  refine fn_of_vc mixed Tryz.func98 rfl c98_ok (by simp [c98]) fun C hP => ?_; simp only [c98]
  simp +decide (disch := first | omega | rfl | (simp +decide only [go_sem, ↓reduceIte] <;> rfl) | fail) only [go_sem, ↓reduceIte, rem64K, quo64K, remI64K, quoI64K, mulK64, mk_empty, sl_3n, app_nil_map, mk_i64, max_nat]
  refine vc_loopF (by repeat (first | exact okSk_ret | exact okSk_retM | exact okSk_retO | apply okSk_back | apply okSk_out | apply okSk_eb | apply okSk_c | apply okSk_o | apply okSk_again | apply okSk_backW)) [(7, 7), (12, 26)] [] (fun k J hp => k ≤ p.length ∧ (∀ t ∈ p.drop k, cmpM t.2 m < 0) ∧ J 7 = .int .i64 (k : Nat) ∧ hp 4 = some ⟨3, 40, [PV.rr n a d], false⟩) p.length ?_ ?_
  · refine ⟨by omega, by simp, ?_⟩
    simp +decide (disch := first | omega | rfl | (simp +decide only [go_sem, ↓reduceIte] <;> rfl) | fail) only [go_sem, ↓reduceIte, rem64K, quo64K, remI64K, quoI64K, mulK64, mk_empty, sl_3n, app_nil_map, mk_i64, max_nat]
  rintro j J h ⟨hj, hd, h7, hh4⟩
  simp +decide (disch := first | omega | rfl | (simp +decide only [go_sem, ↓reduceIte, h7] <;> rfl) | fail) only [go_sem, ↓reduceIte, rem64K, quo64K, remI64K, quoI64K, mulK64, mk_empty, sl_3n, app_nil_map, mk_i64, max_nat, h7]
  refine guard_split (fun hg => ?_) (fun hg => ?_)
  · obtain ⟨i, rfl⟩ : ∃ i, j = i + 1 := ⟨j - 1, by omega⟩
    have e : ((i + 1 : Nat) : Int) - 1 = i := by omega
    have hi : i < p.length := by omega
    have htp := hp.get hi
    have hdr : p.drop i = p[i] :: p.drop (i + 1) := List.drop_eq_getElem_cons hi
    have htk : p.take (i + 1) = p.take i ++ [p[i]] := List.take_succ_eq_append_getElem hi
    have hts := psorted_take hs hi
    have hall : p = p.take i ++ p[i] :: p.drop (i + 1) := by rw [← hdr, List.take_append_drop]
    have c1 := htp.c
    generalize hx : p[i] = x at *
    simp +decide (disch := first | omega | rfl | (simp +decide only [go_sem, ↓reduceIte, h7, e, hx] <;> rfl) | fail) only [go_sem, ↓reduceIte, rem64K, quo64K, remI64K, quoI64K, mulK64, mk_empty, sl_3n, app_nil_map, mk_i64, max_nat, h7, e, hx]
    refine call_eq0 hP (r5_lex htp.m hm (by omega)) rfl rfl rfl ?_
    simp +decide (disch := first | omega | rfl | (simp +decide only [go_sem, ↓reduceIte, h7, e, hx] <;> rfl) | fail) only [go_sem, ↓reduceIte, rem64K, quo64K, remI64K, quoI64K, mulK64, mk_empty, sl_3n, app_nil_map, mk_i64, max_nat, h7, e, hx]
    refine cond_split (fun hc => ?_) (fun hc => ?_)
    · simp +decide (disch := first | omega | rfl | (simp +decide only [go_sem, ↓reduceIte, h7, e, hx] <;> rfl) | fail) only [go_sem, ↓reduceIte, rem64K, quo64K, remI64K, quoI64K, mulK64, mk_empty, sl_3n, app_nil_map, mk_i64, max_nat, h7, e, hx]
      refine back_ovr i (by omega) ⟨by omega, ?_, ?_⟩
      · rw [hdr]
        intro t ht
        rcases List.mem_cons.1 ht with rfl | ht
        · exact hc
        · exact hd t ht
      · simp +decide (disch := first | omega | rfl | (simp +decide only [go_sem, ↓reduceIte, hh4] <;> rfl) | fail) only [go_sem, ↓reduceIte, rem64K, quo64K, remI64K, quoI64K, mulK64, mk_empty, sl_3n, app_nil_map, mk_i64, max_nat, hh4]
    · simp +decide (disch := first | omega | rfl | (simp +decide only [go_sem, ↓reduceIte, h7, e, hx] <;> rfl) | fail) only [go_sem, ↓reduceIte, rem64K, quo64K, remI64K, quoI64K, mulK64, mk_empty, sl_3n, app_nil_map, mk_i64, max_nat, h7, e, hx]
      refine guard_split (fun _ => ?_) (fun h => by omega)
      simp +decide (disch := first | omega | rfl | (simp +decide only [go_sem, ↓reduceIte, h7, e, hx] <;> rfl) | fail) only [go_sem, ↓reduceIte, rem64K, quo64K, remI64K, quoI64K, mulK64, mk_empty, sl_3n, app_nil_map, mk_i64, max_nat, h7, e, hx]
      refine call_eq0 hP (r5_lex htp.m hm (by omega)) rfl rfl rfl ?_
      simp +decide (disch := first | omega | rfl | (simp +decide only [go_sem, ↓reduceIte, h7, e, hx] <;> rfl) | fail) only [go_sem, ↓reduceIte, rem64K, quo64K, remI64K, quoI64K, mulK64, mk_empty, sl_3n, app_nil_map, mk_i64, max_nat, h7, e, hx]
      refine cond_split (fun hc2 => ?_) (fun hc2 => ?_)
      · have hxm : x.2 = m := (cmpM_eq htp.l hl).1 hc2
        have hx0 := hnz _ (List.getElem_mem hi)
        rw [hx] at hx0
        have hfin : paddT p (rv n a d) m = p.take i ++ (if x.1 + rv n a d = 0 then [] else [(x.1 + rv n a d, m)]) ++ p.drop (i + 1) := by
          have hall' : p = p.take i ++ (x.1, m) :: p.drop (i + 1) := by rw [← hxm]; exact hall
          rw [paddT]
          split
          · rename_i h0
            have e0 : x.1 + 0 = x.1 := Rat.add_zero _
            rw [h0, padd_nil, e0, if_neg hx0]
            simpa using hall'
          · conv => lhs; rw [hall']
            exact padd_at (fun t ht => by rw [← hxm]; exact hts t ht)
        have htl : (p.take i).length ≤ p.length := List.length_take_le' _ _
        have hdl : (p.drop (i + 1)).length ≤ p.length := by rw [List.length_drop]; omega
        have hra := rs_add x.1 (rv n a d)
        have hxr := raw_of (q := x.1) (k := 2 ^ 32) (by omega)
        have hadd := r3_Add_spec (k := 2 ^ 32) hxr (show Raw (2 ^ 32) n a d from ⟨hr.la, hr.ld, by have := hr.sa; omega, by have := hr.sd; omega, by omega⟩) (by omega)
        rw [rv_of] at hadd
        simp +decide (disch := first | omega | rfl | (simp +decide only [go_sem, ↓reduceIte, h7, e, hx, hh4] <;> rfl) | fail) only [go_sem, ↓reduceIte, rem64K, quo64K, remI64K, quoI64K, mulK64, mk_empty, sl_3n, app_nil_map, mk_i64, max_nat, h7, e, hx, hh4]
        refine br_intro ?_ ?_
        all_goals
          simp +decide (disch := first | omega | rfl | (simp +decide only [go_sem, ↓reduceIte, h7, e, hx, hh4] <;> rfl) | fail) only [go_sem, ↓reduceIte, rem64K, quo64K, remI64K, quoI64K, mulK64, mk_empty, sl_3n, app_nil_map, mk_i64, max_nat, h7, e, hx, hh4]
          refine call_eq0 hP hadd rfl rfl rfl ?_
          simp +decide (disch := first | omega | rfl | (simp +decide only [go_sem, ↓reduceIte, h7, e, hx, hh4] <;> rfl) | fail) only [go_sem, ↓reduceIte, rem64K, quo64K, remI64K, quoI64K, mulK64, mk_empty, sl_3n, app_nil_map, mk_i64, max_nat, h7, e, hx, hh4]
          refine call_eq0 hP (r3_Sign_q (a := x.1 + rv n a d) (by omega)) rfl rfl rfl ?_
          simp +decide (disch := first | omega | rfl | (simp +decide only [go_sem, ↓reduceIte, h7, e, hx, hh4] <;> rfl) | fail) only [go_sem, ↓reduceIte, rem64K, quo64K, remI64K, quoI64K, mulK64, mk_empty, sl_3n, app_nil_map, mk_i64, max_nat, h7, e, hx, hh4]
          refine cond_split (fun hz => ?_) (fun hz => ?_)
          · rw [if_neg (fun h => hz (sgnQ_zero.2 h))] at hfin
            simp +decide (disch := first | omega | rfl | (simp +decide only [go_sem, ↓reduceIte, h7, e, hx, hh4] <;> rfl) | fail) only [go_sem, ↓reduceIte, rem64K, quo64K, remI64K, quoI64K, mulK64, mk_empty, sl_3n, app_nil_map, mk_i64, max_nat, h7, e, hx, hh4]
            rw [app_push_map (f := PV.term) (y := (x.1 + rv n a d, m)) (xs := p.take i) (ty' := 49) (fz := false) (by simp +decide (disch := first | omega | rfl | (simp +decide only [go_sem, ↓reduceIte] <;> rfl) | fail) only [go_sem, ↓reduceIte, rem64K, quo64K, remI64K, quoI64K, mulK64, mk_empty, sl_3n, app_nil_map, mk_i64, max_nat]) (by simp +decide (disch := first | omega | rfl | (simp +decide only [go_sem, ↓reduceIte] <;> rfl) | fail) only [go_sem, ↓reduceIte, rem64K, quo64K, remI64K, quoI64K, mulK64, mk_empty, sl_3n, app_nil_map, mk_i64, max_nat] <;> rfl) (by omega) rfl (by omega) (by omega)]
            simp +decide (disch := first | omega | rfl | (simp +decide only [go_sem, ↓reduceIte, h7, e, hx, hh4] <;> rfl) | fail) only [go_sem, ↓reduceIte, rem64K, quo64K, remI64K, quoI64K, mulK64, mk_empty, sl_3n, app_nil_map, mk_i64, max_nat, h7, e, hx, hh4]
            rw [app_map (f := PV.term) (xs := p.take i ++ [(x.1 + rv n a d, m)]) (ys := p.drop (i + 1)) (by simp +decide (disch := first | omega | rfl | (simp +decide only [go_sem, ↓reduceIte] <;> rfl) | fail) only [go_sem, ↓reduceIte, rem64K, quo64K, remI64K, quoI64K, mulK64, mk_empty, sl_3n, app_nil_map, mk_i64, max_nat]) (by simp <;> omega) (by omega) (by omega) (by omega)]
            simp +decide (disch := first | omega | rfl | (simp +decide only [go_sem, ↓reduceIte, looks3, List.contains_cons, List.contains_nil, List.flatMap_cons, List.flatMap_nil, List.append_nil] <;> rfl) | fail) only [go_sem, ↓reduceIte, rem64K, quo64K, remI64K, quoI64K, mulK64, mk_empty, sl_3n, app_nil_map, mk_i64, max_nat, looks3, List.contains_cons, List.contains_nil, List.flatMap_cons, List.flatMap_nil, List.append_nil]
            refine retV_eq ?_ rfl
            rw [List.take_of_length_le (by simp <;> omega), hfin]
          · rw [if_pos (sgnQ_zero.1 (Decidable.not_not.1 hz)), List.append_nil] at hfin
            simp +decide (disch := first | omega | rfl | (simp +decide only [go_sem, ↓reduceIte, h7, e, hx, hh4] <;> rfl) | fail) only [go_sem, ↓reduceIte, rem64K, quo64K, remI64K, quoI64K, mulK64, mk_empty, sl_3n, app_nil_map, mk_i64, max_nat, h7, e, hx, hh4]
            rw [app_map (f := PV.term) (xs := p.take i) (ys := p.drop (i + 1)) (by simp +decide (disch := first | omega | rfl | (simp +decide only [go_sem, ↓reduceIte] <;> rfl) | fail) only [go_sem, ↓reduceIte, rem64K, quo64K, remI64K, quoI64K, mulK64, mk_empty, sl_3n, app_nil_map, mk_i64, max_nat]) (by simp <;> omega) (by omega) (by omega) (by omega)]
            simp +decide (disch := first | omega | rfl | (simp +decide only [go_sem, ↓reduceIte, looks3, List.contains_cons, List.contains_nil, List.flatMap_cons, List.flatMap_nil, List.append_nil] <;> rfl) | fail) only [go_sem, ↓reduceIte, rem64K, quo64K, remI64K, quoI64K, mulK64, mk_empty, sl_3n, app_nil_map, mk_i64, max_nat, looks3, List.contains_cons, List.contains_nil, List.flatMap_cons, List.flatMap_nil, List.append_nil]
            refine retV_eq ?_ rfl
            rw [List.take_of_length_le (by simp <;> omega), hfin]
      · have hgt : padd p [(rv n a d, m)] = p.take (i + 1) ++ (rv n a d, m) :: p.drop (i + 1) := by
          have := padd_gt (m := m) (c := rv n a d) (u := p.take (i + 1)) (v := p.drop (i + 1)) (fun t ht => by
            rw [htk] at ht
            rcases List.mem_append.1 ht with ht | ht
            · exact cmpM_gt_trans (hts t ht) (by omega)
            · simp only [List.mem_singleton] at ht; subst ht; omega) hd
          rwa [List.take_append_drop] at this
        have htl : (p.take (i + 1)).length ≤ p.length := List.length_take_le' _ _
        have hdl : (p.drop (i + 1)).length ≤ p.length := by rw [List.length_drop]; omega
        simp +decide (disch := first | omega | rfl | (simp +decide only [go_sem, ↓reduceIte, h7, hh4] <;> rfl) | fail) only [go_sem, ↓reduceIte, rem64K, quo64K, remI64K, quoI64K, mulK64, mk_empty, sl_3n, app_nil_map, mk_i64, max_nat, h7, hh4]
        refine call_eq0 hP (r3_Sign_spec hr (by omega)) rfl rfl rfl ?_
        simp +decide (disch := first | omega | rfl | (simp +decide only [go_sem, ↓reduceIte, h7, hh4] <;> rfl) | fail) only [go_sem, ↓reduceIte, rem64K, quo64K, remI64K, quoI64K, mulK64, mk_empty, sl_3n, app_nil_map, mk_i64, max_nat, h7, hh4]
        refine cond_split (fun hz => ?_) (fun hz => ?_)
        · have hz' : ¬ rv n a d = 0 := fun h => hz (sgnQ_zero.2 h)
          simp +decide (disch := first | omega | rfl | (simp +decide only [go_sem, ↓reduceIte, h7, hh4] <;> rfl) | fail) only [go_sem, ↓reduceIte, rem64K, quo64K, remI64K, quoI64K, mulK64, mk_empty, sl_3n, app_nil_map, mk_i64, max_nat, h7, hh4]
          refine call_eq0 hP (r3_Norm_spec hr (by omega)) rfl rfl rfl ?_
          simp +decide (disch := first | omega | rfl | (simp +decide only [go_sem, ↓reduceIte, h7, hh4] <;> rfl) | fail) only [go_sem, ↓reduceIte, rem64K, quo64K, remI64K, quoI64K, mulK64, mk_empty, sl_3n, app_nil_map, mk_i64, max_nat, h7, hh4]
          rw [app_push_map (f := PV.term) (y := (rv n a d, m)) (xs := p.take (i + 1)) (ty' := 49) (fz := false) (by simp +decide (disch := first | omega | rfl | (simp +decide only [go_sem, ↓reduceIte] <;> rfl) | fail) only [go_sem, ↓reduceIte, rem64K, quo64K, remI64K, quoI64K, mulK64, mk_empty, sl_3n, app_nil_map, mk_i64, max_nat]) (by simp +decide (disch := first | omega | rfl | (simp +decide only [go_sem, ↓reduceIte] <;> rfl) | fail) only [go_sem, ↓reduceIte, rem64K, quo64K, remI64K, quoI64K, mulK64, mk_empty, sl_3n, app_nil_map, mk_i64, max_nat] <;> rfl) (by omega) rfl (by omega) (by omega)]
          simp +decide (disch := first | omega | rfl | (simp +decide only [go_sem, ↓reduceIte, h7, hh4] <;> rfl) | fail) only [go_sem, ↓reduceIte, rem64K, quo64K, remI64K, quoI64K, mulK64, mk_empty, sl_3n, app_nil_map, mk_i64, max_nat, h7, hh4]
          rw [app_map (f := PV.term) (xs := p.take (i + 1) ++ [(rv n a d, m)]) (ys := p.drop (i + 1)) (by simp +decide (disch := first | omega | rfl | (simp +decide only [go_sem, ↓reduceIte] <;> rfl) | fail) only [go_sem, ↓reduceIte, rem64K, quo64K, remI64K, quoI64K, mulK64, mk_empty, sl_3n, app_nil_map, mk_i64, max_nat]) (by simp <;> omega) (by omega) (by omega) (by omega)]
          simp +decide (disch := first | omega | rfl | (simp +decide only [go_sem, ↓reduceIte, looks3, List.contains_cons, List.contains_nil, List.flatMap_cons, List.flatMap_nil, List.append_nil] <;> rfl) | fail) only [go_sem, ↓reduceIte, rem64K, quo64K, remI64K, quoI64K, mulK64, mk_empty, sl_3n, app_nil_map, mk_i64, max_nat, looks3, List.contains_cons, List.contains_nil, List.flatMap_cons, List.flatMap_nil, List.append_nil]
          refine retV_eq ?_ rfl
          rw [List.take_of_length_le (by simp <;> omega), paddT, if_neg hz', hgt]
          simp
        · have hz' : rv n a d = 0 := sgnQ_zero.1 (Decidable.not_not.1 hz)
          simp +decide (disch := first | omega | rfl | (simp +decide only [go_sem, ↓reduceIte, h7, hh4] <;> rfl) | fail) only [go_sem, ↓reduceIte, rem64K, quo64K, remI64K, quoI64K, mulK64, mk_empty, sl_3n, app_nil_map, mk_i64, max_nat, h7, hh4]
          rw [app_map (f := PV.term) (xs := p.take (i + 1)) (ys := p.drop (i + 1)) (by simp +decide (disch := first | omega | rfl | (simp +decide only [go_sem, ↓reduceIte] <;> rfl) | fail) only [go_sem, ↓reduceIte, rem64K, quo64K, remI64K, quoI64K, mulK64, mk_empty, sl_3n, app_nil_map, mk_i64, max_nat]) (by simp <;> omega) (by omega) (by omega) (by omega)]
          simp +decide (disch := first | omega | rfl | (simp +decide only [go_sem, ↓reduceIte, looks3, List.contains_cons, List.contains_nil, List.flatMap_cons, List.flatMap_nil, List.append_nil] <;> rfl) | fail) only [go_sem, ↓reduceIte, rem64K, quo64K, remI64K, quoI64K, mulK64, mk_empty, sl_3n, app_nil_map, mk_i64, max_nat, looks3, List.contains_cons, List.contains_nil, List.flatMap_cons, List.flatMap_nil, List.append_nil]
          refine retV_eq ?_ rfl
          rw [List.take_of_length_le (by simp <;> omega), paddT, if_pos hz', padd_nil, List.take_append_drop]
  · obtain rfl : j = 0 := by omega
    have hgt : padd p [(rv n a d, m)] = [] ++ (rv n a d, m) :: p := padd_gt (m := m) (c := rv n a d) (u := []) (v := p) (by simp) (by simpa using hd)
    simp +decide (disch := first | omega | rfl | (simp +decide only [go_sem, ↓reduceIte, h7] <;> rfl) | fail) only [go_sem, ↓reduceIte, rem64K, quo64K, remI64K, quoI64K, mulK64, mk_empty, sl_3n, app_nil_map, mk_i64, max_nat, h7]
    rw [app_nil_nil (by omega)]
    simp +decide (disch := first | omega | rfl | (simp +decide only [go_sem, ↓reduceIte, h7, hh4] <;> rfl) | fail) only [go_sem, ↓reduceIte, rem64K, quo64K, remI64K, quoI64K, mulK64, mk_empty, sl_3n, app_nil_map, mk_i64, max_nat, h7, hh4]
    refine call_eq0 hP (r3_Sign_spec hr (by omega)) rfl rfl rfl ?_
    simp +decide (disch := first | omega | rfl | (simp +decide only [go_sem, ↓reduceIte, h7, hh4] <;> rfl) | fail) only [go_sem, ↓reduceIte, rem64K, quo64K, remI64K, quoI64K, mulK64, mk_empty, sl_3n, app_nil_map, mk_i64, max_nat, h7, hh4]
    refine cond_split (fun hz => ?_) (fun hz => ?_)
    · have hz' : ¬ rv n a d = 0 := fun h => hz (sgnQ_zero.2 h)
      simp +decide (disch := first | omega | rfl | (simp +decide only [go_sem, ↓reduceIte, h7, hh4] <;> rfl) | fail) only [go_sem, ↓reduceIte, rem64K, quo64K, remI64K, quoI64K, mulK64, mk_empty, sl_3n, app_nil_map, mk_i64, max_nat, h7, hh4]
      refine call_eq0 hP (r3_Norm_spec hr (by omega)) rfl rfl rfl ?_
      simp +decide (disch := first | omega | rfl | (simp +decide only [go_sem, ↓reduceIte, h7, hh4] <;> rfl) | fail) only [go_sem, ↓reduceIte, rem64K, quo64K, remI64K, quoI64K, mulK64, mk_empty, sl_3n, app_nil_map, mk_i64, max_nat, h7, hh4]
      rw [app_push_map (f := PV.term) (y := (rv n a d, m)) (xs := ([] : List Tm)) (ty' := 49) (fz := false) (by simp +decide (disch := first | omega | rfl | (simp +decide only [go_sem, ↓reduceIte] <;> rfl) | fail) only [go_sem, ↓reduceIte, rem64K, quo64K, remI64K, quoI64K, mulK64, mk_empty, sl_3n, app_nil_map, mk_i64, max_nat]) (by simp +decide (disch := first | omega | rfl | (simp +decide only [go_sem, ↓reduceIte] <;> rfl) | fail) only [go_sem, ↓reduceIte, rem64K, quo64K, remI64K, quoI64K, mulK64, mk_empty, sl_3n, app_nil_map, mk_i64, max_nat] <;> rfl) (by omega) (n := 0) rfl (by omega) (by omega)]
      simp +decide (disch := first | omega | rfl | (simp +decide only [go_sem, ↓reduceIte, h7, hh4] <;> rfl) | fail) only [go_sem, ↓reduceIte, rem64K, quo64K, remI64K, quoI64K, mulK64, mk_empty, sl_3n, app_nil_map, mk_i64, max_nat, h7, hh4]
      rw [app_map (f := PV.term) (xs := ([] : List Tm) ++ [(rv n a d, m)]) (ys := p) (by simp +decide (disch := first | omega | rfl | (simp +decide only [go_sem, ↓reduceIte] <;> rfl) | fail) only [go_sem, ↓reduceIte, rem64K, quo64K, remI64K, quoI64K, mulK64, mk_empty, sl_3n, app_nil_map, mk_i64, max_nat]) (by simp <;> omega) (by omega) (by omega) (by omega)]
      simp +decide (disch := first | omega | rfl | (simp +decide only [go_sem, ↓reduceIte, looks3, List.contains_cons, List.contains_nil, List.flatMap_cons, List.flatMap_nil, List.append_nil] <;> rfl) | fail) only [go_sem, ↓reduceIte, rem64K, quo64K, remI64K, quoI64K, mulK64, mk_empty, sl_3n, app_nil_map, mk_i64, max_nat, looks3, List.contains_cons, List.contains_nil, List.flatMap_cons, List.flatMap_nil, List.append_nil]
      refine retV_eq ?_ rfl
      rw [List.take_of_length_le (by simp <;> omega), paddT, if_neg hz', hgt]
      simp
    · have hz' : rv n a d = 0 := sgnQ_zero.1 (Decidable.not_not.1 hz)
      simp +decide (disch := first | omega | rfl | (simp +decide only [go_sem, ↓reduceIte, h7, hh4] <;> rfl) | fail) only [go_sem, ↓reduceIte, rem64K, quo64K, remI64K, quoI64K, mulK64, mk_empty, sl_3n, app_nil_map, mk_i64, max_nat, h7, hh4]
      rw [app_map (f := PV.term) (xs := ([] : List Tm)) (ys := p) (by simp +decide (disch := first | omega | rfl | (simp +decide only [go_sem, ↓reduceIte] <;> rfl) | fail) only [go_sem, ↓reduceIte, rem64K, quo64K, remI64K, quoI64K, mulK64, mk_empty, sl_3n, app_nil_map, mk_i64, max_nat]) (by simp <;> omega) (by omega) (by omega) (by omega)]
      simp +decide (disch := first | omega | rfl | (simp +decide only [go_sem, ↓reduceIte, looks3, List.contains_cons, List.contains_nil, List.flatMap_cons, List.flatMap_nil, List.append_nil] <;> rfl) | fail) only [go_sem, ↓reduceIte, rem64K, quo64K, remI64K, quoI64K, mulK64, mk_empty, sl_3n, app_nil_map, mk_i64, max_nat, looks3, List.contains_cons, List.contains_nil, List.flatMap_cons, List.flatMap_nil, List.append_nil]
      refine retV_eq ?_ rfl
      rw [List.take_of_length_le (by simp <;> omega), paddT, if_pos hz', padd_nil]
end Go.Proofs.YtfhmockdgbkpnaaGreat
namespace Go.FW
open Go
def zerosOk (a m : List Int) : Bool := (List.range a.length).all fun i => decide (eN a i = eN m i)
theorem zerosOk_iff {a m : List Int} : zerosOk a m = true ↔ ∀ i, i < a.length → eN a i = eN m i := by
  simp [zerosOk, List.all_eq_true]
theorem zerosOk_norm (a : List Int) : zerosOk a (if monoOk (trimI a) then trimI a else []) = monoOk (trimI a) := by
  cases h : monoOk (trimI a)
  · rw [if_neg (by simp)]
    cases hz : zerosOk a [] with
    | false => rfl
    | true =>
      rw [zerosOk_iff] at hz
      have e : trimI a = [] := mono_ext (trimI_last a) (by simp) fun i => by
        rw [trimI_eN, eN_nil]
        by_cases hi : i < a.length
        · rw [hz i hi, eN_nil]
        · exact eN_ge (by omega)
      rw [e] at h
      exact absurd h (by decide)
  · rw [if_pos rfl, zerosOk_iff]
    intro i _; rw [trimI_eN]
def nterm (t : RTm) : Option Tm := if monoOk (trimI t.m) = true then some (t.q, trimI t.m) else none
def nterms (l : List RTm) : List Tm := l.filterMap nterm
def npart (t : Tm) : Option (List Tm) := if t.1 = 0 then none else some [t]
def nparts (l : List RTm) : List (List Tm) := (nterms l).filterMap npart
def pnorm (l : List RTm) : List Tm := psum (nparts l)
def pnormR (l : List RTm) : List Tm := (nterms l).foldl (fun out t => paddT out t.1 t.2) []
theorem nterms_take {l : List RTm} {i : Nat} (h : i < l.length) : nterms (l.take (i + 1)) = nterms (l.take i) ++ (nterm l[i]).toList := by
  rw [List.take_succ_eq_append_getElem h, nterms, List.filterMap_append]
  congr 1
theorem nparts_take {l : List RTm} {i : Nat} (h : i < l.length) : nparts (l.take (i + 1)) = nparts (l.take i) ++ ((nterm l[i]).toList.filterMap npart) := by
  rw [nparts, nterms_take h, List.filterMap_append]; rfl
theorem pnormR_take {l : List RTm} {i : Nat} (h : i < l.length) : pnormR (l.take (i + 1)) = (nterm l[i]).toList.foldl (fun out t => paddT out t.1 t.2) (pnormR (l.take i)) := by
  rw [pnormR, nterms_take h, List.foldl_append]; rfl
theorem nterm_some {t : RTm} (h : monoOk (trimI t.m) = true) : nterm t = some (t.q, trimI t.m) := by rw [nterm, if_pos h]
theorem nterm_none {t : RTm} (h : monoOk (trimI t.m) = false) : nterm t = none := by rw [nterm, if_neg (by simp [h])]
theorem nterms_mem {l : List RTm} {t : Tm} (h : t ∈ nterms l) : ∃ r ∈ l, t = (r.q, trimI r.m) ∧ monoOk (trimI r.m) = true := by
  simp only [nterms, List.mem_filterMap] at h
  obtain ⟨r, h1, h2⟩ := h
  unfold nterm at h2
  split at h2
  · rename_i hm; cases h2; exact ⟨r, h1, rfl, hm⟩
  · cases h2
theorem nparts_mem {l : List RTm} {p : List Tm} (h : p ∈ nparts l) : ∃ t ∈ nterms l, p = [t] ∧ t.1 ≠ 0 := by
  simp only [nparts, List.mem_filterMap] at h
  obtain ⟨t, h1, h2⟩ := h
  unfold npart at h2
  split at h2
  · cases h2
  · rename_i hm; cases h2; exact ⟨t, h1, rfl, hm⟩
theorem nterms_length (l : List RTm) : (nterms l).length ≤ l.length := List.length_filterMap_le _ _
theorem nparts_length (l : List RTm) : (nparts l).length ≤ l.length := Nat.le_trans (List.length_filterMap_le _ _) (nterms_length l)
theorem nparts_nrm (l : List RTm) : ∀ p ∈ nparts l, Nrm p := fun p hp => by
  obtain ⟨t, h1, rfl, h3⟩ := nparts_mem hp
  obtain ⟨r, _, rfl, h5⟩ := nterms_mem h1
  exact Nrm.one h3 (monoOk_last h5)
theorem pnorm_nrm (l : List RTm) : Nrm (pnorm l) := psum_nrm _ _ (Nat.le_refl _) (nparts_nrm l)
theorem pnormR_aux : ∀ (ts : List Tm), (∀ t ∈ ts, t.2.getLast? ≠ some 0) → ∀ out, Nrm out → Nrm (ts.foldl (fun out t => paddT out t.1 t.2) out) ∧ ∀ φ, pev φ (ts.foldl (fun out t => paddT out t.1 t.2) out) = pev φ out + pev φ ts
  | [], _, out, ho => ⟨ho, fun φ => by rw [List.foldl_nil, pev_nil]; grind⟩
  | t :: ts, h, out, ho => by
    have hl := h t (by simp)
    obtain ⟨h1, h2⟩ := pnormR_aux ts (fun x hx => h x (by simp [hx])) (paddT out t.1 t.2) (paddT_nrm ho hl)
    refine ⟨h1, fun φ => ?_⟩
    rw [List.foldl_cons, h2, paddT_pev ho.c hl, pev_cons]; grind
theorem nterms_last (l : List RTm) : ∀ t ∈ nterms l, t.2.getLast? ≠ some 0 := fun t ht => by
  obtain ⟨r, _, rfl, h5⟩ := nterms_mem ht
  exact monoOk_last h5
theorem pnormR_nrm (l : List RTm) : Nrm (pnormR l) := (pnormR_aux _ (nterms_last l) [] Nrm.nil).1
theorem nparts_sum (φ : List Int → Rat) : ∀ (ts : List Tm), ((ts.filterMap npart).map (pev φ)).sum = pev φ ts
  | [] => rfl
  | t :: ts => by
    have ih := nparts_sum φ ts
    rw [List.filterMap_cons, pev_cons]
    by_cases h : t.1 = 0
    · have e : npart t = none := if_pos h
      rw [e]
      show ((ts.filterMap npart).map (pev φ)).sum = _
      rw [ih, h]; grind
    · have e : npart t = some [t] := if_neg h
      rw [e]
      show pev φ [t] + ((ts.filterMap npart).map (pev φ)).sum = _
      rw [ih, pev_cons, pev_nil]; grind
theorem pnormR_eq (l : List RTm) : pnormR l = pnorm l := by
  refine pev_inj (pnormR_nrm l) (pnorm_nrm l) fun φ => ?_
  rw [pnormR, (pnormR_aux _ (nterms_last l) [] Nrm.nil).2, pev_nil, pnorm, (psum_spec (φ := φ) _ _ (Nat.le_refl _) (fun p hp => (nparts_nrm l p hp).c)).2, nparts, nparts_sum]
  grind
theorem nterms_TB {l : List RTm} {k : Nat} (hb : ∀ t ∈ l, rs t.q ≤ k) : PB (k + 1) 1048576 (nterms l) := fun t ht => by
  obtain ⟨r, h1, rfl, h5⟩ := nterms_mem ht
  exact ⟨by have := hb r h1; show rs r.q + 1 ≤ k + 1; omega, MB.ofOk h5, monoOk_last h5⟩
theorem nparts_PB {l : List RTm} {k : Nat} (hb : ∀ t ∈ l, rs t.q ≤ k) : ∀ p ∈ nparts l, PB (k + 1) 1048576 p := fun p hp => by
  obtain ⟨t, h1, rfl, _⟩ := nparts_mem hp
  intro s hs
  simp only [List.mem_singleton] at hs
  subst hs
  exact nterms_TB hb _ h1
theorem plen_nparts (l : List RTm) : plen (nparts l) ≤ l.length := by
  have key : ∀ L : List (List Tm), (∀ p ∈ L, p.length = 1) → plen L = L.length := by
    intro L
    induction L with
    | nil => intro _; rfl
    | cons p L ih =>
      intro h
      have h1 := h p (by simp)
      have h2 := ih (fun q hq => h q (by simp [hq]))
      unfold plen at *
      rw [List.map_cons, List.sum_cons, h1, h2, List.length_cons]; omega
  rw [key _ (fun p hp => by obtain ⟨t, _, rfl, _⟩ := nparts_mem hp; rfl)]
  exact nparts_length l
theorem pnorm_bound {l : List RTm} {k : Nat} (hb : ∀ t ∈ l, rs t.q ≤ k) : PB (l.length * (k + 1)) 1048576 (pnorm l) ∧ (pnorm l).length ≤ l.length := by
  obtain ⟨h1, h2⟩ := psum_bound _ (nparts l) (Nat.le_refl _) (nparts_PB hb)
  exact ⟨h1.mono (Nat.mul_le_mul_right _ (nparts_length l)) (Nat.le_refl _), Nat.le_trans h2 (plen_nparts l)⟩
end Go.FW
