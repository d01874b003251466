/- Part 9 of the proof of PolyValues: Z2, FwSJ. Own lemmas; no conditions. -/
import Derived.Test.YtfhmockdgbkpnaaGreatPolyValuesPart8
set_option linter.unusedSimpArgs false
set_option linter.unnecessarySimpa false
set_option linter.unusedVariables false
namespace Go.Proofs.YtfhmockdgbkpnaaGreat
open Go Go.FW
set_option linter.unusedSimpArgs false
set_option linter.unusedVariables false
set_option maxRecDepth 100000
theorem Index_spec {l : List Int} {x : Int} (hl : l.length ≤ 2 ^ 36) : FnSpec Tryz.prog 160 [PV.mono l, .int .i64 x] (· = .int .i64 (findI (fun y => decide (x = y)) l)) := by
  refine fn_of_vc mixed Tryz.func160 rfl c160_ok (by simp [c160]) fun C hP => ?_; simp only [c160]
  simp +decide (disch := first | omega | rfl | (simp +decide only [go_sem, ↓reduceIte] <;> rfl) | fail) only [go_sem, ↓reduceIte, mk_empty, sl_3n, app_nil_map, mk_i64, max_nat]
  refine vc_loopF (by repeat (first | exact okSk_ret | exact okSk_retM | exact okSk_retO | apply okSk_back | apply okSk_out | apply okSk_eb | apply okSk_c | apply okSk_o | apply okSk_again)) [(4, 5), (8, 18)] [] (fun n J hp => ∃ i, n = l.length - i ∧ i ≤ l.length ∧ (∀ j (h : j < l.length), j < i → (fun y => decide (x = y)) l[j] = false) ∧ J 8 = .int .i64 (i : Nat)) l.length ?_ ?_
  · refine ⟨0, rfl, by omega, by omega, ?_⟩
    simp +decide (disch := first | omega | rfl | (simp +decide only [go_sem, ↓reduceIte] <;> rfl) | fail) only [go_sem, ↓reduceIte, mk_empty, sl_3n, app_nil_map, mk_i64, max_nat]
    rfl
  rintro _ J h ⟨i, rfl, hi, h1, h8⟩
  simp +decide (disch := first | omega | rfl | (simp +decide only [go_sem, ↓reduceIte, h8] <;> rfl) | fail) only [go_sem, ↓reduceIte, mk_empty, sl_3n, app_nil_map, mk_i64, max_nat, h8]
  refine cond_split (fun hg => ?_) (fun hg => ?_)
  · have hi' : i < l.length := by omega
    have hat := fun h => findI_at (g := fun y => decide (x = y)) hi' h h1
    have hadd : (fun y => decide (x = y)) l[i] = false → ∀ j (h : j < l.length), j < i + 1 → (fun y => decide (x = y)) l[j] = false := fun h j hj hji => by
      by_cases e : j = i
      · subst e; exact h
      · exact h1 j hj (by omega)
    generalize hx : l[i] = y at *
    simp +decide (disch := first | omega | rfl | (simp +decide only [go_sem, ↓reduceIte, h8, hx] <;> rfl) | fail) only [go_sem, ↓reduceIte, mk_empty, sl_3n, app_nil_map, mk_i64, max_nat, h8, hx]
    refine cond_split (fun hc => ?_) (fun hc => ?_)
    · simp +decide (disch := first | omega | rfl | (simp +decide only [go_sem, ↓reduceIte] <;> rfl) | fail) only [go_sem, ↓reduceIte, mk_empty, sl_3n, app_nil_map, mk_i64, max_nat]
      exact retV_eq (by rw [hat (decide_eq_true hc)]) rfl
    · simp +decide (disch := first | omega | rfl | (simp +decide only [go_sem, ↓reduceIte, h8] <;> rfl) | fail) only [go_sem, ↓reduceIte, mk_empty, sl_3n, app_nil_map, mk_i64, max_nat, h8]
      refine back_ovr (l.length - (i + 1)) (by omega) ⟨i + 1, rfl, by omega, hadd (decide_eq_false hc), ?_⟩
      simp +decide (disch := first | omega | rfl | (simp +decide only [go_sem, ↓reduceIte] <;> rfl) | fail) only [go_sem, ↓reduceIte, mk_empty, sl_3n, app_nil_map, mk_i64, max_nat]
  · obtain rfl : i = l.length := by omega
    simp +decide (disch := first | omega | rfl | (simp +decide only [go_sem, ↓reduceIte] <;> rfl) | fail) only [go_sem, ↓reduceIte, mk_empty, sl_3n, app_nil_map, mk_i64, max_nat]
    exact retV_eq (by rw [findI_none (fun j hj => h1 j hj hj)]) rfl
theorem Contains_spec {l : List Int} {x : Int} (hl : l.length ≤ 2 ^ 36) : FnSpec Tryz.prog 134 [PV.mono l, .int .i64 x] (· = .bool (decide (x ∈ l))) := by
  refine fn_of_vc mixed Tryz.func134 rfl c134_ok (by simp [c134]) fun C hP => ?_; simp only [c134]
  simp +decide (disch := first | omega | rfl | (simp +decide only [go_sem, ↓reduceIte] <;> rfl) | fail) only [go_sem, ↓reduceIte, mk_empty, sl_3n, app_nil_map, mk_i64, max_nat]
  refine call_eq0 hP (Index_spec hl) rfl rfl rfl ?_
  simp +decide (disch := first | omega | rfl | (simp +decide only [go_sem, ↓reduceIte] <;> rfl) | fail) only [go_sem, ↓reduceIte, mk_empty, sl_3n, app_nil_map, mk_i64, max_nat]
  refine retV_eq (congrArg PV.bool ?_) rfl
  rw [findI_any]
  cases h : decide (x ∈ l) with
  | true => rw [List.any_eq_true]; exact ⟨x, of_decide_eq_true h, decide_eq_true rfl⟩
  | false => rw [List.any_eq_false]; intro y hy h2; have := of_decide_eq_true h2; subst this; exact of_decide_eq_false h hy
theorem dropM_zero {m : List Int} {v : Nat} (hl : m.getLast? ≠ some 0) (h : eN m v = 0) : dropM m v = m := mono_ext (dropM_last _ _) hl fun i => by
  rw [dropM_eN]
  split
  · rename_i e; subst e; exact h.symm
  · rfl
theorem p_coefs_spec {p : List Tm} {v K E : Nat} (hp : PB K E p) (hv : v < 64) (hE : E ≤ 1048576) (h0 : 0 < p.length) (hl : p.length ≤ 12) :
    FnSpec Tryz.prog 99 [PV.poly p, .int .i64 v] (fun r => ∃ D, Pows p v D ∧ r = .tup [PV.mono D, PV.polys (D.map (coefN p v))]) := by
  refine fn_of_vc mixed Tryz.func99 rfl c99_ok (by simp [c99]) fun C hP => ?_; simp only [c99]
  simp +decide (disch := first | omega | rfl | (simp +decide only [go_sem, ↓reduceIte] <;> rfl) | fail) only [go_sem, ↓reduceIte, mk_empty, sl_3n, app_nil_map, mk_i64, max_nat]
  refine vc_nilF 4 900 1 3 (by omega) (by simp +decide (disch := first | omega | rfl | (simp +decide only [go_sem, ↓reduceIte] <;> rfl) | fail) only [go_sem, ↓reduceIte, mk_empty, sl_3n, app_nil_map, mk_i64, max_nat]) ?_
  refine vc_loopF (by repeat (first | exact okSk_ret | exact okSk_retM | exact okSk_retO | apply okSk_back | apply okSk_out | apply okSk_eb | apply okSk_c | apply okSk_o | apply okSk_again)) [(4, 4), (7, 8), (17, 33)] [7, 31, 32, 900] (fun n J hp => ∃ i, n = p.length - i ∧ i ≤ p.length ∧ J 4 = .ms 900 (expsL (p.take i) v).length ∧ J 17 = .int .i64 (i : Nat) ∧ hp 900 = some ⟨1, 3, i64s (expsL (p.take i) v), false⟩) p.length ?_ ?_
  · refine ⟨0, rfl, by omega, ?_⟩
    simp +decide (disch := first | omega | rfl | (simp +decide only [go_sem, ↓reduceIte] <;> rfl) | fail) only [go_sem, ↓reduceIte, mk_empty, sl_3n, app_nil_map, mk_i64, max_nat]
    exact ⟨rfl, rfl, rfl⟩
  rintro _ J h ⟨i, rfl, hi, h4, h17, hh⟩
  simp +decide (disch := first | omega | rfl | (simp +decide only [go_sem, ↓reduceIte, h4, h17] <;> rfl) | fail) only [go_sem, ↓reduceIte, mk_empty, sl_3n, app_nil_map, mk_i64, max_nat, h4, h17]
  refine cond_split (fun hg => ?_) (fun hg => ?_)
  · have hi' : i < p.length := by omega
    have htp := hp.get hi'
    have htk := expsL_take (v := v) hi'
    obtain ⟨_, _, hel⟩ := expsL_spec (p.take i) v
    rw [List.length_take] at hel
    generalize hx : p[i] = x at *
    have hml := htp.m.len
    simp +decide (disch := first | omega | rfl | (simp +decide only [go_sem, ↓reduceIte, h4, h17, hx] <;> rfl) | fail) only [go_sem, ↓reduceIte, mk_empty, sl_3n, app_nil_map, mk_i64, max_nat, h4, h17, hx]
    refine call_eq0 hP (m_Exp_nat (by omega)) rfl rfl rfl ?_
    simp +decide (disch := first | omega | rfl | (simp +decide only [go_sem, ↓reduceIte, h4, h17, hx] <;> rfl) | fail) only [go_sem, ↓reduceIte, mk_empty, sl_3n, app_nil_map, mk_i64, max_nat, h4, h17, hx]
    refine call_scal hP (Contains_spec (l := expsL (p.take i) v) (x := eN x.2 v) (by omega)) (by simp +decide (disch := first | omega | rfl | (simp +decide only [go_sem, ↓reduceIte, hh, looks3, List.contains_cons, List.contains_nil, List.flatMap_cons, List.flatMap_nil, List.append_nil] <;> rfl) | fail) only [go_sem, ↓reduceIte, mk_empty, sl_3n, app_nil_map, mk_i64, max_nat, hh, looks3, List.contains_cons, List.contains_nil, List.flatMap_cons, List.flatMap_nil, List.append_nil]; simp [List.take_of_length_le]) rfl rfl ?_
    simp +decide (disch := first | omega | rfl | (simp +decide only [go_sem, ↓reduceIte, h4, h17, hx] <;> rfl) | fail) only [go_sem, ↓reduceIte, mk_empty, sl_3n, app_nil_map, mk_i64, max_nat, h4, h17, hx]
    by_cases hc : eN x.2 v ∈ expsL (p.take i) v
    · rw [if_pos hc] at htk
      rw [decide_eq_true hc]
      simp +decide (disch := first | omega | rfl | (simp +decide only [go_sem, ↓reduceIte, h4, h17, hx] <;> rfl) | fail) only [go_sem, ↓reduceIte, mk_empty, sl_3n, app_nil_map, mk_i64, max_nat, h4, h17, hx]
      refine back_ovr (p.length - (i + 1)) (by omega) ⟨i + 1, rfl, by omega, ?_⟩
      rw [htk]
      simp +decide (disch := first | omega | rfl | (simp +decide only [go_sem, ↓reduceIte, h4, hh] <;> rfl) | fail) only [go_sem, ↓reduceIte, mk_empty, sl_3n, app_nil_map, mk_i64, max_nat, h4, hh]
    · rw [if_neg hc] at htk
      rw [decide_eq_false hc]
      simp +decide (disch := first | omega | rfl | (simp +decide only [go_sem, ↓reduceIte, h4, h17, hx] <;> rfl) | fail) only [go_sem, ↓reduceIte, mk_empty, sl_3n, app_nil_map, mk_i64, max_nat, h4, h17, hx]
      rw [app_push_map (f := fun (x : Int) => .int .i64 x) (y := eN x.2 v) (xs := expsL (p.take i) v) (ty' := 3) (fz := false) (by simp +decide (disch := first | omega | rfl | (simp +decide only [go_sem, ↓reduceIte, hh] <;> rfl) | fail) only [go_sem, ↓reduceIte, mk_empty, sl_3n, app_nil_map, mk_i64, max_nat, hh]) (by simp +decide (disch := first | omega | rfl | (simp +decide only [go_sem, ↓reduceIte] <;> rfl) | fail) only [go_sem, ↓reduceIte, mk_empty, sl_3n, app_nil_map, mk_i64, max_nat] <;> rfl) (by omega) rfl (by omega) (by omega)]
      simp +decide (disch := first | omega | rfl | (simp +decide only [go_sem, ↓reduceIte, h4, h17, hx] <;> rfl) | fail) only [go_sem, ↓reduceIte, mk_empty, sl_3n, app_nil_map, mk_i64, max_nat, h4, h17, hx]
      refine back_ovr (p.length - (i + 1)) (by omega) ⟨i + 1, rfl, by omega, ?_⟩
      rw [htk]
      simp +decide (disch := first | omega | rfl | (simp +decide only [go_sem, ↓reduceIte, List.length_append] <;> rfl) | fail) only [go_sem, ↓reduceIte, mk_empty, sl_3n, app_nil_map, mk_i64, max_nat, List.length_append]
  · obtain rfl : i = p.length := by omega
    rw [List.take_length] at h4 hh
    obtain ⟨_, hem, hel⟩ := expsL_spec p v
    have hel0 : 0 < (expsL p v).length := List.length_pos_iff.2 fun h => by
      have := (hem (eN p[0].2 v)).2 ⟨p[0], List.getElem_mem h0, rfl⟩
      rw [h] at this; cases this
    simp +decide (disch := first | omega | rfl | (simp +decide only [go_sem, ↓reduceIte, h4, hh] <;> rfl) | fail) only [go_sem, ↓reduceIte, mk_empty, sl_3n, app_nil_map, mk_i64, max_nat, h4, hh]
    refine call_M hP (Sort_spec hel0 (by omega)) (β := 900) (by simp +decide (disch := first | omega | rfl | (simp +decide only [go_sem, ↓reduceIte, hh] <;> rfl) | fail) only [go_sem, ↓reduceIte, mk_empty, sl_3n, app_nil_map, mk_i64, max_nat, hh]) (ints_i64 _) (by simp; omega) (by simp [toB]) rfl ?_
    rintro r xs' _ _ ⟨rfl, ys, rfl, hperm, hsrt⟩
    have hyl := hperm.length_eq
    have hpw := pows_of hperm hsrt
    simp +decide (disch := first | omega | rfl | (simp +decide only [go_sem, ↓reduceIte, fromB, h4, hyl.symm] <;> rfl) | fail) only [go_sem, ↓reduceIte, mk_empty, sl_3n, app_nil_map, mk_i64, max_nat, fromB, h4, hyl.symm]
    refine call_M hP (Reverse_spec (xs := ys) (by omega) (by omega)) (β := 900) (by simp +decide (disch := first | omega | rfl | (simp +decide only [go_sem, ↓reduceIte] <;> rfl) | fail) only [go_sem, ↓reduceIte, mk_empty, sl_3n, app_nil_map, mk_i64, max_nat]) (ints_i64 _) (by simp; omega) (by simp [toB]) rfl ?_
    rintro r xs' _ _ ⟨rfl, rfl⟩
    have hDl : ys.reverse.length = ys.length := by simp
    rw [← hDl]
    generalize ys.reverse = D at *
    simp +decide (disch := first | omega | rfl | (simp +decide only [go_sem, ↓reduceIte, fromB, h4] <;> rfl) | fail) only [go_sem, ↓reduceIte, mk_empty, sl_3n, app_nil_map, mk_i64, max_nat, fromB, h4]
    refine vc_nilF 5 901 1 23 (by omega) (by simp +decide (disch := first | omega | rfl | (simp +decide only [go_sem, ↓reduceIte] <;> rfl) | fail) only [go_sem, ↓reduceIte, mk_empty, sl_3n, app_nil_map, mk_i64, max_nat]) ?_
    refine vc_loopF (by repeat (first | exact okSk_ret | exact okSk_retM | exact okSk_retO | apply okSk_back | apply okSk_out | apply okSk_eb | apply okSk_c | apply okSk_o | apply okSk_again)) [(5, 5), (10, 11), (13, 14), (40, 77)] [13, 58, 70, 71, 75, 76, 901, 902] (fun n J hp => ∃ k, n = D.length - k ∧ k ≤ D.length ∧ J 5 = .ms 901 k ∧ J 40 = .int .i64 (k : Nat) ∧ hp 900 = some ⟨1, 3, i64s D, false⟩ ∧ hp 901 = some ⟨1, 23, ((D.take k).map (coefN p v)).map PV.poly, false⟩) D.length ?_ ?_
    · refine ⟨0, rfl, by omega, ?_⟩
      simp +decide (disch := first | omega | rfl | (simp +decide only [go_sem, ↓reduceIte] <;> rfl) | fail) only [go_sem, ↓reduceIte, mk_empty, sl_3n, app_nil_map, mk_i64, max_nat]
      rfl
    rintro _ J1 h1 ⟨k, rfl, hk, h5, h40, hk0, hk1⟩
    simp +decide (disch := first | omega | rfl | (simp +decide only [go_sem, ↓reduceIte, h5, h40] <;> rfl) | fail) only [go_sem, ↓reduceIte, mk_empty, sl_3n, app_nil_map, mk_i64, max_nat, h5, h40]
    refine cond_split (fun hg1 => ?_) (fun hg1 => ?_)
    · have hk' : k < D.length := by omega
      have htd : (D.take (k + 1)).map (coefN p v) = (D.take k).map (coefN p v) ++ [coefN p v D[k]] := by
        rw [List.take_succ_eq_append_getElem hk', List.map_append]; rfl
      have hml1 : ((D.take k).map (coefN p v)).length = k := by rw [List.length_map, List.length_take]; omega
      generalize hd : D[k] = d at *
      simp +decide (disch := first | omega | rfl | (simp +decide only [go_sem, ↓reduceIte, h5, h40, hk0, hd] <;> rfl) | fail) only [go_sem, ↓reduceIte, mk_empty, sl_3n, app_nil_map, mk_i64, max_nat, h5, h40, hk0, hd]
      refine vc_nilF 11 902 4 49 (by omega) (by simp +decide (disch := first | omega | rfl | (simp +decide only [go_sem, ↓reduceIte] <;> rfl) | fail) only [go_sem, ↓reduceIte, mk_empty, sl_3n, app_nil_map, mk_i64, max_nat]) ?_
      refine vc_loopF (by repeat (first | exact okSk_ret | exact okSk_retM | exact okSk_retO | apply okSk_back | apply okSk_out | apply okSk_eb | apply okSk_c | apply okSk_o | apply okSk_again)) [(11, 11), (13, 14), (46, 72)] [13, 58, 70, 71, 902] (fun n J hp => ∃ j, n = p.length - j ∧ j ≤ p.length ∧ J 11 = .ms 902 (coefN (p.take j) v d).length ∧ J 46 = .int .i64 (j : Nat) ∧ hp 900 = some ⟨1, 3, i64s D, false⟩ ∧ hp 901 = some ⟨1, 23, ((D.take k).map (coefN p v)).map PV.poly, false⟩ ∧ hp 902 = some ⟨4, 49, (coefN (p.take j) v d).map PV.term, false⟩) p.length ?_ ?_
      · refine ⟨0, rfl, by omega, ?_⟩
        simp +decide (disch := first | omega | rfl | (simp +decide only [go_sem, ↓reduceIte, hk0, hk1] <;> rfl) | fail) only [go_sem, ↓reduceIte, mk_empty, sl_3n, app_nil_map, mk_i64, max_nat, hk0, hk1]
        exact ⟨rfl, rfl, rfl⟩
      rintro _ J2 h2 ⟨j, rfl, hj, h11, h46, hl0, hl1, hl2⟩
      simp +decide (disch := first | omega | rfl | (simp +decide only [go_sem, ↓reduceIte, h11, h46] <;> rfl) | fail) only [go_sem, ↓reduceIte, mk_empty, sl_3n, app_nil_map, mk_i64, max_nat, h11, h46]
      refine cond_split (fun hg2 => ?_) (fun hg2 => ?_)
      · have hj' : j < p.length := by omega
        have htp := hp.get hj'
        have hck := coefN_take (v := v) (n := d) hj'
        have hcl := coefN_length (p.take j) v d
        rw [List.length_take] at hcl
        generalize hx : p[j] = x at *
        have hml := htp.m.len
        have hev := htp.m.eN v
        have hdok := dropM_ok htp.m hE v
        simp +decide (disch := first | omega | rfl | (simp +decide only [go_sem, ↓reduceIte, h11, h46, hx] <;> rfl) | fail) only [go_sem, ↓reduceIte, mk_empty, sl_3n, app_nil_map, mk_i64, max_nat, h11, h46, hx]
        refine call_eq0 hP (m_Exp_nat (by omega)) rfl rfl rfl ?_
        simp +decide (disch := first | omega | rfl | (simp +decide only [go_sem, ↓reduceIte, h11, h46, hx] <;> rfl) | fail) only [go_sem, ↓reduceIte, mk_empty, sl_3n, app_nil_map, mk_i64, max_nat, h11, h46, hx]
        refine cond_split (fun hc => ?_) (fun hc => ?_)
        · rw [if_pos hc] at hck
          simp +decide (disch := first | omega | rfl | (simp +decide only [go_sem, ↓reduceIte, h11, h46, hx] <;> rfl) | fail) only [go_sem, ↓reduceIte, mk_empty, sl_3n, app_nil_map, mk_i64, max_nat, h11, h46, hx]
          refine cond_split (fun hz => ?_) (fun hz => ?_)
          · have hvl : v < x.2.length := by
              apply Decidable.byContradiction; intro hn
              rw [eN_ge (by omega)] at hc; omega
            simp +decide (disch := first | omega | rfl | (simp +decide only [go_sem, ↓reduceIte, h11, h46, hx] <;> rfl) | fail) only [go_sem, ↓reduceIte, mk_empty, sl_3n, app_nil_map, mk_i64, max_nat, h11, h46, hx]
            refine call_eq hP (m_Norm_spec (a := x.2.set v 0) (by rw [List.length_set]; omega)) (by simp +decide (disch := first | omega | rfl | (simp +decide only [go_sem, ↓reduceIte, looks3, List.contains_cons, List.contains_nil, List.flatMap_cons, List.flatMap_nil, List.append_nil] <;> rfl) | fail) only [go_sem, ↓reduceIte, mk_empty, sl_3n, app_nil_map, mk_i64, max_nat, looks3, List.contains_cons, List.contains_nil, List.flatMap_cons, List.flatMap_nil, List.append_nil]; simp [List.take_of_length_le]) rfl ?_
            rw [show trimI (x.2.set v 0) = dropM x.2 v from rfl, if_pos hdok]
            simp +decide (disch := first | omega | rfl | (simp +decide only [go_sem, ↓reduceIte, h11, h46, hx, looks3, List.contains_cons, List.contains_nil, List.flatMap_cons, List.flatMap_nil, List.append_nil] <;> rfl) | fail) only [go_sem, ↓reduceIte, mk_empty, sl_3n, app_nil_map, mk_i64, max_nat, h11, h46, hx, looks3, List.contains_cons, List.contains_nil, List.flatMap_cons, List.flatMap_nil, List.append_nil]
            rw [app_push_map (f := PV.term) (y := (x.1, dropM x.2 v)) (xs := coefN (p.take j) v d) (ty' := 49) (fz := false) (by simp +decide (disch := first | omega | rfl | (simp +decide only [go_sem, ↓reduceIte, hl2, looks3, List.contains_cons, List.contains_nil, List.flatMap_cons, List.flatMap_nil, List.append_nil] <;> rfl) | fail) only [go_sem, ↓reduceIte, mk_empty, sl_3n, app_nil_map, mk_i64, max_nat, hl2, looks3, List.contains_cons, List.contains_nil, List.flatMap_cons, List.flatMap_nil, List.append_nil]) (by simp +decide (disch := first | omega | rfl | (simp +decide only [go_sem, ↓reduceIte, looks3, List.contains_cons, List.contains_nil, List.flatMap_cons, List.flatMap_nil, List.append_nil] <;> rfl) | fail) only [go_sem, ↓reduceIte, mk_empty, sl_3n, app_nil_map, mk_i64, max_nat, looks3, List.contains_cons, List.contains_nil, List.flatMap_cons, List.flatMap_nil, List.append_nil] <;> rfl) (by omega) rfl (by omega) (by omega)]
            simp +decide (disch := first | omega | rfl | (simp +decide only [go_sem, ↓reduceIte, h11, h46, hx, looks3, List.contains_cons, List.contains_nil, List.flatMap_cons, List.flatMap_nil, List.append_nil] <;> rfl) | fail) only [go_sem, ↓reduceIte, mk_empty, sl_3n, app_nil_map, mk_i64, max_nat, h11, h46, hx, looks3, List.contains_cons, List.contains_nil, List.flatMap_cons, List.flatMap_nil, List.append_nil]
            refine back_ovr (p.length - (j + 1)) (by omega) ⟨j + 1, rfl, by omega, ?_⟩
            rw [hck]
            simp +decide (disch := first | omega | rfl | (simp +decide only [go_sem, ↓reduceIte, hl0, hl1, List.length_append, looks3, List.contains_cons, List.contains_nil, List.flatMap_cons, List.flatMap_nil, List.append_nil] <;> rfl) | fail) only [go_sem, ↓reduceIte, mk_empty, sl_3n, app_nil_map, mk_i64, max_nat, hl0, hl1, List.length_append, looks3, List.contains_cons, List.contains_nil, List.flatMap_cons, List.flatMap_nil, List.append_nil]
          · have hd0 := dropM_zero (v := v) htp.l (by omega)
            have hmok := monoOk_of htp.m hE htp.l
            simp +decide (disch := first | omega | rfl | (simp +decide only [go_sem, ↓reduceIte, h11, h46, hx] <;> rfl) | fail) only [go_sem, ↓reduceIte, mk_empty, sl_3n, app_nil_map, mk_i64, max_nat, h11, h46, hx]
            refine call_eq hP (m_Norm_spec (a := x.2) (by omega)) (by simp +decide (disch := first | omega | rfl | (simp +decide only [go_sem, ↓reduceIte, looks3, List.contains_cons, List.contains_nil, List.flatMap_cons, List.flatMap_nil, List.append_nil] <;> rfl) | fail) only [go_sem, ↓reduceIte, mk_empty, sl_3n, app_nil_map, mk_i64, max_nat, looks3, List.contains_cons, List.contains_nil, List.flatMap_cons, List.flatMap_nil, List.append_nil]; simp [List.take_of_length_le]) rfl ?_
            rw [trimI_of htp.l, if_pos hmok, ← hd0]
            simp +decide (disch := first | omega | rfl | (simp +decide only [go_sem, ↓reduceIte, h11, h46, hx, looks3, List.contains_cons, List.contains_nil, List.flatMap_cons, List.flatMap_nil, List.append_nil] <;> rfl) | fail) only [go_sem, ↓reduceIte, mk_empty, sl_3n, app_nil_map, mk_i64, max_nat, h11, h46, hx, looks3, List.contains_cons, List.contains_nil, List.flatMap_cons, List.flatMap_nil, List.append_nil]
            rw [app_push_map (f := PV.term) (y := (x.1, dropM x.2 v)) (xs := coefN (p.take j) v d) (ty' := 49) (fz := false) (by simp +decide (disch := first | omega | rfl | (simp +decide only [go_sem, ↓reduceIte, hl2, looks3, List.contains_cons, List.contains_nil, List.flatMap_cons, List.flatMap_nil, List.append_nil] <;> rfl) | fail) only [go_sem, ↓reduceIte, mk_empty, sl_3n, app_nil_map, mk_i64, max_nat, hl2, looks3, List.contains_cons, List.contains_nil, List.flatMap_cons, List.flatMap_nil, List.append_nil]) (by simp +decide (disch := first | omega | rfl | (simp +decide only [go_sem, ↓reduceIte, looks3, List.contains_cons, List.contains_nil, List.flatMap_cons, List.flatMap_nil, List.append_nil] <;> rfl) | fail) only [go_sem, ↓reduceIte, mk_empty, sl_3n, app_nil_map, mk_i64, max_nat, looks3, List.contains_cons, List.contains_nil, List.flatMap_cons, List.flatMap_nil, List.append_nil] <;> rfl) (by omega) rfl (by omega) (by omega)]
            simp +decide (disch := first | omega | rfl | (simp +decide only [go_sem, ↓reduceIte, h11, h46, hx, looks3, List.contains_cons, List.contains_nil, List.flatMap_cons, List.flatMap_nil, List.append_nil] <;> rfl) | fail) only [go_sem, ↓reduceIte, mk_empty, sl_3n, app_nil_map, mk_i64, max_nat, h11, h46, hx, looks3, List.contains_cons, List.contains_nil, List.flatMap_cons, List.flatMap_nil, List.append_nil]
            refine back_ovr (p.length - (j + 1)) (by omega) ⟨j + 1, rfl, by omega, ?_⟩
            rw [hck]
            simp +decide (disch := first | omega | rfl | (simp +decide only [go_sem, ↓reduceIte, hl0, hl1, List.length_append, looks3, List.contains_cons, List.contains_nil, List.flatMap_cons, List.flatMap_nil, List.append_nil] <;> rfl) | fail) only [go_sem, ↓reduceIte, mk_empty, sl_3n, app_nil_map, mk_i64, max_nat, hl0, hl1, List.length_append, looks3, List.contains_cons, List.contains_nil, List.flatMap_cons, List.flatMap_nil, List.append_nil]
        · rw [if_neg hc, List.append_nil] at hck
          simp +decide (disch := first | omega | rfl | (simp +decide only [go_sem, ↓reduceIte, h11, h46, hx] <;> rfl) | fail) only [go_sem, ↓reduceIte, mk_empty, sl_3n, app_nil_map, mk_i64, max_nat, h11, h46, hx]
          refine back_ovr (p.length - (j + 1)) (by omega) ⟨j + 1, rfl, by omega, ?_⟩
          rw [hck]
          simp +decide (disch := first | omega | rfl | (simp +decide only [go_sem, ↓reduceIte, hl0, hl1, hl2, h11] <;> rfl) | fail) only [go_sem, ↓reduceIte, mk_empty, sl_3n, app_nil_map, mk_i64, max_nat, hl0, hl1, hl2, h11]
      · obtain rfl : j = p.length := by omega
        rw [List.take_length] at h11 hl2
        simp +decide (disch := first | omega | rfl | (simp +decide only [go_sem, ↓reduceIte, h5, h40, h11, h46] <;> rfl) | fail) only [go_sem, ↓reduceIte, mk_empty, sl_3n, app_nil_map, mk_i64, max_nat, h5, h40, h11, h46]
        rw [bs_ms (e' := 4) (ty' := 49) (xs := (coefN p v d).map PV.term) (fz := false) (by simp +decide (disch := first | omega | rfl | (simp +decide only [go_sem, ↓reduceIte, hl2] <;> rfl) | fail) only [go_sem, ↓reduceIte, mk_empty, sl_3n, app_nil_map, mk_i64, max_nat, hl2]), List.take_of_length_le (by simp)]
        simp +decide (disch := first | omega | rfl | (simp +decide only [go_sem, ↓reduceIte, h5, h40, h11, h46, looks3, List.contains_cons, List.contains_nil, List.flatMap_cons, List.flatMap_nil, List.append_nil] <;> rfl) | fail) only [go_sem, ↓reduceIte, mk_empty, sl_3n, app_nil_map, mk_i64, max_nat, h5, h40, h11, h46, looks3, List.contains_cons, List.contains_nil, List.flatMap_cons, List.flatMap_nil, List.append_nil]
        rw [app_push_map (f := PV.poly) (y := coefN p v d) (xs := (D.take k).map (coefN p v)) (ty' := 23) (fz := false) (by simp +decide (disch := first | omega | rfl | (simp +decide only [go_sem, ↓reduceIte, hl1, looks3, List.contains_cons, List.contains_nil, List.flatMap_cons, List.flatMap_nil, List.append_nil] <;> rfl) | fail) only [go_sem, ↓reduceIte, mk_empty, sl_3n, app_nil_map, mk_i64, max_nat, hl1, looks3, List.contains_cons, List.contains_nil, List.flatMap_cons, List.flatMap_nil, List.append_nil]) (by simp +decide (disch := first | omega | rfl | (simp +decide only [go_sem, ↓reduceIte, looks3, List.contains_cons, List.contains_nil, List.flatMap_cons, List.flatMap_nil, List.append_nil] <;> rfl) | fail) only [go_sem, ↓reduceIte, mk_empty, sl_3n, app_nil_map, mk_i64, max_nat, looks3, List.contains_cons, List.contains_nil, List.flatMap_cons, List.flatMap_nil, List.append_nil] <;> rfl) (by omega) hml1.symm (by omega) (by omega)]
        simp +decide (disch := first | omega | rfl | (simp +decide only [go_sem, ↓reduceIte, h5, h40, looks3, List.contains_cons, List.contains_nil, List.flatMap_cons, List.flatMap_nil, List.append_nil] <;> rfl) | fail) only [go_sem, ↓reduceIte, mk_empty, sl_3n, app_nil_map, mk_i64, max_nat, h5, h40, looks3, List.contains_cons, List.contains_nil, List.flatMap_cons, List.flatMap_nil, List.append_nil]
        simp (disch := decide) only [killFs_nil, ovr_sub, ovr_killsub]
        refine back_ovr (D.length - (k + 1)) (by omega) ⟨k + 1, rfl, by omega, ?_⟩
        rw [htd]
        simp +decide (disch := first | omega | rfl | (simp +decide only [go_sem, ↓reduceIte, hl0, looks3, List.contains_cons, List.contains_nil, List.flatMap_cons, List.flatMap_nil, List.append_nil] <;> rfl) | fail) only [go_sem, ↓reduceIte, mk_empty, sl_3n, app_nil_map, mk_i64, max_nat, hl0, looks3, List.contains_cons, List.contains_nil, List.flatMap_cons, List.flatMap_nil, List.append_nil]
    · obtain rfl : k = D.length := by omega
      rw [List.take_length] at hk1
      simp +decide (disch := first | omega | rfl | (simp +decide only [go_sem, ↓reduceIte, h4, h5, hk0, hk1] <;> rfl) | fail) only [go_sem, ↓reduceIte, mk_empty, sl_3n, app_nil_map, mk_i64, max_nat, h4, h5, hk0, hk1]
      have e1 : snap h1 (PV.mso 900 0 (expsL p v).length) = PV.mono D := by
        rw [snap_ms h1 900 _ _ _ _ _ hk0 (by decide), List.take_of_length_le (by simp; omega)]
      have e2 : snap h1 (PV.ms 901 D.length) = PV.polys (D.map (coefN p v)) := by
        rw [snap_ms h1 901 _ _ _ _ _ hk1 (by decide), List.take_of_length_le (by simp)]
      rw [e1, e2]
      exact ⟨⟨rfl, rfl⟩, .tup [PV.mono D, PV.polys (D.map (coefN p v))], ⟨le_refl _, le_refl _, trivial⟩, D, hpw, rfl⟩
end Go.Proofs.YtfhmockdgbkpnaaGreat
namespace Go.FW
open Go
def hor (p : List Tm) (v : Nat) (q : List Tm) (top : Nat) : Nat → List Tm
  | 0 => coefN p v top
  | k + 1 => padd (pmul (hor p v q top k) q) (coefN p v ((top : Int) - (k + 1)))
def horL (p : List Tm) (v : Nat) (q : List Tm) (top n : Nat) : Bool := (List.range n).any fun k => plarge (hor p v q top k)
theorem horL_succ (p : List Tm) (v : Nat) (q : List Tm) (top n : Nat) : horL p v q top (n + 1) = (horL p v q top n || plarge (hor p v q top n)) := by
  unfold horL; rw [List.range_succ, List.any_append]; simp
theorem horL_of {p : List Tm} {v : Nat} {q : List Tm} {top n k : Nat} (hk : k < n) (h : plarge (hor p v q top k) = true) : horL p v q top n = true := by
  unfold horL; rw [List.any_eq_true]; exact ⟨k, List.mem_range.2 hk, h⟩
def subR (p : List Tm) (v : Nat) (q : List Tm) (top : Nat) : PV := if horL p v q top (top + 1) = true then .tup [PV.poly [], .int .i64 4] else .tup [PV.poly (hor p v q top top), .int .i64 0]
theorem hor_nrm {p q : List Tm} (hp : Nrm p) (hq : Nrm q) (v top : Nat) : ∀ k, Nrm (hor p v q top k)
  | 0 => coefN_nrm hp v _
  | k + 1 => padd_nrm (pmul_nrm (hor_nrm hp hq v top k).s hq.s) (coefN_nrm hp v _)
theorem coefN_none {p : List Tm} {v : Nat} {n : Int} (h : ∀ t ∈ p, eN t.2 v ≠ n) : coefN p v n = [] := by
  rw [coefN, List.filterMap_eq_nil_iff]
  intro t ht; rw [if_neg (h t ht)]
theorem Pows.get0 {p : List Tm} {v : Nat} {D : List Int} (h : Pows p v D) (h0 : 0 < D.length) : ∀ t ∈ p, eN t.2 v ≤ D[0] := by
  intro t ht
  have hm : eN t.2 v ∈ D := (h.m _).2 ⟨t, ht, rfl⟩
  obtain ⟨i, hi, e⟩ := List.getElem_of_mem hm
  rw [← e]
  rcases Nat.eq_zero_or_pos i with rfl | hp
  · exact Int.le_refl _
  · have := List.pairwise_iff_getElem.1 h.s 0 i h0 hi hp
    omega
theorem Pows.lt {p : List Tm} {v : Nat} {D : List Int} (h : Pows p v D) {i j : Nat} (hi : i < j) (hj : j < D.length) : D[j] < D[i]'(by omega) := by
  have := List.pairwise_iff_getElem.1 h.s i j (by omega) hj hi
  omega
def ptop (p : List Tm) (v : Nat) : Int := p.foldl (fun d t => max d (eN t.2 v)) 0
theorem ptop_aux (v : Nat) : ∀ (p : List Tm) (d : Int), d ≤ p.foldl (fun d t => max d (eN t.2 v)) d ∧ (∀ t ∈ p, eN t.2 v ≤ p.foldl (fun d t => max d (eN t.2 v)) d) ∧ (p.foldl (fun d t => max d (eN t.2 v)) d = d ∨ ∃ t ∈ p, p.foldl (fun d t => max d (eN t.2 v)) d = eN t.2 v)
  | [], d => ⟨Int.le_refl _, by simp, .inl rfl⟩
  | s :: p, d => by
    obtain ⟨h1, h2, h3⟩ := ptop_aux v p (max d (eN s.2 v))
    rw [List.foldl_cons]
    refine ⟨by omega, fun t ht => ?_, ?_⟩
    · rcases List.mem_cons.1 ht with rfl | ht
      · omega
      · exact h2 t ht
    · rcases h3 with h3 | ⟨t, ht, h3⟩
      · rw [h3]
        by_cases h : d ≤ eN s.2 v
        · right; exact ⟨s, by simp, by omega⟩
        · left; omega
      · right; exact ⟨t, by simp [ht], h3⟩
theorem ptop_spec (p : List Tm) (v : Nat) : 0 ≤ ptop p v ∧ (∀ t ∈ p, eN t.2 v ≤ ptop p v) ∧ (ptop p v = 0 ∨ ∃ t ∈ p, ptop p v = eN t.2 v) := ptop_aux v p 0
theorem pows_top {p : List Tm} {v E : Nat} {D : List Int} (h : Pows p v D) (h0 : 0 < D.length) (hp : ∀ t ∈ p, MB E t.2) : D[0] = ptop p v := by
  obtain ⟨h1, h2, h3⟩ := ptop_spec p v
  obtain ⟨t, ht, e⟩ := (h.m D[0]).1 (List.getElem_mem h0)
  have h4 := h2 t ht
  have h5 := h.get0 h0
  have h6 := (hp t ht).eN v
  rcases h3 with h3 | ⟨s, hs, h3⟩
  · omega
  · have := h5 s hs; omega
end Go.FW
