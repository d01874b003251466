/- PolyForms holds, for arguments of bulk at most 1048576. -/
import Derived.Test.YtfhmockdgbkpnaaGreatPolyFormsPart8
set_option linter.unusedSimpArgs false
set_option linter.unnecessarySimpa false
set_option linter.unusedVariables false
namespace Go.Proofs.YtfhmockdgbkpnaaGreat
open Go Go.FW
set_option linter.unusedSimpArgs false
set_option linter.unusedVariables false
set_option maxRecDepth 100000
theorem p_Norm_spec {l : List RTm} {k : Nat} (hb : ∀ t ∈ l, RB k t) (hk1 : 1 ≤ k) (hk : k ≤ 2 ^ 24) (hll : l.length ≤ 100) : FnSpec Tryz.prog 43 [PV.rpoly l] (· = PV.poly (pnorm l)) := by
  have hrs : ∀ t ∈ l, rs t.q ≤ k := fun t ht => (RB.raw (hb t ht) hk1).rs
  refine fn_of_vc mixed Tryz.func43 rfl c43_ok (by simp [c43]) fun C hP => ?_; simp only [c43]
  simp +decide (disch := first | omega | rfl | (simp +decide only [go_sem, ↓reduceIte] <;> rfl) | fail) only [go_sem, ↓reduceIte, mk_empty, sl_3n, app_nil_map, mk_i64, max_nat]
  refine vc_nilF 3 900 1 23 (by omega) (by simp +decide (disch := first | omega | rfl | (simp +decide only [go_sem, ↓reduceIte] <;> rfl) | fail) only [go_sem, ↓reduceIte, mk_empty, sl_3n, app_nil_map, mk_i64, max_nat]) ?_
  refine vc_loopF (by repeat (first | exact okSk_ret | exact okSk_retM | exact okSk_retO | apply okSk_back | apply okSk_out | apply okSk_eb | apply okSk_c | apply okSk_o | apply okSk_again)) [(3, 3), (5, 7), (10, 51)] [5, 49, 50, 900] (fun n J hp => ∃ i, n = l.length - i ∧ i ≤ l.length ∧ J 3 = .ms 900 (nparts (l.take i)).length ∧ J 10 = .int .i64 (i : Nat) ∧ hp 900 = some ⟨1, 23, (nparts (l.take i)).map PV.poly, false⟩) l.length ?_ ?_
  · refine ⟨0, rfl, by omega, ?_⟩
    simp +decide (disch := first | omega | rfl | (simp +decide only [go_sem, ↓reduceIte] <;> rfl) | fail) only [go_sem, ↓reduceIte, mk_empty, sl_3n, app_nil_map, mk_i64, max_nat]
    exact ⟨rfl, rfl, rfl⟩
  rintro _ J h ⟨i, rfl, hi, h3, h10, hh⟩
  simp +decide (disch := first | omega | rfl | (simp +decide only [go_sem, ↓reduceIte, h3, h10] <;> rfl) | fail) only [go_sem, ↓reduceIte, mk_empty, sl_3n, app_nil_map, mk_i64, max_nat, h3, h10]
  refine cond_split (fun hg => ?_) (fun hg => ?_)
  · have hi' : i < l.length := by omega
    have hbt := hb _ (List.getElem_mem hi')
    have htk := nparts_take hi'
    have hpl := nparts_length (l.take i)
    rw [List.length_take] at hpl
    generalize hx : l[i] = x at *
    have hml := hbt.l
    have htl := trimI_length x.m
    have hrx := (RB.raw hbt hk1).rs
    simp +decide (disch := first | omega | rfl | (simp +decide only [go_sem, ↓reduceIte, h3, h10, hx] <;> rfl) | fail) only [go_sem, ↓reduceIte, mk_empty, sl_3n, app_nil_map, mk_i64, max_nat, h3, h10, hx]
    refine vc_loopF (by repeat (first | exact okSk_ret | exact okSk_retM | exact okSk_retO | apply okSk_back | apply okSk_out | apply okSk_eb | apply okSk_c | apply okSk_o | apply okSk_again)) [(6, 6), (17, 29)] [] (fun n J hp => n ≤ x.m.length ∧ cutI x.m n = trimI x.m ∧ J 6 = .int .i64 (n : Nat) ∧ hp 5 = some ⟨4, 49, [PV.rterm x], false⟩ ∧ hp 900 = some ⟨1, 23, (nparts (l.take i)).map PV.poly, false⟩) x.m.length ?_ ?_
    · refine ⟨by omega, rfl, ?_⟩
      simp +decide (disch := first | omega | rfl | (simp +decide only [go_sem, ↓reduceIte, hh] <;> rfl) | fail) only [go_sem, ↓reduceIte, mk_empty, sl_3n, app_nil_map, mk_i64, max_nat, hh]
    rintro n J2 h2 ⟨hn, hc, h6, hh5, hh2⟩
    simp +decide (disch := first | omega | rfl | (simp +decide only [go_sem, ↓reduceIte, h6, hh5] <;> rfl) | fail) only [go_sem, ↓reduceIte, mk_empty, sl_3n, app_nil_map, mk_i64, max_nat, h6, hh5]
    refine guard_split (fun hg2 => ?_) (fun hg2 => ?_)
    · obtain _ | n := n
      · omega
      have e : ((n + 1 : Nat) : Int) - 1 = n := by omega
      have hn' : n < x.m.length := by omega
      simp only [cutI] at hc
      simp +decide (disch := first | omega | rfl | (simp +decide only [go_sem, ↓reduceIte, h6, hh5, e] <;> rfl) | fail) only [go_sem, ↓reduceIte, mk_empty, sl_3n, app_nil_map, mk_i64, max_nat, h6, hh5, e]
      refine cond_split (fun hz => ?_) (fun hz => ?_)
      · rw [if_pos (by simp [hz, hn'])] at hc
        simp +decide (disch := first | omega | rfl | (simp +decide only [go_sem, ↓reduceIte, h6, hh5, e] <;> rfl) | fail) only [go_sem, ↓reduceIte, mk_empty, sl_3n, app_nil_map, mk_i64, max_nat, h6, hh5, e]
        refine back_ovr n (by omega) ⟨by omega, hc, ?_⟩
        simp +decide (disch := first | omega | rfl | (simp +decide only [go_sem, ↓reduceIte, hh5, hh2] <;> rfl) | fail) only [go_sem, ↓reduceIte, mk_empty, sl_3n, app_nil_map, mk_i64, max_nat, hh5, hh2]
      · rw [if_neg (by simpa [hn'] using hz)] at hc
        simp +decide (disch := first | omega | rfl | (simp +decide only [go_sem, ↓reduceIte, h6, hh5, e] <;> rfl) | fail) only [go_sem, ↓reduceIte, mk_empty, sl_3n, app_nil_map, mk_i64, max_nat, h6, hh5, e]
        rw [hc]
        refine call_eq0 hP (m_Right_spec (a := trimI x.m) (by omega)) rfl rfl rfl ?_
        simp +decide (disch := first | omega | rfl | (simp +decide only [go_sem, ↓reduceIte, h3, h10, h6, hh5] <;> rfl) | fail) only [go_sem, ↓reduceIte, mk_empty, sl_3n, app_nil_map, mk_i64, max_nat, h3, h10, h6, hh5]
        cases hmo : monoOk (trimI x.m)
        · rw [nterm_none hmo, Option.toList_none, List.filterMap_nil, List.append_nil] at htk
          simp +decide (disch := first | omega | rfl | (simp +decide only [go_sem, ↓reduceIte, h3, h10, h6, hh5] <;> rfl) | fail) only [go_sem, ↓reduceIte, mk_empty, sl_3n, app_nil_map, mk_i64, max_nat, h3, h10, h6, hh5]
          simp (disch := decide) only [killFs_nil, ovr_sub]
          refine back_ovr (l.length - (i + 1)) (by omega) ⟨i + 1, rfl, by omega, ?_⟩
          rw [htk]
          simp +decide (disch := first | omega | rfl | (simp +decide only [go_sem, ↓reduceIte, hh2, h3] <;> rfl) | fail) only [go_sem, ↓reduceIte, mk_empty, sl_3n, app_nil_map, mk_i64, max_nat, hh2, h3]
        rw [nterm_some hmo, Option.toList_some, List.filterMap_cons, List.filterMap_nil] at htk
        simp +decide (disch := first | omega | rfl | (simp +decide only [go_sem, ↓reduceIte, h3, h10, h6, hh5] <;> rfl) | fail) only [go_sem, ↓reduceIte, mk_empty, sl_3n, app_nil_map, mk_i64, max_nat, h3, h10, h6, hh5]
        refine call_eq0 hP (q_Of_spec (x := 0) (by omega) (by omega)) rfl rfl rfl ?_
        simp +decide (disch := first | omega | rfl | (simp +decide only [go_sem, ↓reduceIte, h3, h10, h6, hh5] <;> rfl) | fail) only [go_sem, ↓reduceIte, mk_empty, sl_3n, app_nil_map, mk_i64, max_nat, h3, h10, h6, hh5]
        refine call_eq0 hP (q_Add0_raw (RB.raw hbt hk1) (by omega)) rfl rfl rfl ?_
        simp +decide (disch := first | omega | rfl | (simp +decide only [go_sem, ↓reduceIte, h3, h10, h6, hh5] <;> rfl) | fail) only [go_sem, ↓reduceIte, mk_empty, sl_3n, app_nil_map, mk_i64, max_nat, h3, h10, h6, hh5]
        refine call_eq0 hP (m_Norm_spec (a := x.m) (by omega)) rfl rfl rfl ?_
        rw [if_pos hmo]
        simp +decide (disch := first | omega | rfl | (simp +decide only [go_sem, ↓reduceIte, h3, h10, h6, hh5] <;> rfl) | fail) only [go_sem, ↓reduceIte, mk_empty, sl_3n, app_nil_map, mk_i64, max_nat, h3, h10, h6, hh5]
        refine call_eq0 hP (p_single_spec (c := rv x.n x.a x.d) (m := trimI x.m) (by omega)) rfl rfl rfl ?_
        by_cases hz : rv x.n x.a x.d = 0
        · rw [show npart (x.q, trimI x.m) = none from if_pos hz, List.append_nil] at htk
          rw [if_pos hz]
          simp +decide (disch := first | omega | rfl | (simp +decide only [go_sem, ↓reduceIte, h3, h10, h6, hh5] <;> rfl) | fail) only [go_sem, ↓reduceIte, mk_empty, sl_3n, app_nil_map, mk_i64, max_nat, h3, h10, h6, hh5]
          simp (disch := decide) only [killFs_nil, ovr_sub]
          refine back_ovr (l.length - (i + 1)) (by omega) ⟨i + 1, rfl, by omega, ?_⟩
          rw [htk]
          simp +decide (disch := first | omega | rfl | (simp +decide only [go_sem, ↓reduceIte, hh2, h3] <;> rfl) | fail) only [go_sem, ↓reduceIte, mk_empty, sl_3n, app_nil_map, mk_i64, max_nat, hh2, h3]
        · rw [show npart (x.q, trimI x.m) = some [(x.q, trimI x.m)] from if_neg hz] at htk
          rw [if_neg hz]
          simp +decide (disch := first | omega | rfl | (simp +decide only [go_sem, ↓reduceIte, h3, h10, h6, hh5] <;> rfl) | fail) only [go_sem, ↓reduceIte, mk_empty, sl_3n, app_nil_map, mk_i64, max_nat, h3, h10, h6, hh5]
          rw [app_push_map (f := PV.poly) (y := [(rv x.n x.a x.d, trimI x.m)]) (xs := nparts (l.take i)) (ty' := 23) (fz := false) (by simp +decide (disch := first | omega | rfl | (simp +decide only [go_sem, ↓reduceIte, hh2] <;> rfl) | fail) only [go_sem, ↓reduceIte, mk_empty, sl_3n, app_nil_map, mk_i64, max_nat, hh2]) (by simp +decide (disch := first | omega | rfl | (simp +decide only [go_sem, ↓reduceIte] <;> rfl) | fail) only [go_sem, ↓reduceIte, mk_empty, sl_3n, app_nil_map, mk_i64, max_nat] <;> rfl) (by omega) rfl (by omega) (by omega)]
          simp +decide (disch := first | omega | rfl | (simp +decide only [go_sem, ↓reduceIte, h3, h10, h6, hh5] <;> rfl) | fail) only [go_sem, ↓reduceIte, mk_empty, sl_3n, app_nil_map, mk_i64, max_nat, h3, h10, h6, hh5]
          simp (disch := decide) only [killFs_nil, ovr_sub]
          refine back_ovr (l.length - (i + 1)) (by omega) ⟨i + 1, rfl, by omega, ?_⟩
          rw [htk]
          simp +decide (disch := first | omega | rfl | (simp +decide only [go_sem, ↓reduceIte, List.length_append] <;> rfl) | fail) only [go_sem, ↓reduceIte, mk_empty, sl_3n, app_nil_map, mk_i64, max_nat, List.length_append]
          rfl
    · obtain rfl : n = 0 := by omega
      simp +decide (disch := first | omega | rfl | (simp +decide only [go_sem, ↓reduceIte, h6, hh5] <;> rfl) | fail) only [go_sem, ↓reduceIte, mk_empty, sl_3n, app_nil_map, mk_i64, max_nat, h6, hh5]
      refine call_eq0 hP (m_Right_spec (a := []) (by simp)) rfl rfl rfl ?_
      rw [show monoOk [] = monoOk (trimI x.m) by rw [← hc]; rfl]
      simp +decide (disch := first | omega | rfl | (simp +decide only [go_sem, ↓reduceIte, h3, h10, h6, hh5] <;> rfl) | fail) only [go_sem, ↓reduceIte, mk_empty, sl_3n, app_nil_map, mk_i64, max_nat, h3, h10, h6, hh5]
      cases hmo : monoOk (trimI x.m)
      · rw [nterm_none hmo, Option.toList_none, List.filterMap_nil, List.append_nil] at htk
        simp +decide (disch := first | omega | rfl | (simp +decide only [go_sem, ↓reduceIte, h3, h10, h6, hh5] <;> rfl) | fail) only [go_sem, ↓reduceIte, mk_empty, sl_3n, app_nil_map, mk_i64, max_nat, h3, h10, h6, hh5]
        simp (disch := decide) only [killFs_nil, ovr_sub]
        refine back_ovr (l.length - (i + 1)) (by omega) ⟨i + 1, rfl, by omega, ?_⟩
        rw [htk]
        simp +decide (disch := first | omega | rfl | (simp +decide only [go_sem, ↓reduceIte, hh2, h3] <;> rfl) | fail) only [go_sem, ↓reduceIte, mk_empty, sl_3n, app_nil_map, mk_i64, max_nat, hh2, h3]
      rw [nterm_some hmo, Option.toList_some, List.filterMap_cons, List.filterMap_nil] at htk
      simp +decide (disch := first | omega | rfl | (simp +decide only [go_sem, ↓reduceIte, h3, h10, h6, hh5] <;> rfl) | fail) only [go_sem, ↓reduceIte, mk_empty, sl_3n, app_nil_map, mk_i64, max_nat, h3, h10, h6, hh5]
      refine call_eq0 hP (q_Of_spec (x := 0) (by omega) (by omega)) rfl rfl rfl ?_
      simp +decide (disch := first | omega | rfl | (simp +decide only [go_sem, ↓reduceIte, h3, h10, h6, hh5] <;> rfl) | fail) only [go_sem, ↓reduceIte, mk_empty, sl_3n, app_nil_map, mk_i64, max_nat, h3, h10, h6, hh5]
      refine call_eq0 hP (q_Add0_raw (RB.raw hbt hk1) (by omega)) rfl rfl rfl ?_
      simp +decide (disch := first | omega | rfl | (simp +decide only [go_sem, ↓reduceIte, h3, h10, h6, hh5] <;> rfl) | fail) only [go_sem, ↓reduceIte, mk_empty, sl_3n, app_nil_map, mk_i64, max_nat, h3, h10, h6, hh5]
      refine call_eq0 hP (m_Norm_spec (a := x.m) (by omega)) rfl rfl rfl ?_
      rw [if_pos hmo]
      simp +decide (disch := first | omega | rfl | (simp +decide only [go_sem, ↓reduceIte, h3, h10, h6, hh5] <;> rfl) | fail) only [go_sem, ↓reduceIte, mk_empty, sl_3n, app_nil_map, mk_i64, max_nat, h3, h10, h6, hh5]
      refine call_eq0 hP (p_single_spec (c := rv x.n x.a x.d) (m := trimI x.m) (by omega)) rfl rfl rfl ?_
      by_cases hz : rv x.n x.a x.d = 0
      · rw [show npart (x.q, trimI x.m) = none from if_pos hz, List.append_nil] at htk
        rw [if_pos hz]
        simp +decide (disch := first | omega | rfl | (simp +decide only [go_sem, ↓reduceIte, h3, h10, h6, hh5] <;> rfl) | fail) only [go_sem, ↓reduceIte, mk_empty, sl_3n, app_nil_map, mk_i64, max_nat, h3, h10, h6, hh5]
        simp (disch := decide) only [killFs_nil, ovr_sub]
        refine back_ovr (l.length - (i + 1)) (by omega) ⟨i + 1, rfl, by omega, ?_⟩
        rw [htk]
        simp +decide (disch := first | omega | rfl | (simp +decide only [go_sem, ↓reduceIte, hh2, h3] <;> rfl) | fail) only [go_sem, ↓reduceIte, mk_empty, sl_3n, app_nil_map, mk_i64, max_nat, hh2, h3]
      · rw [show npart (x.q, trimI x.m) = some [(x.q, trimI x.m)] from if_neg hz] at htk
        rw [if_neg hz]
        simp +decide (disch := first | omega | rfl | (simp +decide only [go_sem, ↓reduceIte, h3, h10, h6, hh5] <;> rfl) | fail) only [go_sem, ↓reduceIte, mk_empty, sl_3n, app_nil_map, mk_i64, max_nat, h3, h10, h6, hh5]
        rw [app_push_map (f := PV.poly) (y := [(rv x.n x.a x.d, trimI x.m)]) (xs := nparts (l.take i)) (ty' := 23) (fz := false) (by simp +decide (disch := first | omega | rfl | (simp +decide only [go_sem, ↓reduceIte, hh2] <;> rfl) | fail) only [go_sem, ↓reduceIte, mk_empty, sl_3n, app_nil_map, mk_i64, max_nat, hh2]) (by simp +decide (disch := first | omega | rfl | (simp +decide only [go_sem, ↓reduceIte] <;> rfl) | fail) only [go_sem, ↓reduceIte, mk_empty, sl_3n, app_nil_map, mk_i64, max_nat] <;> rfl) (by omega) rfl (by omega) (by omega)]
        simp +decide (disch := first | omega | rfl | (simp +decide only [go_sem, ↓reduceIte, h3, h10, h6, hh5] <;> rfl) | fail) only [go_sem, ↓reduceIte, mk_empty, sl_3n, app_nil_map, mk_i64, max_nat, h3, h10, h6, hh5]
        simp (disch := decide) only [killFs_nil, ovr_sub]
        refine back_ovr (l.length - (i + 1)) (by omega) ⟨i + 1, rfl, by omega, ?_⟩
        rw [htk]
        simp +decide (disch := first | omega | rfl | (simp +decide only [go_sem, ↓reduceIte, List.length_append] <;> rfl) | fail) only [go_sem, ↓reduceIte, mk_empty, sl_3n, app_nil_map, mk_i64, max_nat, List.length_append]
        rfl
  · obtain rfl : i = l.length := by omega
    rw [List.take_length] at hh h3
    have hpl := nparts_length l
    have hpn := plen_nparts l
    have hK : (nparts l).length * (k + 1) ≤ 100 * (2 ^ 24 + 1) := Nat.mul_le_mul (by omega) (by omega)
    simp +decide (disch := first | omega | rfl | (simp +decide only [go_sem, ↓reduceIte, h3, hh] <;> rfl) | fail) only [go_sem, ↓reduceIte, mk_empty, sl_3n, app_nil_map, mk_i64, max_nat, h3, hh]
    refine call_eq hP (p_sum_spec (K := k + 1) (E := 1048576) (by omega) _ (nparts l) (Nat.le_refl _) (nparts_PB hrs) (by omega) (by omega) (by omega)) (by simp +decide (disch := first | omega | rfl | (simp +decide only [go_sem, ↓reduceIte, hh, looks3, List.contains_cons, List.contains_nil, List.flatMap_cons, List.flatMap_nil, List.append_nil] <;> rfl) | fail) only [go_sem, ↓reduceIte, mk_empty, sl_3n, app_nil_map, mk_i64, max_nat, hh, looks3, List.contains_cons, List.contains_nil, List.flatMap_cons, List.flatMap_nil, List.append_nil]; simp [List.take_of_length_le]) rfl ?_
    simp +decide (disch := first | omega | rfl | (simp +decide only [go_sem, ↓reduceIte] <;> rfl) | fail) only [go_sem, ↓reduceIte, mk_empty, sl_3n, app_nil_map, mk_i64, max_nat]
    exact retV_eq rfl rfl
end Go.Proofs.YtfhmockdgbkpnaaGreat
namespace Go.Proofs.YtfhmockdgbkpnaaGreat
open Go Go.FW
set_option linter.unusedSimpArgs false
set_option linter.unusedVariables false
set_option maxRecDepth 100000
theorem r6_Right_ok {p : List Tm} {K E : Nat} (hb : PB K E p) (hv : PVd p) (hK : K < 2 ^ 36) (hl : p.length < 2 ^ 40) : FnSpec Tryz.prog 45 [PV.poly p] (· = .bool true) := by
  have h := r6_Right_raw (l := p.map toR) (k := max K 1) (fun t ht => by
    obtain ⟨s, hs, rfl⟩ := List.mem_map.1 ht
    have := (hb s hs).c
    exact RB_toR (by omega) (by have := (hb s hs).m.len; omega)) (by omega) (by omega) (by rw [List.length_map]; exact hl)
  rwa [toR_poly, prOk_toR hv] at h
end Go.Proofs.YtfhmockdgbkpnaaGreat
namespace Go.Proofs.YtfhmockdgbkpnaaGreat
open Go Go.FW
set_option linter.unusedSimpArgs false
set_option linter.unusedVariables false
set_option maxRecDepth 100000
theorem PolyForms_walk {l : List RTm} {k : Nat} (hb : ∀ t ∈ l, RB k t) (hk1 : 1 ≤ k) (hk : k < 2 ^ 36) (hl : l.length < 2 ^ 40) :
    FnSpec Tryz.prog 7 [PV.rpoly l] (· = .bool true) := by
  refine fn_of_vc mixed Tryz.func7 rfl c7_ok (by simp [c7]) fun C hP => ?_; simp only [c7]
  simp +decide (disch := first | omega | rfl | (simp +decide only [go_sem, ↓reduceIte] <;> rfl) | fail) only [go_sem, ↓reduceIte, rem64K, quo64K, remI64K, quoI64K, mulK64, mk_empty, sl_3n, app_nil_map, mk_i64, max_nat]
  refine cond_split (fun h12 => ?_) (fun h12 => ?_)
  · simp +decide (disch := first | omega | rfl | (simp +decide only [go_sem, ↓reduceIte] <;> rfl) | fail) only [go_sem, ↓reduceIte, rem64K, quo64K, remI64K, quoI64K, mulK64, mk_empty, sl_3n, app_nil_map, mk_i64, max_nat]
    refine call_eq0 hP alive_spec rfl rfl rfl ?_
    simp +decide (disch := first | omega | rfl | (simp +decide only [go_sem, ↓reduceIte] <;> rfl) | fail) only [go_sem, ↓reduceIte, rem64K, quo64K, remI64K, quoI64K, mulK64, mk_empty, sl_3n, app_nil_map, mk_i64, max_nat]
    exact retV_eq rfl rfl
  simp +decide (disch := first | omega | rfl | (simp +decide only [go_sem, ↓reduceIte] <;> rfl) | fail) only [go_sem, ↓reduceIte, rem64K, quo64K, remI64K, quoI64K, mulK64, mk_empty, sl_3n, app_nil_map, mk_i64, max_nat]
  refine vc_loopF (by repeat (first | exact okSk_ret | exact okSk_retM | exact okSk_retO | apply okSk_back | apply okSk_out | apply okSk_eb | apply okSk_c | apply okSk_o | apply okSk_again | apply okSk_backW)) [(2, 3), (9, 31)] [] (fun n J hp => ∃ i, n = l.length - i ∧ i ≤ l.length ∧ (∀ j (h : j < l.length), j < i → l[j].a.length ≤ 4 ∧ l[j].d.length ≤ 4) ∧ J 3 = .int .i64 (i : Nat)) l.length ?_ ?_
  · refine ⟨0, rfl, by omega, by omega, ?_⟩
    simp +decide (disch := first | omega | rfl | (simp +decide only [go_sem, ↓reduceIte] <;> rfl) | fail) only [go_sem, ↓reduceIte, rem64K, quo64K, remI64K, quoI64K, mulK64, mk_empty, sl_3n, app_nil_map, mk_i64, max_nat]
    rfl
  rintro _ J h ⟨i, rfl, hi, h1, h3⟩
  simp +decide (disch := first | omega | rfl | (simp +decide only [go_sem, ↓reduceIte, h3] <;> rfl) | fail) only [go_sem, ↓reduceIte, rem64K, quo64K, remI64K, quoI64K, mulK64, mk_empty, sl_3n, app_nil_map, mk_i64, max_nat, h3]
  refine cond_split (fun hg => ?_) (fun hg => ?_)
  · have hi' : i < l.length := by omega
    have hadd : l[i].a.length ≤ 4 ∧ l[i].d.length ≤ 4 → ∀ j (h : j < l.length), j < i + 1 → l[j].a.length ≤ 4 ∧ l[j].d.length ≤ 4 := fun h j hj hji => by
      by_cases e : j = i
      · subst e; exact h
      · exact h1 j hj (by omega)
    generalize hx : l[i] = x at *
    simp +decide (disch := first | omega | rfl | (simp +decide only [go_sem, ↓reduceIte, h3, hx] <;> rfl) | fail) only [go_sem, ↓reduceIte, rem64K, quo64K, remI64K, quoI64K, mulK64, mk_empty, sl_3n, app_nil_map, mk_i64, max_nat, h3, hx]
    refine guard_splitF (fun h70 => ?_) (fun h70 => ?_)
    · simp +decide (disch := first | omega | rfl | (simp +decide only [go_sem, ↓reduceIte] <;> rfl) | fail) only [go_sem, ↓reduceIte, rem64K, quo64K, remI64K, quoI64K, mulK64, mk_empty, sl_3n, app_nil_map, mk_i64, max_nat]
      refine call_eq0 hP alive_spec rfl rfl rfl ?_
      simp +decide (disch := first | omega | rfl | (simp +decide only [go_sem, ↓reduceIte] <;> rfl) | fail) only [go_sem, ↓reduceIte, rem64K, quo64K, remI64K, quoI64K, mulK64, mk_empty, sl_3n, app_nil_map, mk_i64, max_nat]
      exact retV_eq rfl rfl
    simp +decide (disch := first | omega | rfl | (simp +decide only [go_sem, ↓reduceIte, h3, hx] <;> rfl) | fail) only [go_sem, ↓reduceIte, rem64K, quo64K, remI64K, quoI64K, mulK64, mk_empty, sl_3n, app_nil_map, mk_i64, max_nat, h3, hx]
    refine call_eq0 hP short_spec rfl rfl rfl ?_
    simp +decide (disch := first | omega | rfl | (simp +decide only [go_sem, ↓reduceIte, h3, hx] <;> rfl) | fail) only [go_sem, ↓reduceIte, rem64K, quo64K, remI64K, quoI64K, mulK64, mk_empty, sl_3n, app_nil_map, mk_i64, max_nat, h3, hx]
    cases hsh : (decide (x.a.length ≤ 4) && decide (x.d.length ≤ 4))
    · simp +decide (disch := first | omega | rfl | (simp +decide only [go_sem, ↓reduceIte] <;> rfl) | fail) only [go_sem, ↓reduceIte, rem64K, quo64K, remI64K, quoI64K, mulK64, mk_empty, sl_3n, app_nil_map, mk_i64, max_nat]
      refine call_eq0 hP alive_spec rfl rfl rfl ?_
      simp +decide (disch := first | omega | rfl | (simp +decide only [go_sem, ↓reduceIte] <;> rfl) | fail) only [go_sem, ↓reduceIte, rem64K, quo64K, remI64K, quoI64K, mulK64, mk_empty, sl_3n, app_nil_map, mk_i64, max_nat]
      exact retV_eq rfl rfl
    simp only [Bool.and_eq_true, decide_eq_true_eq] at hsh
    simp +decide (disch := first | omega | rfl | (simp +decide only [go_sem, ↓reduceIte, h3] <;> rfl) | fail) only [go_sem, ↓reduceIte, rem64K, quo64K, remI64K, quoI64K, mulK64, mk_empty, sl_3n, app_nil_map, mk_i64, max_nat, h3]
    refine back_ovr (l.length - (i + 1)) (by omega) ⟨i + 1, rfl, by omega, hadd hsh, ?_⟩
    simp +decide (disch := first | omega | rfl | (simp +decide only [go_sem, ↓reduceIte] <;> rfl) | fail) only [go_sem, ↓reduceIte, rem64K, quo64K, remI64K, quoI64K, mulK64, mk_empty, sl_3n, app_nil_map, mk_i64, max_nat]
  · obtain rfl : i = l.length := by omega
    have hb4 : ∀ t ∈ l, RB 4 t := fun t ht => by
      obtain ⟨j, hj, rfl⟩ := List.getElem_of_mem ht
      have h5 := hb _ ht
      have h6 := h1 j hj hj
      exact ⟨⟨h5.r.1, h5.r.2.1, h6.1, h6.2⟩, h5.l⟩
    have hrs : ∀ t ∈ l, rs t.q ≤ 4 := fun t ht => (RB.raw (hb4 t ht) (by omega)).rs
    obtain ⟨hn1, hn2⟩ := pnorm_bound hrs
    have hnr := pnorm_nrm l
    have hK : l.length * (4 + 1) ≤ 12 * 5 := Nat.mul_le_mul (by omega) (by omega)
    simp +decide (disch := first | omega | rfl | (simp +decide only [go_sem, ↓reduceIte] <;> rfl) | fail) only [go_sem, ↓reduceIte, rem64K, quo64K, remI64K, quoI64K, mulK64, mk_empty, sl_3n, app_nil_map, mk_i64, max_nat]
    refine call_eq0 hP (p_Norm_spec hb4 (by omega) (by omega) (by omega)) rfl rfl rfl ?_
    simp +decide (disch := first | omega | rfl | (simp +decide only [go_sem, ↓reduceIte] <;> rfl) | fail) only [go_sem, ↓reduceIte, rem64K, quo64K, remI64K, quoI64K, mulK64, mk_empty, sl_3n, app_nil_map, mk_i64, max_nat]
    refine call_eq0 hP (p_Right_raw hb4 (by omega) (by omega) hl) rfl rfl rfl ?_
    simp +decide (disch := first | omega | rfl | (simp +decide only [go_sem, ↓reduceIte] <;> rfl) | fail) only [go_sem, ↓reduceIte, rem64K, quo64K, remI64K, quoI64K, mulK64, mk_empty, sl_3n, app_nil_map, mk_i64, max_nat]
    refine call_eq0 hP (r6_Right_raw hb4 (by omega) (by omega) hl) rfl rfl rfl ?_
    simp +decide (disch := first | omega | rfl | (simp +decide only [go_sem, ↓reduceIte, beq_self_eq_true] <;> rfl) | fail) only [go_sem, ↓reduceIte, rem64K, quo64K, remI64K, quoI64K, mulK64, mk_empty, sl_3n, app_nil_map, mk_i64, max_nat, beq_self_eq_true]
    refine call_eq0 hP (r6_Norm_spec hb4 (by omega) (by omega) (by omega)) rfl rfl rfl ?_
    rw [pnormR_eq]
    simp +decide (disch := first | omega | rfl | (simp +decide only [go_sem, ↓reduceIte, beq_self_eq_true] <;> rfl) | fail) only [go_sem, ↓reduceIte, rem64K, quo64K, remI64K, quoI64K, mulK64, mk_empty, sl_3n, app_nil_map, mk_i64, max_nat, beq_self_eq_true]
    refine call_eq0 hP (r6_Equal_spec hn1 hn1 (by omega) (by omega) (by omega) (by omega)) rfl rfl rfl ?_
    rw [decide_eq_true rfl]
    simp +decide (disch := first | omega | rfl | (simp +decide only [go_sem, ↓reduceIte, beq_self_eq_true] <;> rfl) | fail) only [go_sem, ↓reduceIte, rem64K, quo64K, remI64K, quoI64K, mulK64, mk_empty, sl_3n, app_nil_map, mk_i64, max_nat, beq_self_eq_true]
    refine call_eq0 hP (r6_Right_ok hn1 (hnr.pvd hn1 (by omega)) (by omega) (by omega)) rfl rfl rfl ?_
    simp +decide (disch := first | omega | rfl | (simp +decide only [go_sem, ↓reduceIte, beq_self_eq_true] <;> rfl) | fail) only [go_sem, ↓reduceIte, rem64K, quo64K, remI64K, quoI64K, mulK64, mk_empty, sl_3n, app_nil_map, mk_i64, max_nat, beq_self_eq_true]
    refine call_eq0 hP alive_spec rfl rfl rfl ?_
    simp +decide (disch := first | omega | rfl | (simp +decide only [go_sem, ↓reduceIte] <;> rfl) | fail) only [go_sem, ↓reduceIte, rem64K, quo64K, remI64K, quoI64K, mulK64, mk_empty, sl_3n, app_nil_map, mk_i64, max_nat]
    exact retV_eq rfl rfl
theorem PolyForms_all {l : List RTm} (hl : RPoly l) : FnSpec Tryz.prog 7 [PV.rpoly l] (· = .bool true) :=
  PolyForms_walk (k := 1048576) (fun t ht => (hl.2 t ht).1) (by omega) (by omega) (by have := hl.1; omega)
end Go.Proofs.YtfhmockdgbkpnaaGreat
namespace Go.Proofs.YtfhmockdgbkpnaaGreat
open Go Go.FW Go.ChangeShapes Go.WideShapes Go.ChangeAt Go.RowKit
set_option linter.unusedSimpArgs false
set_option linter.unusedVariables false
set_option maxRecDepth 100000
theorem polyForms_contract (H : Type) (enc : TypeId × Value → H) (W : World) (base : Nat) (args : Array Value) (ds gs : List (DataW H)) (before : List MemPlace)
    (hval : ∀ (j : Nat) t v, Tryz.f7.params[j]? = some t → args[j]? = some v → Value.okWide Tryz.prog W .any base t v)
    (hW : DataW.Whole enc Tryz.prog Tryz.f7.params.toList Rows.polyFormsSpec.vars false W args.toList ds gs before) (hk : Rows.uptoSmall H (ds ++ gs) = true) :
    Calls Tryz.prog 7 args W fun e W' => ∃ v, e = .returned v ∧ Rows.polyFormsSpec.post enc Tryz.prog Tryz.f7 false true false false W args v W' := by
  have hW' := hW
  obtain ⟨p, q, hA0, hV, rfl, hfz, hnd⟩ := hW
  have hA : DataW.TrodAll enc Tryz.prog W 0 (fun _ => true) true Tryz.f7.params.toList args.toList ds p := hA0
  rw [Tryz.params7] at hA hval
  obtain ⟨v0, vs0, e0, ds0, p0, q0, hargs, rfl, rfl, h0, r0⟩ := trodAll_cons hA
  obtain ⟨rfl, rfl, rfl⟩ := trodAll_nil r0
  obtain rfl : args = #[v0] := by cases args; simp_all
  obtain ⟨rfl, rfl⟩ := trodVars_none hV
  have hb := bulk_all hk
  simp only [List.append_nil, Rows.uptoBulkAll] at hb
  obtain ⟨a0, g0, b0⟩ := arg_terms (hval 0 _ v0 rfl rfl) h0 (by omega)
  exact post_true hW' rfl (by kernel_rfl) (by kernel_rfl) rfl (PolyForms_all b0) rfl
    (rep_list (vs := [v0]) (by
      intro i x hx v hv
      match i, hx, hv with
      | 0, hx, hv => simp at hx hv; subst hx hv; exact g0
      | i + 1, hx, hv => simp at hx) rfl)
theorem polyForms_lifted (os : Os) (started : os.Started) (H : Type) (enc : TypeId × Value → H) (F : Stop.Interp) :
    ReturnsInHanded {} Tryz.checked os 7 .any ((Rows.OpenSpec.upto Rows.polyFormsSpec).pre6 enc Tryz.prog Tryz.f7 Rows.polyFormsUptoRow.domain false) (((Rows.OpenSpec.upto Rows.polyFormsSpec).at F).post enc Tryz.prog Tryz.f7 false true false false) := by
  refine returnsInHanded_of_cond (C := Tryz.checked) (s := Rows.OpenSpec.upto Rows.polyFormsSpec) (k := Rows.uptoSmall) rfl own started (by kernel_rfl) Tryz.func7
    (OpenSpec.witness (enc := enc) (C := Tryz.checked) (s := Rows.OpenSpec.upto Rows.polyFormsSpec) (k := Rows.uptoSmall) rfl false ⟨#[], #[.slice none 0 0], []⟩ 8 (by kernel_rfl) (by kernel_rfl) (by kernel_rfl)
      (x := ([.nil], [], [])) (by kernel_rfl) rfl (by kernel_rfl)) ?_
  intro W base args ds gs before hval hW _ hk _
  exact polyForms_contract H enc W base args ds gs before hval hW hk
theorem polyForms_proved : Rows.PolyFormsUptoSaid :=
  OpenClaim.holds_of_cond 7 Tryz.f7 rfl rfl rfl rfl rfl rfl rfl ⟨rfl, rfl, rfl, rfl, rfl⟩ rfl rfl rfl rfl rfl (by kernel_rfl) Tryz.func7 (by kernel_rfl)
    (of_decide_eq_true (by kernel_rfl)) (by unfold Func.isWrapper; first | (rw [if_pos (by decide +kernel)]; kernel_rfl) | (rw [if_neg (by decide +kernel)]; exact ⟨rfl, rfl⟩))
    (fun os started H enc _ F => polyForms_lifted os started H enc F)
end Go.Proofs.YtfhmockdgbkpnaaGreat
