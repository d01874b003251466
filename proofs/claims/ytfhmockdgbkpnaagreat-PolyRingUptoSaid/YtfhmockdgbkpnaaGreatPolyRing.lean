/- PolyRing holds, for arguments of bulk at most 1048576. -/
import Derived.Test.YtfhmockdgbkpnaaGreatPolyRingPart6
set_option linter.unusedSimpArgs false
set_option linter.unnecessarySimpa false
set_option linter.unusedVariables false
namespace Go.Proofs.YtfhmockdgbkpnaaGreat
open Go Go.FW
set_option linter.unusedSimpArgs false
set_option linter.unusedVariables false
set_option maxRecDepth 100000
theorem p_Norm_spec {l : List RTm} {k : Nat} (hb : ∀ t ∈ l, RB k t) (hk1 : 1 ≤ k) (hk : k ≤ 2 ^ 24) (hll : l.length ≤ 100) : FnSpec Tryz.prog 43 [PV.rpoly l] (· = PV.poly (pnorm l)) := by
  have hrs : ∀ t ∈ l, rs t.q ≤ k := fun t ht => (RB.raw (hb t ht) hk1).rs
  refine fn_of_vc mixed Tryz.func43 rfl c43_ok (by simp [c43]) fun C hP => ?_; simp only [c43]
  simp +decide (disch := first | omega | rfl | (simp +decide only [go_sem, ↓reduceIte] <;> rfl) | fail) only [go_sem, ↓reduceIte, mk_empty, sl_3n, app_nil_map, mk_i64, max_nat]
  refine vc_nilF 3 900 1 23 (by omega) (by simp +decide (disch := first | omega | rfl | (simp +decide only [go_sem, ↓reduceIte] <;> rfl) | fail) only [go_sem, ↓reduceIte, mk_empty, sl_3n, app_nil_map, mk_i64, max_nat]) ?_
  refine vc_loopF (by repeat (first | exact okSk_ret | exact okSk_retM | exact okSk_retO | apply okSk_back | apply okSk_out | apply okSk_eb | apply okSk_c | apply okSk_o | apply okSk_again)) [(3, 3), (5, 7), (10, 51)] [5, 49, 50, 900] (fun n J hp => ∃ i, n = l.length - i ∧ i ≤ l.length ∧ J 3 = .ms 900 (nparts (l.take i)).length ∧ J 10 = .int .i64 (i : Nat) ∧ hp 900 = some ⟨1, 23, (nparts (l.take i)).map PV.poly, false⟩) l.length ?_ ?_
  · refine ⟨0, rfl, by omega, ?_⟩
    simp +decide (disch := first | omega | rfl | (simp +decide only [go_sem, ↓reduceIte] <;> rfl) | fail) only [go_sem, ↓reduceIte, mk_empty, sl_3n, app_nil_map, mk_i64, max_nat]
    exact ⟨rfl, rfl, rfl⟩
  rintro _ J h ⟨i, rfl, hi, h3, h10, hh⟩
  simp +decide (disch := first | omega | rfl | (simp +decide only [go_sem, ↓reduceIte, h3, h10] <;> rfl) | fail) only [go_sem, ↓reduceIte, mk_empty, sl_3n, app_nil_map, mk_i64, max_nat, h3, h10]
  refine cond_split (fun hg => ?_) (fun hg => ?_)
  · have hi' : i < l.length := by omega
    have hbt := hb _ (List.getElem_mem hi')
    have htk := nparts_take hi'
    have hpl := nparts_length (l.take i)
    rw [List.length_take] at hpl
    generalize hx : l[i] = x at *
    have hml := hbt.l
    have htl := trimI_length x.m
    have hrx := (RB.raw hbt hk1).rs
    simp +decide (disch := first | omega | rfl | (simp +decide only [go_sem, ↓reduceIte, h3, h10, hx] <;> rfl) | fail) only [go_sem, ↓reduceIte, mk_empty, sl_3n, app_nil_map, mk_i64, max_nat, h3, h10, hx]
    refine vc_loopF (by repeat (first | exact okSk_ret | exact okSk_retM | exact okSk_retO | apply okSk_back | apply okSk_out | apply okSk_eb | apply okSk_c | apply okSk_o | apply okSk_again)) [(6, 6), (17, 29)] [] (fun n J hp => n ≤ x.m.length ∧ cutI x.m n = trimI x.m ∧ J 6 = .int .i64 (n : Nat) ∧ hp 5 = some ⟨4, 49, [PV.rterm x], false⟩ ∧ hp 900 = some ⟨1, 23, (nparts (l.take i)).map PV.poly, false⟩) x.m.length ?_ ?_
    · refine ⟨by omega, rfl, ?_⟩
      simp +decide (disch := first | omega | rfl | (simp +decide only [go_sem, ↓reduceIte, hh] <;> rfl) | fail) only [go_sem, ↓reduceIte, mk_empty, sl_3n, app_nil_map, mk_i64, max_nat, hh]
    rintro n J2 h2 ⟨hn, hc, h6, hh5, hh2⟩
    simp +decide (disch := first | omega | rfl | (simp +decide only [go_sem, ↓reduceIte, h6, hh5] <;> rfl) | fail) only [go_sem, ↓reduceIte, mk_empty, sl_3n, app_nil_map, mk_i64, max_nat, h6, hh5]
    refine guard_split (fun hg2 => ?_) (fun hg2 => ?_)
    · obtain _ | n := n
      · omega
      have e : ((n + 1 : Nat) : Int) - 1 = n := by omega
      have hn' : n < x.m.length := by omega
      simp only [cutI] at hc
      simp +decide (disch := first | omega | rfl | (simp +decide only [go_sem, ↓reduceIte, h6, hh5, e] <;> rfl) | fail) only [go_sem, ↓reduceIte, mk_empty, sl_3n, app_nil_map, mk_i64, max_nat, h6, hh5, e]
      refine cond_split (fun hz => ?_) (fun hz => ?_)
      · rw [if_pos (by simp [hz, hn'])] at hc
        simp +decide (disch := first | omega | rfl | (simp +decide only [go_sem, ↓reduceIte, h6, hh5, e] <;> rfl) | fail) only [go_sem, ↓reduceIte, mk_empty, sl_3n, app_nil_map, mk_i64, max_nat, h6, hh5, e]
        refine back_ovr n (by omega) ⟨by omega, hc, ?_⟩
        simp +decide (disch := first | omega | rfl | (simp +decide only [go_sem, ↓reduceIte, hh5, hh2] <;> rfl) | fail) only [go_sem, ↓reduceIte, mk_empty, sl_3n, app_nil_map, mk_i64, max_nat, hh5, hh2]
      · rw [if_neg (by simpa [hn'] using hz)] at hc
        simp +decide (disch := first | omega | rfl | (simp +decide only [go_sem, ↓reduceIte, h6, hh5, e] <;> rfl) | fail) only [go_sem, ↓reduceIte, mk_empty, sl_3n, app_nil_map, mk_i64, max_nat, h6, hh5, e]
        rw [hc]
        refine call_eq0 hP (m_Right_spec (a := trimI x.m) (by omega)) rfl rfl rfl ?_
        simp +decide (disch := first | omega | rfl | (simp +decide only [go_sem, ↓reduceIte, h3, h10, h6, hh5] <;> rfl) | fail) only [go_sem, ↓reduceIte, mk_empty, sl_3n, app_nil_map, mk_i64, max_nat, h3, h10, h6, hh5]
        cases hmo : monoOk (trimI x.m)
        · rw [nterm_none hmo, Option.toList_none, List.filterMap_nil, List.append_nil] at htk
          simp +decide (disch := first | omega | rfl | (simp +decide only [go_sem, ↓reduceIte, h3, h10, h6, hh5] <;> rfl) | fail) only [go_sem, ↓reduceIte, mk_empty, sl_3n, app_nil_map, mk_i64, max_nat, h3, h10, h6, hh5]
          simp (disch := decide) only [killFs_nil, ovr_sub]
          refine back_ovr (l.length - (i + 1)) (by omega) ⟨i + 1, rfl, by omega, ?_⟩
          rw [htk]
          simp +decide (disch := first | omega | rfl | (simp +decide only [go_sem, ↓reduceIte, hh2, h3] <;> rfl) | fail) only [go_sem, ↓reduceIte, mk_empty, sl_3n, app_nil_map, mk_i64, max_nat, hh2, h3]
        rw [nterm_some hmo, Option.toList_some, List.filterMap_cons, List.filterMap_nil] at htk
        simp +decide (disch := first | omega | rfl | (simp +decide only [go_sem, ↓reduceIte, h3, h10, h6, hh5] <;> rfl) | fail) only [go_sem, ↓reduceIte, mk_empty, sl_3n, app_nil_map, mk_i64, max_nat, h3, h10, h6, hh5]
        refine call_eq0 hP (q_Of_spec (x := 0) (by omega) (by omega)) rfl rfl rfl ?_
        simp +decide (disch := first | omega | rfl | (simp +decide only [go_sem, ↓reduceIte, h3, h10, h6, hh5] <;> rfl) | fail) only [go_sem, ↓reduceIte, mk_empty, sl_3n, app_nil_map, mk_i64, max_nat, h3, h10, h6, hh5]
        refine call_eq0 hP (q_Add0_raw (RB.raw hbt hk1) (by omega)) rfl rfl rfl ?_
        simp +decide (disch := first | omega | rfl | (simp +decide only [go_sem, ↓reduceIte, h3, h10, h6, hh5] <;> rfl) | fail) only [go_sem, ↓reduceIte, mk_empty, sl_3n, app_nil_map, mk_i64, max_nat, h3, h10, h6, hh5]
        refine call_eq0 hP (m_Norm_spec (a := x.m) (by omega)) rfl rfl rfl ?_
        rw [if_pos hmo]
        simp +decide (disch := first | omega | rfl | (simp +decide only [go_sem, ↓reduceIte, h3, h10, h6, hh5] <;> rfl) | fail) only [go_sem, ↓reduceIte, mk_empty, sl_3n, app_nil_map, mk_i64, max_nat, h3, h10, h6, hh5]
        refine call_eq0 hP (p_single_spec (c := rv x.n x.a x.d) (m := trimI x.m) (by omega)) rfl rfl rfl ?_
        by_cases hz : rv x.n x.a x.d = 0
        · rw [show npart (x.q, trimI x.m) = none from if_pos hz, List.append_nil] at htk
          rw [if_pos hz]
          simp +decide (disch := first | omega | rfl | (simp +decide only [go_sem, ↓reduceIte, h3, h10, h6, hh5] <;> rfl) | fail) only [go_sem, ↓reduceIte, mk_empty, sl_3n, app_nil_map, mk_i64, max_nat, h3, h10, h6, hh5]
          simp (disch := decide) only [killFs_nil, ovr_sub]
          refine back_ovr (l.length - (i + 1)) (by omega) ⟨i + 1, rfl, by omega, ?_⟩
          rw [htk]
          simp +decide (disch := first | omega | rfl | (simp +decide only [go_sem, ↓reduceIte, hh2, h3] <;> rfl) | fail) only [go_sem, ↓reduceIte, mk_empty, sl_3n, app_nil_map, mk_i64, max_nat, hh2, h3]
        · rw [show npart (x.q, trimI x.m) = some [(x.q, trimI x.m)] from if_neg hz] at htk
          rw [if_neg hz]
          simp +decide (disch := first | omega | rfl | (simp +decide only [go_sem, ↓reduceIte, h3, h10, h6, hh5] <;> rfl) | fail) only [go_sem, ↓reduceIte, mk_empty, sl_3n, app_nil_map, mk_i64, max_nat, h3, h10, h6, hh5]
          rw [app_push_map (f := PV.poly) (y := [(rv x.n x.a x.d, trimI x.m)]) (xs := nparts (l.take i)) (ty' := 23) (fz := false) (by simp +decide (disch := first | omega | rfl | (simp +decide only [go_sem, ↓reduceIte, hh2] <;> rfl) | fail) only [go_sem, ↓reduceIte, mk_empty, sl_3n, app_nil_map, mk_i64, max_nat, hh2]) (by simp +decide (disch := first | omega | rfl | (simp +decide only [go_sem, ↓reduceIte] <;> rfl) | fail) only [go_sem, ↓reduceIte, mk_empty, sl_3n, app_nil_map, mk_i64, max_nat] <;> rfl) (by omega) rfl (by omega) (by omega)]
          simp +decide (disch := first | omega | rfl | (simp +decide only [go_sem, ↓reduceIte, h3, h10, h6, hh5] <;> rfl) | fail) only [go_sem, ↓reduceIte, mk_empty, sl_3n, app_nil_map, mk_i64, max_nat, h3, h10, h6, hh5]
          simp (disch := decide) only [killFs_nil, ovr_sub]
          refine back_ovr (l.length - (i + 1)) (by omega) ⟨i + 1, rfl, by omega, ?_⟩
          rw [htk]
          simp +decide (disch := first | omega | rfl | (simp +decide only [go_sem, ↓reduceIte, List.length_append] <;> rfl) | fail) only [go_sem, ↓reduceIte, mk_empty, sl_3n, app_nil_map, mk_i64, max_nat, List.length_append]
          rfl
    · obtain rfl : n = 0 := by omega
      simp +decide (disch := first | omega | rfl | (simp +decide only [go_sem, ↓reduceIte, h6, hh5] <;> rfl) | fail) only [go_sem, ↓reduceIte, mk_empty, sl_3n, app_nil_map, mk_i64, max_nat, h6, hh5]
      refine call_eq0 hP (m_Right_spec (a := []) (by simp)) rfl rfl rfl ?_
      rw [show monoOk [] = monoOk (trimI x.m) by rw [← hc]; rfl]
      simp +decide (disch := first | omega | rfl | (simp +decide only [go_sem, ↓reduceIte, h3, h10, h6, hh5] <;> rfl) | fail) only [go_sem, ↓reduceIte, mk_empty, sl_3n, app_nil_map, mk_i64, max_nat, h3, h10, h6, hh5]
      cases hmo : monoOk (trimI x.m)
      · rw [nterm_none hmo, Option.toList_none, List.filterMap_nil, List.append_nil] at htk
        simp +decide (disch := first | omega | rfl | (simp +decide only [go_sem, ↓reduceIte, h3, h10, h6, hh5] <;> rfl) | fail) only [go_sem, ↓reduceIte, mk_empty, sl_3n, app_nil_map, mk_i64, max_nat, h3, h10, h6, hh5]
        simp (disch := decide) only [killFs_nil, ovr_sub]
        refine back_ovr (l.length - (i + 1)) (by omega) ⟨i + 1, rfl, by omega, ?_⟩
        rw [htk]
        simp +decide (disch := first | omega | rfl | (simp +decide only [go_sem, ↓reduceIte, hh2, h3] <;> rfl) | fail) only [go_sem, ↓reduceIte, mk_empty, sl_3n, app_nil_map, mk_i64, max_nat, hh2, h3]
      rw [nterm_some hmo, Option.toList_some, List.filterMap_cons, List.filterMap_nil] at htk
      simp +decide (disch := first | omega | rfl | (simp +decide only [go_sem, ↓reduceIte, h3, h10, h6, hh5] <;> rfl) | fail) only [go_sem, ↓reduceIte, mk_empty, sl_3n, app_nil_map, mk_i64, max_nat, h3, h10, h6, hh5]
      refine call_eq0 hP (q_Of_spec (x := 0) (by omega) (by omega)) rfl rfl rfl ?_
      simp +decide (disch := first | omega | rfl | (simp +decide only [go_sem, ↓reduceIte, h3, h10, h6, hh5] <;> rfl) | fail) only [go_sem, ↓reduceIte, mk_empty, sl_3n, app_nil_map, mk_i64, max_nat, h3, h10, h6, hh5]
      refine call_eq0 hP (q_Add0_raw (RB.raw hbt hk1) (by omega)) rfl rfl rfl ?_
      simp +decide (disch := first | omega | rfl | (simp +decide only [go_sem, ↓reduceIte, h3, h10, h6, hh5] <;> rfl) | fail) only [go_sem, ↓reduceIte, mk_empty, sl_3n, app_nil_map, mk_i64, max_nat, h3, h10, h6, hh5]
      refine call_eq0 hP (m_Norm_spec (a := x.m) (by omega)) rfl rfl rfl ?_
      rw [if_pos hmo]
      simp +decide (disch := first | omega | rfl | (simp +decide only [go_sem, ↓reduceIte, h3, h10, h6, hh5] <;> rfl) | fail) only [go_sem, ↓reduceIte, mk_empty, sl_3n, app_nil_map, mk_i64, max_nat, h3, h10, h6, hh5]
      refine call_eq0 hP (p_single_spec (c := rv x.n x.a x.d) (m := trimI x.m) (by omega)) rfl rfl rfl ?_
      by_cases hz : rv x.n x.a x.d = 0
      · rw [show npart (x.q, trimI x.m) = none from if_pos hz, List.append_nil] at htk
        rw [if_pos hz]
        simp +decide (disch := first | omega | rfl | (simp +decide only [go_sem, ↓reduceIte, h3, h10, h6, hh5] <;> rfl) | fail) only [go_sem, ↓reduceIte, mk_empty, sl_3n, app_nil_map, mk_i64, max_nat, h3, h10, h6, hh5]
        simp (disch := decide) only [killFs_nil, ovr_sub]
        refine back_ovr (l.length - (i + 1)) (by omega) ⟨i + 1, rfl, by omega, ?_⟩
        rw [htk]
        simp +decide (disch := first | omega | rfl | (simp +decide only [go_sem, ↓reduceIte, hh2, h3] <;> rfl) | fail) only [go_sem, ↓reduceIte, mk_empty, sl_3n, app_nil_map, mk_i64, max_nat, hh2, h3]
      · rw [show npart (x.q, trimI x.m) = some [(x.q, trimI x.m)] from if_neg hz] at htk
        rw [if_neg hz]
        simp +decide (disch := first | omega | rfl | (simp +decide only [go_sem, ↓reduceIte, h3, h10, h6, hh5] <;> rfl) | fail) only [go_sem, ↓reduceIte, mk_empty, sl_3n, app_nil_map, mk_i64, max_nat, h3, h10, h6, hh5]
        rw [app_push_map (f := PV.poly) (y := [(rv x.n x.a x.d, trimI x.m)]) (xs := nparts (l.take i)) (ty' := 23) (fz := false) (by simp +decide (disch := first | omega | rfl | (simp +decide only [go_sem, ↓reduceIte, hh2] <;> rfl) | fail) only [go_sem, ↓reduceIte, mk_empty, sl_3n, app_nil_map, mk_i64, max_nat, hh2]) (by simp +decide (disch := first | omega | rfl | (simp +decide only [go_sem, ↓reduceIte] <;> rfl) | fail) only [go_sem, ↓reduceIte, mk_empty, sl_3n, app_nil_map, mk_i64, max_nat] <;> rfl) (by omega) rfl (by omega) (by omega)]
        simp +decide (disch := first | omega | rfl | (simp +decide only [go_sem, ↓reduceIte, h3, h10, h6, hh5] <;> rfl) | fail) only [go_sem, ↓reduceIte, mk_empty, sl_3n, app_nil_map, mk_i64, max_nat, h3, h10, h6, hh5]
        simp (disch := decide) only [killFs_nil, ovr_sub]
        refine back_ovr (l.length - (i + 1)) (by omega) ⟨i + 1, rfl, by omega, ?_⟩
        rw [htk]
        simp +decide (disch := first | omega | rfl | (simp +decide only [go_sem, ↓reduceIte, List.length_append] <;> rfl) | fail) only [go_sem, ↓reduceIte, mk_empty, sl_3n, app_nil_map, mk_i64, max_nat, List.length_append]
        rfl
  · obtain rfl : i = l.length := by omega
    rw [List.take_length] at hh h3
    have hpl := nparts_length l
    have hpn := plen_nparts l
    have hK : (nparts l).length * (k + 1) ≤ 100 * (2 ^ 24 + 1) := Nat.mul_le_mul (by omega) (by omega)
    simp +decide (disch := first | omega | rfl | (simp +decide only [go_sem, ↓reduceIte, h3, hh] <;> rfl) | fail) only [go_sem, ↓reduceIte, mk_empty, sl_3n, app_nil_map, mk_i64, max_nat, h3, hh]
    refine call_eq hP (p_sum_spec (K := k + 1) (E := 1048576) (by omega) _ (nparts l) (Nat.le_refl _) (nparts_PB hrs) (by omega) (by omega) (by omega)) (by simp +decide (disch := first | omega | rfl | (simp +decide only [go_sem, ↓reduceIte, hh, looks3, List.contains_cons, List.contains_nil, List.flatMap_cons, List.flatMap_nil, List.append_nil] <;> rfl) | fail) only [go_sem, ↓reduceIte, mk_empty, sl_3n, app_nil_map, mk_i64, max_nat, hh, looks3, List.contains_cons, List.contains_nil, List.flatMap_cons, List.flatMap_nil, List.append_nil]; simp [List.take_of_length_le]) rfl ?_
    simp +decide (disch := first | omega | rfl | (simp +decide only [go_sem, ↓reduceIte] <;> rfl) | fail) only [go_sem, ↓reduceIte, mk_empty, sl_3n, app_nil_map, mk_i64, max_nat]
    exact retV_eq rfl rfl
end Go.Proofs.YtfhmockdgbkpnaaGreat
namespace Go.Proofs.YtfhmockdgbkpnaaGreat
open Go Go.FW
set_option linter.unusedSimpArgs false
set_option linter.unusedVariables false
set_option maxRecDepth 100000
theorem r6_Right_ok {p : List Tm} {K E : Nat} (hb : PB K E p) (hv : PVd p) (hK : K < 2 ^ 36) (hl : p.length < 2 ^ 40) : FnSpec Tryz.prog 45 [PV.poly p] (· = .bool true) := by
  have h := r6_Right_raw (l := p.map toR) (k := max K 1) (fun t ht => by
    obtain ⟨s, hs, rfl⟩ := List.mem_map.1 ht
    have := (hb s hs).c
    exact RB_toR (by omega) (by have := (hb s hs).m.len; omega)) (by omega) (by omega) (by rw [List.length_map]; exact hl)
  rwa [toR_poly, prOk_toR hv] at h
theorem p_Norm_ok {p : List Tm} {K E : Nat} (hb : PB K E p) (hv : PVd p) (hK : K ≤ 2 ^ 24) (hl : p.length ≤ 100) : FnSpec Tryz.prog 43 [PV.poly p] (· = PV.poly p) := by
  have h := p_Norm_spec (l := p.map toR) (k := max K 1) (fun t ht => by
    obtain ⟨s, hs, rfl⟩ := List.mem_map.1 ht
    have := (hb s hs).c
    exact RB_toR (by omega) (by have := (hb s hs).m.len; omega)) (by omega) (by omega) (by rw [List.length_map]; exact hl)
  have e : (p.map toR).map RTm.tm = p := by
    rw [List.map_map]
    exact (List.map_congr_left fun t _ => toR_tm t).trans (List.map_id p)
  rwa [toR_poly, pnorm_id (fun t ht => by
    obtain ⟨s, hs, rfl⟩ := List.mem_map.1 ht
    exact (hv.t s hs).m) (by rw [e]; exact hv.nrm), e] at h
end Go.Proofs.YtfhmockdgbkpnaaGreat
namespace Go.Proofs.YtfhmockdgbkpnaaGreat
open Go Go.FW
set_option linter.unusedSimpArgs false
set_option linter.unusedVariables false
set_option maxRecDepth 100000
theorem PolyRing_walk {p q s : List RTm} {k : Nat} (hb : ∀ t ∈ p, RB k t) (hb2 : ∀ t ∈ q, RB k t) (hb3 : ∀ t ∈ s, RB k t) (hk1 : 1 ≤ k) (hk : k < 2 ^ 36) (hl : p.length < 2 ^ 40) (hl2 : q.length < 2 ^ 40) (hl3 : s.length < 2 ^ 40) :
    FnSpec Tryz.prog 8 [PV.rpoly p, PV.rpoly q, PV.rpoly s] (· = .bool true) := by
  refine fn_of_vc mixed Tryz.func8 rfl c8_ok (by simp [c8]) fun C hP => ?_; simp only [c8]
  simp +decide (disch := first | omega | rfl | (simp +decide only [go_sem, ↓reduceIte] <;> rfl) | fail) only [go_sem, ↓reduceIte, rem64K, quo64K, remI64K, quoI64K, mulK64, mk_empty, sl_3n, app_nil_map, mk_i64, max_nat]
  refine call_eq0 hP (r6_Small_spec (n := 5) (v := 4) (e := (4 : Nat)) hb hk1 hk hl) rfl rfl rfl ?_
  simp +decide (disch := first | omega | rfl | (simp +decide only [go_sem, ↓reduceIte] <;> rfl) | fail) only [go_sem, ↓reduceIte, rem64K, quo64K, remI64K, quoI64K, mulK64, mk_empty, sl_3n, app_nil_map, mk_i64, max_nat]
  cases hs1 : small 5 4 (4 : Nat) p
  · simp +decide (disch := first | omega | rfl | (simp +decide only [go_sem, ↓reduceIte] <;> rfl) | fail) only [go_sem, ↓reduceIte, rem64K, quo64K, remI64K, quoI64K, mulK64, mk_empty, sl_3n, app_nil_map, mk_i64, max_nat]
    refine call_eq0 hP alive_spec rfl rfl rfl ?_
    simp +decide (disch := first | omega | rfl | (simp +decide only [go_sem, ↓reduceIte] <;> rfl) | fail) only [go_sem, ↓reduceIte, rem64K, quo64K, remI64K, quoI64K, mulK64, mk_empty, sl_3n, app_nil_map, mk_i64, max_nat]
    exact retV_eq rfl rfl
  simp +decide (disch := first | omega | rfl | (simp +decide only [go_sem, ↓reduceIte] <;> rfl) | fail) only [go_sem, ↓reduceIte, rem64K, quo64K, remI64K, quoI64K, mulK64, mk_empty, sl_3n, app_nil_map, mk_i64, max_nat]
  refine call_eq0 hP (r6_Small_spec (n := 5) (v := 4) (e := (4 : Nat)) hb2 hk1 hk hl2) rfl rfl rfl ?_
  simp +decide (disch := first | omega | rfl | (simp +decide only [go_sem, ↓reduceIte] <;> rfl) | fail) only [go_sem, ↓reduceIte, rem64K, quo64K, remI64K, quoI64K, mulK64, mk_empty, sl_3n, app_nil_map, mk_i64, max_nat]
  cases hs2 : small 5 4 (4 : Nat) q
  · simp +decide (disch := first | omega | rfl | (simp +decide only [go_sem, ↓reduceIte] <;> rfl) | fail) only [go_sem, ↓reduceIte, rem64K, quo64K, remI64K, quoI64K, mulK64, mk_empty, sl_3n, app_nil_map, mk_i64, max_nat]
    refine call_eq0 hP alive_spec rfl rfl rfl ?_
    simp +decide (disch := first | omega | rfl | (simp +decide only [go_sem, ↓reduceIte] <;> rfl) | fail) only [go_sem, ↓reduceIte, rem64K, quo64K, remI64K, quoI64K, mulK64, mk_empty, sl_3n, app_nil_map, mk_i64, max_nat]
    exact retV_eq rfl rfl
  simp +decide (disch := first | omega | rfl | (simp +decide only [go_sem, ↓reduceIte] <;> rfl) | fail) only [go_sem, ↓reduceIte, rem64K, quo64K, remI64K, quoI64K, mulK64, mk_empty, sl_3n, app_nil_map, mk_i64, max_nat]
  refine call_eq0 hP (r6_Small_spec (n := 5) (v := 4) (e := (4 : Nat)) hb3 hk1 hk hl3) rfl rfl rfl ?_
  simp +decide (disch := first | omega | rfl | (simp +decide only [go_sem, ↓reduceIte] <;> rfl) | fail) only [go_sem, ↓reduceIte, rem64K, quo64K, remI64K, quoI64K, mulK64, mk_empty, sl_3n, app_nil_map, mk_i64, max_nat]
  cases hs3 : small 5 4 (4 : Nat) s
  · simp +decide (disch := first | omega | rfl | (simp +decide only [go_sem, ↓reduceIte] <;> rfl) | fail) only [go_sem, ↓reduceIte, rem64K, quo64K, remI64K, quoI64K, mulK64, mk_empty, sl_3n, app_nil_map, mk_i64, max_nat]
    refine call_eq0 hP alive_spec rfl rfl rfl ?_
    simp +decide (disch := first | omega | rfl | (simp +decide only [go_sem, ↓reduceIte] <;> rfl) | fail) only [go_sem, ↓reduceIte, rem64K, quo64K, remI64K, quoI64K, mulK64, mk_empty, sl_3n, app_nil_map, mk_i64, max_nat]
    exact retV_eq rfl rfl
  obtain ⟨_, e1, _, v1, b1, l1⟩ := small_spec hb hs1
  obtain ⟨_, e2, _, v2, b2, l2⟩ := small_spec hb2 hs2
  obtain ⟨_, e3, _, v3, b3, l3⟩ := small_spec hb3 hs3
  rw [e1, e2, e3]
  clear e1 e2 e3
  generalize p.map RTm.tm = P at *
  generalize q.map RTm.tm = Q at *
  generalize s.map RTm.tm = S at *
  have nP := v1.nrm
  have nQ := v2.nrm
  have nS := v3.nrm
  have addB : ∀ {A B : List Tm} {K L E : Nat} {a b : Nat}, PB K E A → PB L E B → A.length ≤ a → B.length ≤ b → PB (K + L) E (padd A B) ∧ (padd A B).length ≤ a + b := fun h1 h2 h3 h4 => ⟨padd_PB _ _ h1 h2, Nat.le_trans (padd_length _ _) (Nat.add_le_add h3 h4)⟩
  have mulB : ∀ {A B : List Tm} {K L E F : Nat} {a b : Nat}, PB K E A → PB L F B → A.length ≤ a → B.length ≤ b → PB (min a b * (K + L)) (E + F) (pmul A B) ∧ (pmul A B).length ≤ a * b := fun h1 h2 h3 h4 => ⟨(pmul_bound h1 h2).1.mono (Nat.mul_le_mul_right _ (by omega)) (Nat.le_refl _), Nat.le_trans (pmul_bound h1 h2).2 (Nat.mul_le_mul h3 h4)⟩
  obtain ⟨pqB, pqL⟩ := addB b1 b2 l1 l2
  obtain ⟨qpB, qpL⟩ := addB b2 b1 l2 l1
  obtain ⟨mB, mL⟩ := mulB b1 b2 l1 l2
  obtain ⟨m2B, m2L⟩ := mulB b2 b1 l2 l1
  obtain ⟨psB, psL⟩ := mulB b1 b3 l1 l3
  obtain ⟨qsB, qsL⟩ := mulB b2 b3 l2 l3
  obtain ⟨tB, tL⟩ := mulB mB b3 mL l3
  obtain ⟨uB, uL⟩ := mulB b1 qsB l1 qsL
  obtain ⟨wB, wL⟩ := mulB pqB b3 pqL l3
  obtain ⟨xB, xL⟩ := addB psB qsB psL qsL
  have vpq := (padd_nrm nP nQ).pvd pqB (by omega)
  have vm := (pmul_nrm nP.s nQ.s).pvd mB (by omega)
  have subB : PB (5 + 5 + (5 + 2)) 4 (psub (padd P Q) Q) := padd_PB _ _ pqB (pneg_PB b2)
  have subL : (psub (padd P Q) Q).length ≤ 20 := Nat.le_trans (padd_length _ _) (by have := pscale_length Q (-1); have e : (pneg Q).length = (pscale Q (-1)).length := rfl; omega)
  have q1 := padd_comm nP nQ
  have q2 := pmul_comm nP nQ
  have q3 := psub_padd nP nQ
  have q4 := pmul_assoc nP nQ nS
  have q5 := padd_pmul nP nQ nS
  have mulH : ∀ {A B : List Tm} {K E : Nat} {a b : Nat}, PB K E A → PB K E B → A.length ≤ a → B.length ≤ b → a ≤ 1000 → b ≤ 1000 → K ≤ 10000 → E ≤ 1000 → FnSpec Tryz.prog 39 [PV.poly A, PV.poly B] (· = PV.poly (pmul A B)) := fun {A B K E a b} h1 h2 h3 h4 h5 h6 h7 h8 => by
    have : A.length * B.length ≤ 1000 * 1000 := Nat.mul_le_mul (by omega) (by omega)
    have : min A.length B.length * (K + K) ≤ 1000 * 20000 := Nat.mul_le_mul (by omega) (by omega)
    exact p_Mul_spec h1 h2 (by omega) (by omega) (by omega) (by omega) (by omega) (by omega)
  simp +decide (disch := first | omega | rfl | (simp +decide only [go_sem, ↓reduceIte] <;> rfl) | fail) only [go_sem, ↓reduceIte, rem64K, quo64K, remI64K, quoI64K, mulK64, mk_empty, sl_3n, app_nil_map, mk_i64, max_nat]
  refine call_eq0 hP (p_Add_spec b1 b2 (by omega) (by omega) (by omega) (by omega)) rfl rfl rfl ?_
  simp +decide (disch := first | omega | rfl | (simp +decide only [go_sem, ↓reduceIte] <;> rfl) | fail) only [go_sem, ↓reduceIte, rem64K, quo64K, remI64K, quoI64K, mulK64, mk_empty, sl_3n, app_nil_map, mk_i64, max_nat]
  refine call_eq0 hP (mulH b1 b2 l1 l2 (by omega) (by omega) (by omega) (by omega)) rfl rfl rfl ?_
  simp +decide (disch := first | omega | rfl | (simp +decide only [go_sem, ↓reduceIte] <;> rfl) | fail) only [go_sem, ↓reduceIte, rem64K, quo64K, remI64K, quoI64K, mulK64, mk_empty, sl_3n, app_nil_map, mk_i64, max_nat]
  refine call_eq0 hP (r6_Right_ok pqB vpq (by omega) (by omega)) rfl rfl rfl ?_
  simp +decide (disch := first | omega | rfl | (simp +decide only [go_sem, ↓reduceIte] <;> rfl) | fail) only [go_sem, ↓reduceIte, rem64K, quo64K, remI64K, quoI64K, mulK64, mk_empty, sl_3n, app_nil_map, mk_i64, max_nat]
  refine call_eq0 hP (r6_Right_ok mB vm (by omega) (by omega)) rfl rfl rfl ?_
  simp +decide (disch := first | omega | rfl | (simp +decide only [go_sem, ↓reduceIte] <;> rfl) | fail) only [go_sem, ↓reduceIte, rem64K, quo64K, remI64K, quoI64K, mulK64, mk_empty, sl_3n, app_nil_map, mk_i64, max_nat]
  refine call_eq0 hP (p_Add_spec b2 b1 (by omega) (by omega) (by omega) (by omega)) rfl rfl rfl ?_
  simp +decide (disch := first | omega | rfl | (simp +decide only [go_sem, ↓reduceIte] <;> rfl) | fail) only [go_sem, ↓reduceIte, rem64K, quo64K, remI64K, quoI64K, mulK64, mk_empty, sl_3n, app_nil_map, mk_i64, max_nat]
  refine call_eq0 hP (p_Equal_spec pqB qpB (by omega) (by omega) (by omega) (by omega)) rfl rfl rfl ?_
  rw [decide_eq_true q1]
  simp +decide (disch := first | omega | rfl | (simp +decide only [go_sem, ↓reduceIte] <;> rfl) | fail) only [go_sem, ↓reduceIte, rem64K, quo64K, remI64K, quoI64K, mulK64, mk_empty, sl_3n, app_nil_map, mk_i64, max_nat]
  refine call_eq0 hP (mulH b2 b1 l2 l1 (by omega) (by omega) (by omega) (by omega)) rfl rfl rfl ?_
  simp +decide (disch := first | omega | rfl | (simp +decide only [go_sem, ↓reduceIte] <;> rfl) | fail) only [go_sem, ↓reduceIte, rem64K, quo64K, remI64K, quoI64K, mulK64, mk_empty, sl_3n, app_nil_map, mk_i64, max_nat]
  refine call_eq0 hP (p_Equal_spec mB m2B (by omega) (by omega) (by omega) (by omega)) rfl rfl rfl ?_
  rw [decide_eq_true q2]
  simp +decide (disch := first | omega | rfl | (simp +decide only [go_sem, ↓reduceIte] <;> rfl) | fail) only [go_sem, ↓reduceIte, rem64K, quo64K, remI64K, quoI64K, mulK64, mk_empty, sl_3n, app_nil_map, mk_i64, max_nat]
  refine call_eq0 hP (p_Norm_ok b1 v1 (by omega) (by omega)) rfl rfl rfl ?_
  simp +decide (disch := first | omega | rfl | (simp +decide only [go_sem, ↓reduceIte] <;> rfl) | fail) only [go_sem, ↓reduceIte, rem64K, quo64K, remI64K, quoI64K, mulK64, mk_empty, sl_3n, app_nil_map, mk_i64, max_nat]
  refine call_eq0 hP (p_Equal_spec b1 b1 (by omega) (by omega) (by omega) (by omega)) rfl rfl rfl ?_
  rw [decide_eq_true (p := P = P) rfl]
  simp +decide (disch := first | omega | rfl | (simp +decide only [go_sem, ↓reduceIte] <;> rfl) | fail) only [go_sem, ↓reduceIte, rem64K, quo64K, remI64K, quoI64K, mulK64, mk_empty, sl_3n, app_nil_map, mk_i64, max_nat]
  refine call_eq0 hP (p_Sub_spec pqB (b2.mono (by omega) (Nat.le_refl _)) (by omega) (by omega) (by omega) (by omega) (by omega)) rfl rfl rfl ?_
  simp +decide (disch := first | omega | rfl | (simp +decide only [go_sem, ↓reduceIte] <;> rfl) | fail) only [go_sem, ↓reduceIte, rem64K, quo64K, remI64K, quoI64K, mulK64, mk_empty, sl_3n, app_nil_map, mk_i64, max_nat]
  refine call_eq0 hP (p_Equal_spec (subB.mono (K' := 20) (by omega) (Nat.le_refl _)) (b1.mono (by omega) (Nat.le_refl _)) (by omega) (by omega) (by omega) (by omega)) rfl rfl rfl ?_
  rw [decide_eq_true q3]
  simp +decide (disch := first | omega | rfl | (simp +decide only [go_sem, ↓reduceIte] <;> rfl) | fail) only [go_sem, ↓reduceIte, rem64K, quo64K, remI64K, quoI64K, mulK64, mk_empty, sl_3n, app_nil_map, mk_i64, max_nat]
  refine call_eq0 hP (mulH mB (b3.mono (by decide) (by decide)) mL l3 (by decide) (by decide) (by decide) (by decide)) rfl rfl rfl ?_
  simp +decide (disch := first | omega | rfl | (simp +decide only [go_sem, ↓reduceIte] <;> rfl) | fail) only [go_sem, ↓reduceIte, rem64K, quo64K, remI64K, quoI64K, mulK64, mk_empty, sl_3n, app_nil_map, mk_i64, max_nat]
  refine call_eq0 hP (mulH b2 b3 l2 l3 (by omega) (by omega) (by omega) (by omega)) rfl rfl rfl ?_
  simp +decide (disch := first | omega | rfl | (simp +decide only [go_sem, ↓reduceIte] <;> rfl) | fail) only [go_sem, ↓reduceIte, rem64K, quo64K, remI64K, quoI64K, mulK64, mk_empty, sl_3n, app_nil_map, mk_i64, max_nat]
  refine call_eq0 hP (mulH (b1.mono (by decide) (by decide)) qsB l1 qsL (by decide) (by decide) (by decide) (by decide)) rfl rfl rfl ?_
  simp +decide (disch := first | omega | rfl | (simp +decide only [go_sem, ↓reduceIte] <;> rfl) | fail) only [go_sem, ↓reduceIte, rem64K, quo64K, remI64K, quoI64K, mulK64, mk_empty, sl_3n, app_nil_map, mk_i64, max_nat]
  refine call_eq0 hP (p_Equal_spec (K := 1000) (E := 100) (tB.mono (by decide) (by decide)) (uB.mono (by decide) (by decide)) (by omega) (by omega) (by omega) (by omega)) rfl rfl rfl ?_
  rw [decide_eq_true q4]
  simp +decide (disch := first | omega | rfl | (simp +decide only [go_sem, ↓reduceIte] <;> rfl) | fail) only [go_sem, ↓reduceIte, rem64K, quo64K, remI64K, quoI64K, mulK64, mk_empty, sl_3n, app_nil_map, mk_i64, max_nat]
  refine call_eq0 hP (mulH pqB (b3.mono (by omega) (by omega)) pqL l3 (by omega) (by omega) (by omega) (by omega)) rfl rfl rfl ?_
  simp +decide (disch := first | omega | rfl | (simp +decide only [go_sem, ↓reduceIte] <;> rfl) | fail) only [go_sem, ↓reduceIte, rem64K, quo64K, remI64K, quoI64K, mulK64, mk_empty, sl_3n, app_nil_map, mk_i64, max_nat]
  refine call_eq0 hP (mulH b1 b3 l1 l3 (by omega) (by omega) (by omega) (by omega)) rfl rfl rfl ?_
  simp +decide (disch := first | omega | rfl | (simp +decide only [go_sem, ↓reduceIte] <;> rfl) | fail) only [go_sem, ↓reduceIte, rem64K, quo64K, remI64K, quoI64K, mulK64, mk_empty, sl_3n, app_nil_map, mk_i64, max_nat]
  refine call_eq0 hP (mulH b2 b3 l2 l3 (by omega) (by omega) (by omega) (by omega)) rfl rfl rfl ?_
  simp +decide (disch := first | omega | rfl | (simp +decide only [go_sem, ↓reduceIte] <;> rfl) | fail) only [go_sem, ↓reduceIte, rem64K, quo64K, remI64K, quoI64K, mulK64, mk_empty, sl_3n, app_nil_map, mk_i64, max_nat]
  refine call_eq0 hP (p_Add_spec psB qsB (by omega) (by omega) (by omega) (by omega)) rfl rfl rfl ?_
  simp +decide (disch := first | omega | rfl | (simp +decide only [go_sem, ↓reduceIte] <;> rfl) | fail) only [go_sem, ↓reduceIte, rem64K, quo64K, remI64K, quoI64K, mulK64, mk_empty, sl_3n, app_nil_map, mk_i64, max_nat]
  refine call_eq0 hP (p_Equal_spec (K := 1000) (E := 100) (wB.mono (by decide) (by decide)) (xB.mono (by decide) (by decide)) (by omega) (by omega) (by omega) (by omega)) rfl rfl rfl ?_
  rw [decide_eq_true q5]
  simp +decide (disch := first | omega | rfl | (simp +decide only [go_sem, ↓reduceIte] <;> rfl) | fail) only [go_sem, ↓reduceIte, rem64K, quo64K, remI64K, quoI64K, mulK64, mk_empty, sl_3n, app_nil_map, mk_i64, max_nat]
  refine call_eq0 hP alive_spec rfl rfl rfl ?_
  simp +decide (disch := first | omega | rfl | (simp +decide only [go_sem, ↓reduceIte] <;> rfl) | fail) only [go_sem, ↓reduceIte, rem64K, quo64K, remI64K, quoI64K, mulK64, mk_empty, sl_3n, app_nil_map, mk_i64, max_nat]
  exact retV_eq rfl rfl
theorem PolyRing_all {p q s : List RTm} (h1 : RPoly p) (h2 : RPoly q) (h3 : RPoly s) : FnSpec Tryz.prog 8 [PV.rpoly p, PV.rpoly q, PV.rpoly s] (· = .bool true) :=
  PolyRing_walk (k := 1048576) (fun t ht => (h1.2 t ht).1) (fun t ht => (h2.2 t ht).1) (fun t ht => (h3.2 t ht).1) (by omega) (by omega) (by have := h1.1; omega) (by have := h2.1; omega) (by have := h3.1; omega)
end Go.Proofs.YtfhmockdgbkpnaaGreat
namespace Go.Proofs.YtfhmockdgbkpnaaGreat
open Go Go.FW Go.ChangeShapes Go.WideShapes Go.ChangeAt Go.RowKit
set_option linter.unusedSimpArgs false
set_option linter.unusedVariables false
set_option maxRecDepth 100000
theorem polyRing_contract (H : Type) (enc : TypeId × Value → H) (W : World) (base : Nat) (args : Array Value) (ds gs : List (DataW H)) (before : List MemPlace)
    (hval : ∀ (j : Nat) t v, Tryz.f8.params[j]? = some t → args[j]? = some v → Value.okWide Tryz.prog W .any base t v)
    (hW : DataW.Whole enc Tryz.prog Tryz.f8.params.toList Rows.polyRingSpec.vars false W args.toList ds gs before) (hk : Rows.uptoSmall H (ds ++ gs) = true) :
    Calls Tryz.prog 8 args W fun e W' => ∃ v, e = .returned v ∧ Rows.polyRingSpec.post enc Tryz.prog Tryz.f8 false true false false W args v W' := by
  have hW' := hW
  obtain ⟨p, q, hA0, hV, rfl, hfz, hnd⟩ := hW
  have hA : DataW.TrodAll enc Tryz.prog W 0 (fun _ => true) true Tryz.f8.params.toList args.toList ds p := hA0
  rw [Tryz.params8] at hA hval
  obtain ⟨v0, vs0, e0, ds0, p0, q0, hargs, rfl, rfl, h0, r0⟩ := trodAll_cons hA
  obtain ⟨v1, vs1, e1, ds1, p1, q1, rfl, rfl, rfl, h1, r1⟩ := trodAll_cons r0
  obtain ⟨v2, vs2, e2, ds2, p2, q2, rfl, rfl, rfl, h2, r2⟩ := trodAll_cons r1
  obtain ⟨rfl, rfl, rfl⟩ := trodAll_nil r2
  obtain rfl : args = #[v0, v1, v2] := by cases args; simp_all
  obtain ⟨rfl, rfl⟩ := trodVars_none hV
  have hb := bulk_all hk
  simp only [List.append_nil, Rows.uptoBulkAll] at hb
  obtain ⟨a0, g0, b0⟩ := arg_poly (hval 0 _ v0 rfl rfl) h0 (by omega)
  obtain ⟨a1, g1, b1⟩ := arg_poly (hval 1 _ v1 rfl rfl) h1 (by omega)
  obtain ⟨a2, g2, b2⟩ := arg_poly (hval 2 _ v2 rfl rfl) h2 (by omega)
  exact post_true hW' rfl (by kernel_rfl) (by kernel_rfl) rfl (PolyRing_all b0 b1 b2) rfl
    (rep_list (vs := [v0, v1, v2]) (by
      intro i x hx v hv
      match i, hx, hv with
      | 0, hx, hv => simp at hx hv; subst hx hv; exact g0
      | 1, hx, hv => simp at hx hv; subst hx hv; exact g1
      | 2, hx, hv => simp at hx hv; subst hx hv; exact g2
      | i + 3, hx, hv => simp at hx) rfl)
theorem polyRing_lifted (os : Os) (started : os.Started) (H : Type) (enc : TypeId × Value → H) (F : Stop.Interp) :
    ReturnsInHanded {} Tryz.checked os 8 .any ((Rows.OpenSpec.upto Rows.polyRingSpec).pre6 enc Tryz.prog Tryz.f8 Rows.polyRingUptoRow.domain false) (((Rows.OpenSpec.upto Rows.polyRingSpec).at F).post enc Tryz.prog Tryz.f8 false true false false) := by
  refine returnsInHanded_of_cond (C := Tryz.checked) (s := Rows.OpenSpec.upto Rows.polyRingSpec) (k := Rows.uptoSmall) rfl own started (by kernel_rfl) Tryz.func8
    (OpenSpec.witness (enc := enc) (C := Tryz.checked) (s := Rows.OpenSpec.upto Rows.polyRingSpec) (k := Rows.uptoSmall) rfl false ⟨#[], #[.slice none 0 0, .slice none 0 0, .slice none 0 0], []⟩ 8 (by kernel_rfl) (by kernel_rfl) (by kernel_rfl)
      (x := ([.nil, .nil, .nil], [], [])) (by kernel_rfl) rfl (by kernel_rfl)) ?_
  intro W base args ds gs before hval hW _ hk _
  exact polyRing_contract H enc W base args ds gs before hval hW hk
theorem polyRing_proved : Rows.PolyRingUptoSaid :=
  OpenClaim.holds_of_cond 8 Tryz.f8 rfl rfl rfl rfl rfl rfl rfl ⟨rfl, rfl, rfl, rfl, rfl⟩ rfl rfl rfl rfl rfl (by kernel_rfl) Tryz.func8 (by kernel_rfl)
    (of_decide_eq_true (by kernel_rfl)) (by unfold Func.isWrapper; first | (rw [if_pos (by decide +kernel)]; kernel_rfl) | (rw [if_neg (by decide +kernel)]; exact ⟨rfl, rfl⟩))
    (fun os started H enc _ F => polyRing_lifted os started H enc F)
end Go.Proofs.YtfhmockdgbkpnaaGreat
