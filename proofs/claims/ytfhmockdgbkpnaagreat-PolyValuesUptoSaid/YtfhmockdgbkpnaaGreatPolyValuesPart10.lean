/- Part 10 of the proof of PolyValues: Z3, U7, U8, U10, Z4, V6, FwSK, FwSL, FwSM. Own lemmas; no conditions. -/
import Derived.Test.YtfhmockdgbkpnaaGreatPolyValuesPart9
set_option linter.unusedSimpArgs false
set_option linter.unnecessarySimpa false
set_option linter.unusedVariables false
namespace Go.Proofs.YtfhmockdgbkpnaaGreat
open Go Go.FW
set_option linter.unusedSimpArgs false
set_option linter.unusedVariables false
set_option maxRecDepth 100000
theorem insertionSort_nil : FnSpec Tryz.prog 171 [.nilS, .int .i64 0, .int .i64 0] (· = .tup []) := by
  refine fn_of_vc mixed Tryz.func171 rfl c171_ok (by simp [c171]) fun C hP => ?_; simp only [c171]
  simp +decide (disch := first | omega | rfl | (simp +decide only [go_sem, ↓reduceIte] <;> rfl) | fail) only [go_sem, ↓reduceIte, mk_empty, sl_3n, app_nil_map, mk_i64, max_nat]
  refine vc_loopF (by repeat (first | exact okSk_ret | exact okSk_retM | exact okSk_retO | apply okSk_back | apply okSk_out | apply okSk_eb | apply okSk_c | apply okSk_o | apply okSk_again)) [(6, 7), (10, 48)] [] (fun m J hp => J 6 = .int .i64 1) 1 ?_ ?_
  · simp +decide (disch := first | omega | rfl | (simp +decide only [go_sem, ↓reduceIte] <;> rfl) | fail) only [go_sem, ↓reduceIte, mk_empty, sl_3n, app_nil_map, mk_i64, max_nat]
    rfl
  rintro m J h h6
  simp +decide (disch := first | omega | rfl | (simp +decide only [go_sem, ↓reduceIte, h6] <;> rfl) | fail) only [go_sem, ↓reduceIte, mk_empty, sl_3n, app_nil_map, mk_i64, max_nat, h6]
  exact ⟨.tup [], trivial, rfl⟩
theorem pdq_nil {lim : Int} : FnSpec Tryz.prog 161 [.nilS, .int .i64 0, .int .i64 0, .int .i64 lim] (· = .tup []) := by
  refine fn_of_vc mixed Tryz.func161 rfl c161_ok (by simp [c161]) fun C hP => ?_; simp only [c161]
  simp +decide (disch := first | omega | rfl | (simp +decide only [go_sem, ↓reduceIte] <;> rfl) | fail) only [go_sem, ↓reduceIte, mk_empty, sl_3n, app_nil_map, mk_i64, max_nat]
  refine vc_loopF (by repeat (first | exact okSk_ret | exact okSk_retM | exact okSk_retO | apply okSk_back | apply okSk_out | apply okSk_eb | apply okSk_c | apply okSk_o | apply okSk_again)) [(1, 3), (8, 133)] [] (fun m J hp => J 1 = .int .i64 0 ∧ J 2 = .int .i64 0) 1 ?_ ?_
  · simp +decide (disch := first | omega | rfl | (simp +decide only [go_sem, ↓reduceIte] <;> rfl) | fail) only [go_sem, ↓reduceIte, mk_empty, sl_3n, app_nil_map, mk_i64, max_nat]
  rintro m J h ⟨h1, h2⟩
  simp +decide (disch := first | omega | rfl | (simp +decide only [go_sem, ↓reduceIte, h1, h2, Int.sub_zero] <;> rfl) | fail) only [go_sem, ↓reduceIte, mk_empty, sl_3n, app_nil_map, mk_i64, max_nat, h1, h2, Int.sub_zero]
  refine call_eq0 hP insertionSort_nil rfl rfl rfl ?_
  simp +decide (disch := first | omega | rfl | (simp +decide only [go_sem, ↓reduceIte] <;> rfl) | fail) only [go_sem, ↓reduceIte, mk_empty, sl_3n, app_nil_map, mk_i64, max_nat]
  exact ⟨.tup [], trivial, rfl⟩
theorem Sort_nil : FnSpec Tryz.prog 135 [.nilS] (· = .tup []) := by
  refine fn_of_vc mixed Tryz.func135 rfl c135_ok (by simp [c135]) fun C hP => ?_; simp only [c135]
  simp +decide (disch := first | omega | rfl | (simp +decide only [go_sem, ↓reduceIte] <;> rfl) | fail) only [go_sem, ↓reduceIte, mk_empty, sl_3n, app_nil_map, mk_i64, max_nat]
  refine call_eq0 hP (Len_spec (x := 0) (by omega)) rfl rfl rfl ?_
  simp +decide (disch := first | omega | rfl | (simp +decide only [go_sem, ↓reduceIte] <;> rfl) | fail) only [go_sem, ↓reduceIte, mk_empty, sl_3n, app_nil_map, mk_i64, max_nat]
  refine call_eq0 hP pdq_nil rfl rfl rfl ?_
  simp +decide (disch := first | omega | rfl | (simp +decide only [go_sem, ↓reduceIte] <;> rfl) | fail) only [go_sem, ↓reduceIte, mk_empty, sl_3n, app_nil_map, mk_i64, max_nat]
  exact ⟨.tup [], trivial, rfl⟩
theorem Reverse_nil : FnSpec Tryz.prog 136 [.nilS] (· = .tup []) := by
  refine fn_of_vc mixed Tryz.func136 rfl c136_ok (by simp [c136]) fun C hP => ?_; simp only [c136]
  simp +decide (disch := first | omega | rfl | (simp +decide only [go_sem, ↓reduceIte] <;> rfl) | fail) only [go_sem, ↓reduceIte, mk_empty, sl_3n, app_nil_map, mk_i64, max_nat]
  refine vc_loopF (by repeat (first | exact okSk_ret | exact okSk_retM | exact okSk_retO | apply okSk_back | apply okSk_out | apply okSk_eb | apply okSk_c | apply okSk_o | apply okSk_again)) [(2, 3), (7, 27)] [] (fun m J hp => J 2 = .int .i64 0 ∧ J 3 = .int .i64 (-1)) 1 ?_ ?_
  · simp +decide (disch := first | omega | rfl | (simp +decide only [go_sem, ↓reduceIte] <;> rfl) | fail) only [go_sem, ↓reduceIte, mk_empty, sl_3n, app_nil_map, mk_i64, max_nat]
    rfl
  rintro m J h ⟨h2, h3⟩
  simp +decide (disch := first | omega | rfl | (simp +decide only [go_sem, ↓reduceIte, h2, h3] <;> rfl) | fail) only [go_sem, ↓reduceIte, mk_empty, sl_3n, app_nil_map, mk_i64, max_nat, h2, h3]
  exact ⟨.tup [], trivial, rfl⟩
theorem p_coefs_nil {v : Nat} : FnSpec Tryz.prog 99 [PV.poly [], .int .i64 v] (· = .tup [PV.mono [], PV.polys []]) := by
  refine fn_of_vc mixed Tryz.func99 rfl c99_ok (by simp [c99]) fun C hP => ?_; simp only [c99]
  simp +decide (disch := first | omega | rfl | (simp +decide only [go_sem, ↓reduceIte] <;> rfl) | fail) only [go_sem, ↓reduceIte, mk_empty, sl_3n, app_nil_map, mk_i64, max_nat]
  refine vc_loopF (by repeat (first | exact okSk_ret | exact okSk_retM | exact okSk_retO | apply okSk_back | apply okSk_out | apply okSk_eb | apply okSk_c | apply okSk_o | apply okSk_again)) [(4, 4), (7, 8), (17, 33)] [7, 31, 32] (fun m J hp => J 4 = .nilS ∧ J 17 = .int .i64 0) 1 ?_ ?_
  · simp +decide (disch := first | omega | rfl | (simp +decide only [go_sem, ↓reduceIte] <;> rfl) | fail) only [go_sem, ↓reduceIte, mk_empty, sl_3n, app_nil_map, mk_i64, max_nat]
  rintro m J h ⟨h4, h17⟩
  simp +decide (disch := first | omega | rfl | (simp +decide only [go_sem, ↓reduceIte, h4, h17] <;> rfl) | fail) only [go_sem, ↓reduceIte, mk_empty, sl_3n, app_nil_map, mk_i64, max_nat, h4, h17]
  refine call_eq0 hP Sort_nil rfl rfl rfl ?_
  simp +decide (disch := first | omega | rfl | (simp +decide only [go_sem, ↓reduceIte, h4] <;> rfl) | fail) only [go_sem, ↓reduceIte, mk_empty, sl_3n, app_nil_map, mk_i64, max_nat, h4]
  refine call_eq0 hP Reverse_nil rfl rfl rfl ?_
  simp +decide (disch := first | omega | rfl | (simp +decide only [go_sem, ↓reduceIte, h4] <;> rfl) | fail) only [go_sem, ↓reduceIte, mk_empty, sl_3n, app_nil_map, mk_i64, max_nat, h4]
  refine vc_loopF (by repeat (first | exact okSk_ret | exact okSk_retM | exact okSk_retO | apply okSk_back | apply okSk_out | apply okSk_eb | apply okSk_c | apply okSk_o | apply okSk_again)) [(5, 5), (10, 11), (13, 14), (40, 77)] [13, 58, 70, 71, 75, 76] (fun m J hp => J 5 = .nilS ∧ J 40 = .int .i64 0) 1 ?_ ?_
  · simp +decide (disch := first | omega | rfl | (simp +decide only [go_sem, ↓reduceIte] <;> rfl) | fail) only [go_sem, ↓reduceIte, mk_empty, sl_3n, app_nil_map, mk_i64, max_nat]
  rintro m J h ⟨h5, h40⟩
  simp +decide (disch := first | omega | rfl | (simp +decide only [go_sem, ↓reduceIte, h5, h40, h4] <;> rfl) | fail) only [go_sem, ↓reduceIte, mk_empty, sl_3n, app_nil_map, mk_i64, max_nat, h5, h40, h4]
  exact ret2 rfl rfl rfl trivial trivial
theorem p_Subst_nil {q : List Tm} {v : Nat} (hv : v < 64) : FnSpec Tryz.prog 47 [PV.poly [], .int .i64 v, PV.poly q] (· = .tup [PV.poly [], .int .i64 0]) := by
  refine fn_of_vc mixed Tryz.func47 rfl c47_ok (by simp [c47]) fun C hP => ?_; simp only [c47]
  simp +decide (disch := first | omega | rfl | (simp +decide only [go_sem, ↓reduceIte] <;> rfl) | fail) only [go_sem, ↓reduceIte, mk_empty, sl_3n, app_nil_map, mk_i64, max_nat]
  refine guard_splitF (fun h1 => by omega) (fun _ => ?_)
  simp +decide (disch := first | omega | rfl | (simp +decide only [go_sem, ↓reduceIte] <;> rfl) | fail) only [go_sem, ↓reduceIte, mk_empty, sl_3n, app_nil_map, mk_i64, max_nat]
  refine cond_split (fun h2 => by omega) (fun _ => ?_)
  simp +decide (disch := first | omega | rfl | (simp +decide only [go_sem, ↓reduceIte] <;> rfl) | fail) only [go_sem, ↓reduceIte, mk_empty, sl_3n, app_nil_map, mk_i64, max_nat]
  refine call_eq0 hP p_coefs_nil rfl rfl rfl ?_
  simp +decide (disch := first | omega | rfl | (simp +decide only [go_sem, ↓reduceIte] <;> rfl) | fail) only [go_sem, ↓reduceIte, mk_empty, sl_3n, app_nil_map, mk_i64, max_nat]
  exact ret2 rfl rfl rfl trivial (le_refl _)
theorem p_Subst_spec {p q : List Tm} {v top K E L : Nat} (hp : PB K E p) (hq : PB K E q) (hv : v < 64) (h0 : 0 < p.length) (hl : p.length ≤ 12) (hlL : p.length ≤ L) (hlq : q.length ≤ L) (hE : E ≤ 1048576) (hL : L ≤ 2 ^ 15) (hK : L * (K + K) + K ≤ 2 ^ 30)
    (htop : ptop p v = top) (htl : top ≤ 4000) (hb : ∀ k, k ≤ top → PB K E (hor p v q top k) ∧ (hor p v q top k).length ≤ L) :
    FnSpec Tryz.prog 47 [PV.poly p, .int .i64 v, PV.poly q] (· = subR p v q top) := by
  refine fn_of_vc mixed Tryz.func47 rfl c47_ok (by simp [c47]) fun C hP => ?_; simp only [c47]
  simp +decide (disch := first | omega | rfl | (simp +decide only [go_sem, ↓reduceIte] <;> rfl) | fail) only [go_sem, ↓reduceIte, mk_empty, sl_3n, app_nil_map, mk_i64, max_nat]
  refine guard_splitF (fun h1 => by omega) (fun _ => ?_)
  simp +decide (disch := first | omega | rfl | (simp +decide only [go_sem, ↓reduceIte] <;> rfl) | fail) only [go_sem, ↓reduceIte, mk_empty, sl_3n, app_nil_map, mk_i64, max_nat]
  refine cond_split (fun h2 => by omega) (fun _ => ?_)
  simp +decide (disch := first | omega | rfl | (simp +decide only [go_sem, ↓reduceIte] <;> rfl) | fail) only [go_sem, ↓reduceIte, mk_empty, sl_3n, app_nil_map, mk_i64, max_nat]
  refine call_spec0 hP (p_coefs_spec hp hv hE h0 hl) rfl rfl rfl ?_
  rintro _ ⟨D, hD, rfl⟩
  have hD0 : 0 < D.length := List.length_pos_iff.2 fun h => by
    have := (hD.m (eN p[0].2 v)).2 ⟨p[0], List.getElem_mem h0, rfl⟩
    rw [h] at this; cases this
  have hDl := hD.l
  have hDt := pows_top hD hD0 (fun t ht => (hp t ht).m)
  rw [htop] at hDt
  have hfg : (D.map (coefN p v))[0]'(by simpa using hD0) = hor p v q top 0 := by simp [hDt, hor]
  have hDm : 0 < (D.map (coefN p v)).length := by simpa using hD0
  simp +decide (disch := first | omega | rfl | (simp +decide only [go_sem, ↓reduceIte] <;> rfl) | fail) only [go_sem, ↓reduceIte, mk_empty, sl_3n, app_nil_map, mk_i64, max_nat]
  refine cond_split (fun h => by omega) (fun _ => ?_)
  simp +decide (disch := first | omega | rfl | (simp +decide only [go_sem, ↓reduceIte, hDt] <;> rfl) | fail) only [go_sem, ↓reduceIte, mk_empty, sl_3n, app_nil_map, mk_i64, max_nat, hDt]
  refine cond_split (fun h => by omega) (fun _ => ?_)
  simp +decide (disch := first | omega | rfl | (simp +decide only [go_sem, ↓reduceIte, hDt, hfg] <;> rfl) | fail) only [go_sem, ↓reduceIte, mk_empty, sl_3n, app_nil_map, mk_i64, max_nat, hDt, hfg]
  refine vc_loopF (by repeat (first | exact okSk_ret | exact okSk_retM | exact okSk_retO | apply okSk_back | apply okSk_out | apply okSk_eb | apply okSk_c | apply okSk_o | apply okSk_again)) [(6, 7), (10, 12), (39, 69)] [] (fun m J hp => ∃ k a, m = top - k ∧ k ≤ top ∧ horL p v q top k = false ∧ a ≤ D.length ∧ (∀ i (h : i < D.length), i < a → (top : Int) - k ≤ D[i]) ∧ (∀ i (h : i < D.length), a ≤ i → D[i] < (top : Int) - k) ∧
    J 10 = PV.poly (hor p v q top k) ∧ J 11 = .int .i64 (a : Nat) ∧ J 12 = .int .i64 ((top : Int) - k - 1)) top ?_ ?_
  · refine ⟨0, 1, rfl, by omega, rfl, by omega, fun i h hi => ?_, fun i h hi => ?_, ?_⟩
    · obtain rfl : i = 0 := by omega
      omega
    · have := hD.lt (i := 0) (j := i) (by omega) h
      omega
    · simp +decide (disch := first | omega | rfl | (simp +decide only [go_sem, ↓reduceIte] <;> rfl) | fail) only [go_sem, ↓reduceIte, mk_empty, sl_3n, app_nil_map, mk_i64, max_nat]
      exact ⟨rfl, congrArg (PV.int .i64) (by omega)⟩
  rintro _ J h ⟨k, a, rfl, hk, hl0, ha, hlo, hhi, h10, h11, h12⟩
  obtain ⟨b1, b2⟩ := hb k hk
  simp +decide (disch := first | omega | rfl | (simp +decide only [go_sem, ↓reduceIte, h10, h11, h12] <;> rfl) | fail) only [go_sem, ↓reduceIte, mk_empty, sl_3n, app_nil_map, mk_i64, max_nat, h10, h11, h12]
  refine call_eq0 hP (p_large_spec (fun t ht => (b1 t ht).m) (by omega)) rfl rfl rfl ?_
  simp +decide (disch := first | omega | rfl | (simp +decide only [go_sem, ↓reduceIte, h10, h11, h12] <;> rfl) | fail) only [go_sem, ↓reduceIte, mk_empty, sl_3n, app_nil_map, mk_i64, max_nat, h10, h11, h12]
  cases hlg : plarge (hor p v q top k)
  · have hls := horL_succ p v q top k
    rw [hl0, hlg, Bool.or_false] at hls
    simp +decide (disch := first | omega | rfl | (simp +decide only [go_sem, ↓reduceIte, h10, h11, h12] <;> rfl) | fail) only [go_sem, ↓reduceIte, mk_empty, sl_3n, app_nil_map, mk_i64, max_nat, h10, h11, h12]
    refine cond_split (fun hn => ?_) (fun hn => ?_)
    · obtain rfl : k = top := by omega
      simp +decide (disch := first | omega | rfl | (simp +decide only [go_sem, ↓reduceIte, h10] <;> rfl) | fail) only [go_sem, ↓reduceIte, mk_empty, sl_3n, app_nil_map, mk_i64, max_nat, h10]
      exact ret2 (by rw [subR, if_neg (by simp [hls])]) rfl rfl (le_refl _) (le_refl _)
    · have hm1 : (hor p v q top k).length * q.length ≤ 2 ^ 15 * 2 ^ 15 := Nat.mul_le_mul (by omega) (by omega)
      have hm2 : min (hor p v q top k).length q.length * (K + K) ≤ L * (K + K) := Nat.mul_le_mul_right _ (by omega)
      obtain ⟨b3, b4⟩ := pmul_bound b1 hq
      have hcb := coefN_PB hp v ((top : Int) - (k + 1))
      have hcl := coefN_length p v ((top : Int) - (k + 1))
      simp +decide (disch := first | omega | rfl | (simp +decide only [go_sem, ↓reduceIte, h10, h11, h12] <;> rfl) | fail) only [go_sem, ↓reduceIte, mk_empty, sl_3n, app_nil_map, mk_i64, max_nat, h10, h11, h12]
      refine call_eq0 hP (p_Mul_spec b1 hq (by omega) (by omega) (by omega) (by omega) (by omega) (by omega)) rfl rfl rfl ?_
      simp +decide (disch := first | omega | rfl | (simp +decide only [go_sem, ↓reduceIte, h10, h11, h12] <;> rfl) | fail) only [go_sem, ↓reduceIte, mk_empty, sl_3n, app_nil_map, mk_i64, max_nat, h10, h11, h12]
      refine guard_split (fun hal => ?_) (fun hal => ?_)
      · have ha' : a < D.length := by simp at hal; omega
        have hga : (D.map (coefN p v))[a]'(by simpa using ha') = coefN p v D[a] := by simp
        have ham : a < (D.map (coefN p v)).length := by simpa using ha'
        have hlt := fun j h => hD.lt (i := a) (j := j) h
        have hhia := hhi a ha' (Nat.le_refl _)
        have hmem : D[a] ∈ D := List.getElem_mem ha'
        generalize hd : D[a] = d at *
        simp +decide (disch := first | omega | rfl | (simp +decide only [go_sem, ↓reduceIte, h10, h11, h12, hd] <;> rfl) | fail) only [go_sem, ↓reduceIte, mk_empty, sl_3n, app_nil_map, mk_i64, max_nat, h10, h11, h12, hd]
        refine cond_split (fun he => ?_) (fun he => ?_)
        · have hed : d = (top : Int) - (k + 1) := by omega
          subst hed
          simp +decide (disch := first | omega | rfl | (simp +decide only [go_sem, ↓reduceIte, h10, h11, h12, hga] <;> rfl) | fail) only [go_sem, ↓reduceIte, mk_empty, sl_3n, app_nil_map, mk_i64, max_nat, h10, h11, h12, hga]
          refine call_eq0 hP (p_Add_spec (K := L * (K + K) + K) (E := E + E) (b3.mono (by omega) (by omega)) (hcb.mono (by omega) (by omega)) (by omega) (by omega) (by omega) (by omega)) rfl rfl rfl ?_
          simp +decide (disch := first | omega | rfl | (simp +decide only [go_sem, ↓reduceIte, h10, h11, h12, hga] <;> rfl) | fail) only [go_sem, ↓reduceIte, mk_empty, sl_3n, app_nil_map, mk_i64, max_nat, h10, h11, h12, hga]
          refine back_ovr (top - (k + 1)) (by omega) ⟨k + 1, a + 1, rfl, by omega, hls, by omega, fun i h hi => ?_, fun i h hi => ?_, ?_⟩
          · by_cases hia : i = a
            · subst hia; omega
            · have := hlo i h (by omega); omega
          · have := hlt i (by omega) h; omega
          · simp +decide (disch := first | omega | rfl | (simp +decide only [go_sem, ↓reduceIte] <;> rfl) | fail) only [go_sem, ↓reduceIte, mk_empty, sl_3n, app_nil_map, mk_i64, max_nat]
            exact ⟨rfl, congrArg (PV.int .i64) (by omega)⟩
        · have hno : coefN p v ((top : Int) - (k + 1)) = [] := coefN_none fun t ht hte => by
            have hm := (hD.m _).2 ⟨t, ht, rfl⟩
            rw [hte] at hm
            obtain ⟨i, hi, hie⟩ := List.getElem_of_mem hm
            by_cases hia : i < a
            · have := hlo i hi hia; omega
            · by_cases hia2 : i = a
              · subst hia2; omega
              · have := hlt i (by omega) hi; omega
          have hh1 : hor p v q top (k + 1) = pmul (hor p v q top k) q := by rw [hor, hno, padd_nil]
          simp +decide (disch := first | omega | rfl | (simp +decide only [go_sem, ↓reduceIte, h10, h11, h12] <;> rfl) | fail) only [go_sem, ↓reduceIte, mk_empty, sl_3n, app_nil_map, mk_i64, max_nat, h10, h11, h12]
          refine back_ovr (top - (k + 1)) (by omega) ⟨k + 1, a, rfl, by omega, hls, by omega, fun i h hi => ?_, fun i h hi => ?_, ?_⟩
          · have := hlo i h hi; omega
          · by_cases hia : i = a
            · subst hia; omega
            · have := hlt i (by omega) h; omega
          · rw [hh1]
            simp +decide (disch := first | omega | rfl | (simp +decide only [go_sem, ↓reduceIte, h11] <;> rfl) | fail) only [go_sem, ↓reduceIte, mk_empty, sl_3n, app_nil_map, mk_i64, max_nat, h11]
            exact congrArg (PV.int .i64) (by omega)
      · have ha' : a = D.length := by simp at hal; omega
        have hno : coefN p v ((top : Int) - (k + 1)) = [] := coefN_none fun t ht hte => by
          have hm := (hD.m _).2 ⟨t, ht, rfl⟩
          rw [hte] at hm
          obtain ⟨i, hi, hie⟩ := List.getElem_of_mem hm
          have := hlo i hi (by omega); omega
        have hh1 : hor p v q top (k + 1) = pmul (hor p v q top k) q := by rw [hor, hno, padd_nil]
        simp +decide (disch := first | omega | rfl | (simp +decide only [go_sem, ↓reduceIte, h10, h11, h12] <;> rfl) | fail) only [go_sem, ↓reduceIte, mk_empty, sl_3n, app_nil_map, mk_i64, max_nat, h10, h11, h12]
        refine back_ovr (top - (k + 1)) (by omega) ⟨k + 1, a, rfl, by omega, hls, by omega, fun i h hi => ?_, fun i h hi => by omega, ?_⟩
        · have := hlo i h hi; omega
        · rw [hh1]
          simp +decide (disch := first | omega | rfl | (simp +decide only [go_sem, ↓reduceIte, h11] <;> rfl) | fail) only [go_sem, ↓reduceIte, mk_empty, sl_3n, app_nil_map, mk_i64, max_nat, h11]
          exact congrArg (PV.int .i64) (by omega)
  · have ho : horL p v q top (top + 1) = true := horL_of (show k < top + 1 by omega) hlg
    simp +decide (disch := first | omega | rfl | (simp +decide only [go_sem, ↓reduceIte] <;> rfl) | fail) only [go_sem, ↓reduceIte, mk_empty, sl_3n, app_nil_map, mk_i64, max_nat]
    exact ret2 (by rw [subR, if_pos ho]) rfl rfl poly_nil (le_refl _)
end Go.Proofs.YtfhmockdgbkpnaaGreat
namespace Go.Proofs.YtfhmockdgbkpnaaGreat
open Go Go.FW
set_option linter.unusedSimpArgs false
set_option linter.unusedVariables false
set_option maxRecDepth 100000
end Go.Proofs.YtfhmockdgbkpnaaGreat
namespace Go.Proofs.YtfhmockdgbkpnaaGreat
open Go Go.FW
set_option linter.unusedSimpArgs false
set_option linter.unusedVariables false
set_option maxRecDepth 100000
end Go.Proofs.YtfhmockdgbkpnaaGreat
namespace Go.Proofs.YtfhmockdgbkpnaaGreat
open Go Go.FW
set_option linter.unusedSimpArgs false
set_option linter.unusedVariables false
set_option maxRecDepth 100000
end Go.Proofs.YtfhmockdgbkpnaaGreat
namespace Go.Proofs.YtfhmockdgbkpnaaGreat
open Go Go.FW
set_option linter.unusedSimpArgs false
set_option linter.unusedVariables false
set_option maxRecDepth 100000
end Go.Proofs.YtfhmockdgbkpnaaGreat
namespace Go.Proofs.YtfhmockdgbkpnaaGreat
open Go Go.FW
set_option linter.unusedSimpArgs false
set_option linter.unusedVariables false
set_option maxRecDepth 100000
theorem ptop_small {p : List Tm} {v K E : Nat} (hp : PB K E p) : ∃ top : Nat, ptop p v = top ∧ top ≤ E := by
  obtain ⟨h1, h2, h3⟩ := ptop_spec p v
  refine ⟨(ptop p v).toNat, by omega, ?_⟩
  rcases h3 with h3 | ⟨t, ht, h3⟩
  · omega
  · have := (hp t ht).m.eN v; omega
end Go.Proofs.YtfhmockdgbkpnaaGreat
namespace Go.FW
open Go
theorem peval_padd {vs : List Rat} {p q : List Tm} (hp : Can p) (hq : Can q) : peval vs (padd p q) = peval vs p + peval vs q := pev_padd hp hq
theorem peval_pmul {vs : List Rat} {p q : List Tm} {K L E F : Nat} (hp : PB K E p) (hq : PB L F q) : peval vs (pmul p q) = peval vs p * peval vs q := by
  rw [peval, pmul_pev]
  have e : pev (fun m => pev (fun n => mev vs (mulM m n)) q) p = pev (fun m => peval vs q * mev vs m) p := pev_congr fun s hs => by
    have e2 : pev (fun n => mev vs (mulM s.2 n)) q = pev (fun n => mev vs s.2 * mev vs n) q := pev_congr fun t ht => mev_mul (hp s hs).m (hq t ht).m
    rw [e2, pev_smul, peval]; grind
  rw [e, pev_smul, peval, peval]; grind
theorem mev_set {vs : List Rat} {m : List Int} {v : Nat} {b : Rat} (hv : v < vs.length) : mev (vs.set v b) m = mev vs (dropM m v) * qpow b (eN m v).toNat := by
  have hl : (dropM m v).length ≤ max m.length (v + 1) := by
    have := trimI_length (m.set v 0); rw [List.length_set] at this; unfold dropM; omega
  rw [← mevN_le (m := m) (n := max m.length (v + 1)) (by omega), ← mevN_le (m := dropM m v) hl]
  have key : ∀ n, mevN (vs.set v b) m n = mevN vs (dropM m v) n * (if v < n then qpow b (eN m v).toNat else 1) := by
    intro n
    induction n with
    | zero => show (1 : Rat) = 1 * (if v < 0 then _ else 1); rw [if_neg (by omega)]; grind
    | succ n ih =>
      show mevN (vs.set v b) m n * qpow ((vs.set v b).getD n 0) (eN m n).toNat = (mevN vs (dropM m v) n * qpow (vs.getD n 0) (eN (dropM m v) n).toNat) * _
      rw [ih, dropM_eN]
      by_cases hn : n = v
      · subst hn
        have e : (vs.set n b).getD n 0 = b := by simp [List.getD_eq_getElem?_getD, hv]
        rw [e, if_neg (by omega), if_pos rfl, if_pos (by omega)]
        show mevN vs (dropM m n) n * 1 * qpow b _ = (mevN vs (dropM m n) n * 1) * qpow b _
        grind
      · have e : (vs.set v b).getD n 0 = vs.getD n 0 := by
          simp only [List.getD_eq_getElem?_getD]; rw [List.getElem?_set_ne (by omega)]
        rw [e, if_neg hn]
        by_cases hlt : v < n
        · rw [if_pos hlt, if_pos (by omega)]; grind
        · rw [if_neg hlt, if_neg (by omega)]; grind
  rw [key, if_pos (by omega)]
def hval (vs : List Rat) (v : Nat) (b : Rat) (n : Int) : List Tm → Rat
  | [] => 0
  | t :: p => (if n ≤ eN t.2 v then t.1 * mev vs (dropM t.2 v) * qpow b (eN t.2 v - n).toNat else 0) + hval vs v b n p
theorem peval_coefN (vs : List Rat) (v : Nat) (n : Int) : ∀ (p : List Tm), peval vs (coefN p v n) = hval vs v 0 n (p.filter fun t => decide (eN t.2 v = n))
  | [] => rfl
  | t :: p => by
    have ih := peval_coefN vs v n p
    rw [peval] at *
    by_cases h : eN t.2 v = n
    · have e : coefN (t :: p) v n = (t.1, dropM t.2 v) :: coefN p v n := by rw [coefN, List.filterMap_cons, if_pos h]; rfl
      rw [e, pev_cons, ih, List.filter_cons, if_pos (by simp [h]), hval, if_pos (by omega), show (eN t.2 v - n).toNat = 0 by omega, qpow_zero]
      grind
    · have e : coefN (t :: p) v n = coefN p v n := by rw [coefN, List.filterMap_cons, if_neg h]; rfl
      rw [e, ih, List.filter_cons, if_neg (by simp [h])]
theorem hval_step (vs : List Rat) (v : Nat) (b : Rat) (n : Int) : ∀ (p : List Tm), hval vs v b n p = hval vs v b (n + 1) p * b + peval vs (coefN p v n)
  | [] => by show (0 : Rat) = 0 * b + peval vs []; rw [peval, pev_nil]; grind
  | t :: p => by
    have ih := hval_step vs v b n p
    rw [hval, hval, ih]
    by_cases h : eN t.2 v = n
    · have e : coefN (t :: p) v n = (t.1, dropM t.2 v) :: coefN p v n := by rw [coefN, List.filterMap_cons, if_pos h]; rfl
      rw [if_pos (by omega), if_neg (by omega), show (eN t.2 v - n).toNat = 0 by omega, qpow_zero, e]
      show _ = _ + pev (mev vs) ((t.1, dropM t.2 v) :: coefN p v n)
      rw [pev_cons]
      show _ = _ + (t.1 * mev vs (dropM t.2 v) + peval vs (coefN p v n))
      grind
    · have e : coefN (t :: p) v n = coefN p v n := by rw [coefN, List.filterMap_cons, if_neg h]; rfl
      rw [e]
      by_cases h2 : n ≤ eN t.2 v
      · rw [if_pos h2, if_pos (by omega), show (eN t.2 v - n).toNat = (eN t.2 v - (n + 1)).toNat + 1 by omega]
        show t.1 * mev vs (dropM t.2 v) * (qpow b _ * b) + _ = _
        grind
      · rw [if_neg h2, if_neg (by omega)]; grind
theorem hval_none {vs : List Rat} {v : Nat} {b : Rat} {n : Int} : ∀ {p : List Tm}, (∀ t ∈ p, eN t.2 v < n) → hval vs v b n p = 0
  | [], _ => rfl
  | t :: p, h => by
    have := h t (by simp)
    rw [hval, if_neg (by omega), hval_none (fun s hs => h s (by simp [hs]))]; grind
theorem peval_hor {vs : List Rat} {p q : List Tm} {v top K E : Nat} {hb : ∀ k, k ≤ top → PB K E (hor p v q top k)} (hp : Nrm p) (hq : PB K E q) (hnq : Nrm q) (ht : ∀ t ∈ p, eN t.2 v ≤ top) :
    ∀ k, k ≤ top → peval vs (hor p v q top k) = hval vs v (peval vs q) ((top : Int) - k) p
  | 0, _ => by
    rw [hval_step, hval_none (fun t h => by have := ht t h; omega)]
    show peval vs (coefN p v top) = _
    rw [show (top : Int) - (0 : Nat) = top by omega]; grind
  | k + 1, hk => by
    have ih := peval_hor (vs := vs) (hb := hb) hp hq hnq ht k (by omega)
    rw [hval_step, show (top : Int) - ((k + 1 : Nat) : Int) + 1 = (top : Int) - k by omega, ← ih]
    show peval vs (padd (pmul (hor p v q top k) q) (coefN p v ((top : Int) - (k + 1)))) = _
    rw [peval_padd (pmul_nrm (hor_nrm hp hnq v top k).s hnq.s).c (coefN_nrm hp v _).c, peval_pmul (hb k (by omega)) hq]
    congr 1
theorem hval_all {vs : List Rat} {v : Nat} {b : Rat} (hv : v < vs.length) : ∀ {p : List Tm}, (∀ t ∈ p, 0 ≤ eN t.2 v) → hval vs v b 0 p = peval (vs.set v b) p
  | [], _ => rfl
  | t :: p, h => by
    have := h t (by simp)
    rw [hval, if_pos this, hval_all hv (fun s hs => h s (by simp [hs])), peval, peval, pev_cons, mev_set hv, Int.sub_zero]; grind
theorem peval_subst {vs : List Rat} {p q : List Tm} {v top K E : Nat} (hb : ∀ k, k ≤ top → PB K E (hor p v q top k)) (hp : Nrm p) (hpb : PB K E p) (hq : PB K E q) (hnq : Nrm q) (ht : ptop p v = top) (hv : v < vs.length) :
    peval vs (hor p v q top top) = peval (vs.set v (peval vs q)) p := by
  obtain ⟨_, h2, _⟩ := ptop_spec p v
  rw [peval_hor (hb := hb) hp hq hnq (fun t h => by have := h2 t h; omega) top (Nat.le_refl _), show (top : Int) - (top : Nat) = 0 by omega, hval_all hv (fun t h => ((hpb t h).m.eN v).1)]
def ML (n : Nat) (p : List Tm) : Prop := ∀ t ∈ p, t.2.length ≤ n
theorem ML.padd {n : Nat} {p q : List Tm} (hp : ML n p) (hq : ML n q) : ML n (padd p q) := fun t ht => by
  rcases mem_padd ht with ⟨s, h1, h2⟩ | ⟨s, h1, h2⟩
  · rw [← h2]; exact hp s h1
  · rw [← h2]; exact hq s h1
theorem mulM_len (a b : List Int) : (mulM a b).length ≤ max a.length b.length := by
  have := trimI_length (zipI (· + ·) a b)
  rwa [zipI_length] at this
theorem mem_ptimes {p : List Tm} {t x : Tm} (h : x ∈ ptimes p t) : ∃ s ∈ p, x.2 = mulM s.2 t.2 := by
  simp only [ptimes, List.mem_filterMap] at h
  obtain ⟨y, hy, h⟩ := h
  split at h
  · cases h
  · cases h; exact ⟨y, hy, rfl⟩
theorem mem_psum : ∀ (n : Nat) (l : List (List Tm)), l.length ≤ n → ∀ {t : Tm}, t ∈ psum l → ∃ p ∈ l, ∃ s ∈ p, s.2 = t.2 := by
  intro n
  induction n with
  | zero =>
    intro l hl t ht
    have : l = [] := List.length_eq_zero_iff.1 (by omega)
    subst this
    rw [psum] at ht; cases ht
  | succ n ih =>
    intro l hl t ht
    match l, ht with
    | [], ht => rw [psum] at ht; cases ht
    | [p], ht => rw [psum] at ht; exact ⟨p, by simp, t, ht, rfl⟩
    | p :: q :: r, ht =>
      rw [psum_many (by simp)] at ht
      generalize hL : p :: q :: r = L at *
      have hlen : 2 ≤ L.length := by rw [← hL]; simp
      rcases mem_padd ht with ⟨s, h1, h2⟩ | ⟨s, h1, h2⟩
      · obtain ⟨p', hp', s', hs', e⟩ := ih _ (by rw [List.length_take]; omega) h1
        exact ⟨p', List.mem_of_mem_take hp', s', hs', e.trans h2⟩
      · obtain ⟨p', hp', s', hs', e⟩ := ih _ (by rw [List.length_drop]; omega) h1
        exact ⟨p', List.mem_of_mem_drop hp', s', hs', e.trans h2⟩
theorem mem_pmul {p q : List Tm} {t : Tm} (h : t ∈ pmul p q) : ∃ a ∈ p, ∃ b ∈ q, t.2 = mulM a.2 b.2 := by
  have main : ∀ {p q : List Tm}, t ∈ pmul0 p q → ∃ a ∈ p, ∃ b ∈ q, t.2 = mulM a.2 b.2 := fun {p q} h => by
    obtain ⟨x, hx, s, hs, e⟩ := mem_psum _ _ (Nat.le_refl _) h
    obtain ⟨a, ha, rfl⟩ := List.mem_map.1 hx
    obtain ⟨b, hb, e2⟩ := mem_ptimes hs
    exact ⟨a, ha, b, hb, by rw [← e, e2, mulM_comm]⟩
  unfold pmul at h
  split at h
  · obtain ⟨a, ha, b, hb, e⟩ := main h
    exact ⟨b, hb, a, ha, by rw [e, mulM_comm]⟩
  · exact main h
theorem ML.pmul {n : Nat} {p q : List Tm} (hp : ML n p) (hq : ML n q) : ML n (pmul p q) := fun t ht => by
  obtain ⟨a, ha, b, hb, e⟩ := mem_pmul ht
  have := mulM_len a.2 b.2
  have := hp a ha
  have := hq b hb
  rw [e]; omega
theorem ML.coefN {n : Nat} {p : List Tm} (hp : ML n p) (v : Nat) (k : Int) : ML n (coefN p v k) := fun t ht => by
  obtain ⟨s, h1, _, rfl⟩ := coefN_mem ht
  have := trimI_length (s.2.set v 0)
  rw [List.length_set] at this
  exact Nat.le_trans this (hp s h1)
theorem ML.hor {n : Nat} {p q : List Tm} (hp : ML n p) (hq : ML n q) (v top : Nat) : ∀ k, ML n (hor p v q top k)
  | 0 => hp.coefN v _
  | k + 1 => ((ML.hor hp hq v top k).pmul hq).padd (hp.coefN v _)
theorem ML.pout {n : Nat} {p : List Tm} {vs : List Rat} (hp : ML n p) (h : n ≤ vs.length) : pout vs p = false := by
  unfold FW.pout; rw [List.any_eq_false]; intro t ht
  have := hp t ht
  simp; omega
theorem plarge_small {p : List Tm} {K E : Nat} (hp : PB K E p) (hE : E ≤ 1048576) (hl : p.length ≤ 4000) : plarge p = false := by
  have : (p.any fun t => t.2.any fun x => decide (1048576 < x)) = false := by
    rw [List.any_eq_false]; intro t ht; rw [Bool.not_eq_true, List.any_eq_false]; intro x hx
    have := (hp t ht).m.hi x hx
    simp; omega
  rw [plarge, this, Bool.or_false]
  exact decide_eq_false (by omega)
end Go.FW
namespace Go.FW
open Go
def degN (a : List Int) : Nat → Int
  | 0 => 0
  | n + 1 => degN a n + eN a n
theorem degN_take (a : List Int) : ∀ n, n ≤ a.length → degN a n = (a.take n).sum
  | 0, _ => by simp [degN]
  | n + 1, h => by
    rw [degN, degN_take a n (by omega), List.take_succ_eq_append_getElem (by omega), List.sum_append, eN_lt (by omega)]; simp
theorem degN_ge (a : List Int) (k : Nat) : degN a (a.length + k) = degM a := by
  induction k with
  | zero => rw [Nat.add_zero, degN_take a _ (Nat.le_refl _), List.take_length]; rfl
  | succ k ih => rw [← Nat.add_assoc, degN, ih, eN_ge (by omega)]; omega
theorem degN_le {a : List Int} {n : Nat} (h : a.length ≤ n) : degN a n = degM a := by
  obtain ⟨k, rfl⟩ : ∃ k, n = a.length + k := ⟨n - a.length, by omega⟩
  exact degN_ge a k
theorem degM_mul (a b : List Int) : degM (mulM a b) = degM a + degM b := by
  rw [← degN_le (mulM_len a b), ← degN_le (a := a) (n := max a.length b.length) (by omega), ← degN_le (a := b) (n := max a.length b.length) (by omega)]
  generalize max a.length b.length = n
  induction n with
  | zero => rfl
  | succ n ih => rw [degN, degN, degN, ih, mulM_eN]; omega
theorem cmpO_neg (o : Int) (a b : List Int) : cmpO o b a = - cmpO o a b := by
  unfold cmpO
  by_cases h : o = 1 ∧ degM a ≠ degM b
  · rw [if_pos h, if_pos ⟨h.1, fun e => h.2 e.symm⟩, cmpZ_neg]
  · rw [if_neg h, if_neg (fun h' => h ⟨h'.1, fun e => h'.2 e.symm⟩), cmpM_neg]
theorem cmpO_gt (o : Int) {a b : List Int} : 0 < cmpO o a b ↔ (o = 1 ∧ degM b < degM a) ∨ ((o = 1 → degM a = degM b) ∧ 0 < cmpM a b) := by
  unfold cmpO
  by_cases h : o = 1 ∧ degM a ≠ degM b
  · rw [if_pos h, cmpZ_gt]
    constructor
    · intro h'; exact .inl ⟨h.1, h'⟩
    · rintro (h' | h')
      · exact h'.2
      · exact absurd (h'.1 h.1) h.2
  · rw [if_neg h]
    constructor
    · intro h'
      refine .inr ⟨fun ho => ?_, h'⟩
      apply Decidable.byContradiction; intro hn; exact h ⟨ho, hn⟩
    · rintro (h' | h')
      · exact absurd ⟨h'.1, by omega⟩ h
      · exact h'.2
theorem cmpO_trans {o : Int} {a b c : List Int} (h1 : 0 < cmpO o a b) (h2 : 0 < cmpO o b c) : 0 < cmpO o a c := by
  rw [cmpO_gt] at *
  by_cases ho : o = 1
  · rcases h1 with h1 | h1 <;> rcases h2 with h2 | h2
    · exact .inl ⟨ho, by omega⟩
    · have := h2.1 ho; exact .inl ⟨ho, by omega⟩
    · have := h1.1 ho; exact .inl ⟨ho, by omega⟩
    · have := h1.1 ho; have := h2.1 ho; exact .inr ⟨fun _ => by omega, cmpM_gt_trans h1.2 h2.2⟩
  · rcases h1 with h1 | h1
    · exact absurd h1.1 ho
    · rcases h2 with h2 | h2
      · exact absurd h2.1 ho
      · exact .inr ⟨fun h => absurd h ho, cmpM_gt_trans h1.2 h2.2⟩
theorem cmpO_mul (o : Int) (a b c : List Int) : 0 < cmpO o (mulM a c) (mulM b c) ↔ 0 < cmpO o a b := by
  rw [cmpO_gt, cmpO_gt, cmpM_mul, degM_mul, degM_mul]
  constructor
  · rintro (h | h)
    · exact .inl ⟨h.1, by omega⟩
    · exact .inr ⟨fun ho => by have := h.1 ho; omega, h.2⟩
  · rintro (h | h)
    · exact .inl ⟨h.1, by omega⟩
    · exact .inr ⟨fun ho => by have := h.1 ho; omega, h.2⟩
theorem cmpO_tri (o : Int) {a b : List Int} (ha : a.getLast? ≠ some 0) (hb : b.getLast? ≠ some 0) (h : a ≠ b) : 0 < cmpO o a b ∨ 0 < cmpO o b a := by
  have e := cmpO_neg o a b
  by_cases h1 : 0 < cmpO o a b
  · exact .inl h1
  · by_cases h2 : 0 < cmpO o b a
    · exact .inr h2
    · exfalso
      have h0 : cmpO o a b = 0 := by omega
      unfold cmpO at h0
      split at h0
      · rename_i h3; rw [cmpZ_eq] at h0; exact h3.2 h0
      · exact h ((cmpM_eq ha hb).1 h0)
theorem cmpO_self (o : Int) (a : List Int) : ¬ 0 < cmpO o a a := by
  have := cmpO_neg o a a; omega
theorem plead_max {o : Int} : ∀ {p : List Tm} {t : Tm}, Can p → t.2.getLast? ≠ some 0 → (∀ x ∈ p, ¬ 0 < cmpO o x.2 (plead o t p).2) ∧ ¬ 0 < cmpO o t.2 (plead o t p).2
  | [], t, _, _ => ⟨by simp, cmpO_self o _⟩
  | s :: p, t, hc, ht => by
    have hs := (Can.cons.1 hc).1
    have e : plead o t (s :: p) = plead o (if 0 < cmpO o s.2 t.2 then s else t) p := rfl
    obtain ⟨h1, h2⟩ := plead_max (o := o) (p := p) (t := if 0 < cmpO o s.2 t.2 then s else t) (Can.cons.1 hc).2 (by split; exact hs; exact ht)
    rw [e]
    generalize hL : plead o (if 0 < cmpO o s.2 t.2 then s else t) p = L at *
    by_cases h : 0 < cmpO o s.2 t.2
    · rw [if_pos h] at h2
      refine ⟨fun x hx => ?_, fun h3 => h2 (cmpO_trans h h3)⟩
      rcases List.mem_cons.1 hx with rfl | hx
      · exact h2
      · exact h1 x hx
    · rw [if_neg h] at h2
      refine ⟨fun x hx h3 => ?_, h2⟩
      rcases List.mem_cons.1 hx with rfl | hx
      · by_cases hxt : x.2 = t.2
        · rw [hxt] at h3; exact h2 h3
        · rcases cmpO_tri o hs ht hxt with h4 | h4
          · exact h h4
          · exact h2 (cmpO_trans h4 h3)
      · exact h1 x hx h3
theorem plead_mem' (o : Int) : ∀ (p : List Tm) (t : Tm), plead o t p = t ∨ plead o t p ∈ p
  | [], t => Or.inl rfl
  | s :: p, t => by
    have h := plead_mem' o p (if 0 < cmpO o s.2 t.2 then s else t)
    have e : plead o t (s :: p) = plead o (if 0 < cmpO o s.2 t.2 then s else t) p := rfl
    rw [e]
    rcases h with h | h
    · rw [h]; split
      · right; simp
      · left; rfl
    · right; simp [h]
theorem mono_inj {l : List Tm} (hs : PSorted l) {a b : Tm} (ha : a ∈ l) (hb : b ∈ l) (e : a.2 = b.2) : a = b := by
  induction l with
  | nil => cases ha
  | cons c l ih =>
    rcases List.mem_cons.1 ha with h1 | h1 <;> rcases List.mem_cons.1 hb with h2 | h2
    · rw [h1, h2]
    · subst h1; exact absurd e.symm (gt_ne (hs.1 b h2))
    · subst h2; exact absurd e (gt_ne (hs.1 a h1))
    · exact ih hs.2 h1 h2
def plt (o : Int) (p : List Tm) : Tm := plead o (p.headD (0, [])) p
theorem plt_get {o : Int} {p : List Tm} (h : 0 < p.length) : plead o p[0] p = plt o p := by
  cases p with
  | nil => simp at h
  | cons t p => rfl
theorem plt_spec {o : Int} {p : List Tm} (hp : Nrm p) (h0 : p ≠ []) : plt o p ∈ p ∧ ∀ x ∈ p, x ≠ plt o p → 0 < cmpO o (plt o p).2 x.2 := by
  obtain ⟨t, p', rfl⟩ := List.exists_cons_of_ne_nil h0
  have hm : plt o (t :: p') ∈ t :: p' := by
    rcases plead_mem' o (t :: p') t with h | h
    · show plead o t (t :: p') ∈ _; rw [h]; simp
    · exact h
  refine ⟨hm, fun x hx hne => ?_⟩
  obtain ⟨h1, _⟩ := plead_max (o := o) (p := t :: p') (t := t) hp.c (hp.c t (by simp))
  have h2 := h1 x hx
  have hd : x.2 ≠ (plt o (t :: p')).2 := fun e => hne (by
    exact mono_inj hp.s hx hm e)
  rcases cmpO_tri o (hp.c x hx) (hp.c _ hm) hd with h | h
  · exact absurd h h2
  · exact h
theorem pev_only {φ : List Int → Rat} : ∀ {p : List Tm} {x : Tm}, PSorted p → x ∈ p → (∀ t ∈ p, t ≠ x → φ t.2 = 0) → pev φ p = x.1 * φ x.2
  | [], x, _, hx, _ => by cases hx
  | t :: p, x, hs, hx, h => by
    have hz : ∀ {l : List Tm}, (∀ s ∈ l, φ s.2 = 0) → pev φ l = 0 := by
      intro l
      induction l with
      | nil => intro _; rfl
      | cons s l ih => intro hl; rw [pev_cons, hl s (by simp), ih (fun y hy => hl y (by simp [hy]))]; grind
    by_cases htx : t = x
    · subst htx
      rw [pev_cons, hz (fun s hs' => h s (by simp [hs']) (fun e => gt_ne (hs.1 s hs') (by rw [e])))]; grind
    · have hx' : x ∈ p := by
        rcases List.mem_cons.1 hx with h1 | h1
        · exact absurd h1.symm htx
        · exact h1
      rw [pev_cons, h t (by simp) htx, pev_only hs.2 hx' (fun s hs' => h s (by simp [hs']))]; grind
theorem plt_mul {o : Int} {p q : List Tm} (hp : Nrm p) (hq : Nrm q) (h1 : p ≠ []) (h2 : q ≠ []) : pmul p q ≠ [] ∧ plt o (pmul p q) = ((plt o p).1 * (plt o q).1, mulM (plt o p).2 (plt o q).2) := by
  obtain ⟨a1, a2⟩ := plt_spec (o := o) hp h1
  obtain ⟨b1, b2⟩ := plt_spec (o := o) hq h2
  generalize plt o p = A at *
  generalize plt o q = B at *
  have hn := pmul_nrm hp.s hq.s
  have key : ∀ a ∈ p, ∀ b ∈ q, (a ≠ A ∨ b ≠ B) → 0 < cmpO o (mulM A.2 B.2) (mulM a.2 b.2) := fun a ha b hb hab => by
    have hB : b = B ∨ 0 < cmpO o (mulM A.2 B.2) (mulM A.2 b.2) := by
      by_cases e : b = B
      · exact .inl e
      · right
        rw [mulM_comm A.2 B.2, mulM_comm A.2 b.2, cmpO_mul]; exact b2 b hb e
    have hA : a = A ∨ 0 < cmpO o (mulM A.2 b.2) (mulM a.2 b.2) := by
      by_cases e : a = A
      · exact .inl e
      · right; rw [cmpO_mul]; exact a2 a ha e
    rcases hA with hA | hA
    · rcases hB with hB | hB
      · subst hA hB; rcases hab with h | h <;> exact absurd rfl h
      · subst hA; exact hB
    · rcases hB with hB | hB
      · subst hB; exact hA
      · exact cmpO_trans hB hA
  have hne : ∀ a ∈ p, ∀ b ∈ q, (a ≠ A ∨ b ≠ B) → mulM a.2 b.2 ≠ mulM A.2 B.2 := fun a ha b hb hab e => by
    have := key a ha b hb hab
    rw [e] at this; exact cmpO_self o _ this
  have hco : pev (ind (mulM A.2 B.2)) (pmul p q) = A.1 * B.1 := by
    rw [pmul_pev, pev_only hp.s a1 (fun t ht hta => ?_)]
    · rw [pev_only hq.s b1 (fun s hs hsb => ?_)]
      · rw [ind, if_pos rfl]; grind
      · rw [ind, if_neg (hne A a1 s hs (.inr hsb))]
    · have e : pev (fun n => ind (mulM A.2 B.2) (mulM t.2 n)) q = pev (fun _ => 0) q := pev_congr fun s hs => by rw [ind, if_neg (hne t ht s hs (.inl hta))]
      rw [e, pev_zero]
  have hnz : A.1 * B.1 ≠ 0 := fun h => by
    rcases Rat.mul_eq_zero.1 h with h | h
    · exact hp.z A a1 h
    · exact hq.z B b1 h
  obtain ⟨t, ht, hte⟩ : ∃ t ∈ pmul p q, t.2 = mulM A.2 B.2 := by
    apply Classical.byContradiction; intro hno
    rw [ev_ind_none (fun t ht e => hno ⟨t, ht, e⟩)] at hco
    exact hnz hco.symm
  have h0 : pmul p q ≠ [] := fun h => by rw [h] at ht; cases ht
  refine ⟨h0, ?_⟩
  have htc : t.1 = A.1 * B.1 := by
    rw [← hco, pev_only hn.s ht (fun s hs hst => by rw [ind, if_neg (fun e => hst (mono_inj hn.s hs ht (by rw [e, hte])))]), ind, if_pos hte]; grind
  obtain ⟨c1, c2⟩ := plt_spec (o := o) hn h0
  have hL : t = plt o (pmul p q) := by
    apply Classical.byContradiction; intro hno
    have h3 := c2 t ht hno
    obtain ⟨a, ha, b, hb, e⟩ := mem_pmul c1
    rw [e, hte] at h3
    by_cases hab : a ≠ A ∨ b ≠ B
    · have h4 := key a ha b hb hab
      exact cmpO_self o _ (cmpO_trans h3 h4)
    · have ea : a = A := Classical.byContradiction fun h => hab (.inl h)
      have eb : b = B := Classical.byContradiction fun h => hab (.inr h)
      subst ea eb
      exact cmpO_self o _ h3
  rw [← hL]
  exact Prod.ext htc hte
theorem pdeg_aux : ∀ (p : List Tm) (d : Int), d ≤ p.foldl (fun d t => max d (degM t.2)) d ∧ (∀ t ∈ p, degM t.2 ≤ p.foldl (fun d t => max d (degM t.2)) d) ∧ (p.foldl (fun d t => max d (degM t.2)) d = d ∨ ∃ t ∈ p, p.foldl (fun d t => max d (degM t.2)) d = degM t.2)
  | [], d => ⟨Int.le_refl _, by simp, .inl rfl⟩
  | s :: p, d => by
    obtain ⟨h1, h2, h3⟩ := pdeg_aux p (max d (degM s.2))
    rw [List.foldl_cons]
    refine ⟨by omega, fun t ht => ?_, ?_⟩
    · rcases List.mem_cons.1 ht with rfl | ht
      · omega
      · exact h2 t ht
    · rcases h3 with h3 | ⟨t, ht, h3⟩
      · rw [h3]
        by_cases h : d ≤ degM s.2
        · right; exact ⟨s, by simp, by omega⟩
        · left; omega
      · right; exact ⟨t, by simp [ht], h3⟩
theorem pdeg_ge' (p : List Tm) : (∀ t ∈ p, degM t.2 ≤ pdeg p) ∧ (pdeg p = -1 ∨ ∃ t ∈ p, pdeg p = degM t.2) := ⟨(pdeg_aux p (-1)).2.1, (pdeg_aux p (-1)).2.2⟩
theorem pdeg_lead {p : List Tm} {K E : Nat} (hp : PB K E p) (hn : Nrm p) (h0 : p ≠ []) : pdeg p = degM (plt 1 p).2 := by
  obtain ⟨c1, c2⟩ := plt_spec (o := 1) hn h0
  have hall : ∀ t ∈ p, degM t.2 ≤ degM (plt 1 p).2 := fun t ht => by
    by_cases e : t = plt 1 p
    · rw [e]; exact Int.le_refl _
    · have := c2 t ht e
      rw [cmpO_gt] at this
      rcases this with h | h
      · omega
      · have := h.1 rfl; omega
  have h1 := (pdeg_ge' p).1 _ c1
  rcases (pdeg_ge' p).2 with h | ⟨t, ht, h⟩
  · have := (degM_le (hp _ c1).m).1; omega
  · have := hall t ht; omega
end Go.FW
namespace Go.FW
open Go
variable {C : Ctx} {fr : Fr} {hp : HP} {w : World} {K R : Kont}
theorem bs0 {e ty d : Nat} (he : 0 < e) : bsK e ty [] d fr hp K = K (upd (killF d fr) d (.ms d 0)) (updH hp d ⟨e, ty, [], false⟩) := bs_flat (by rfl) (by simp) he
theorem idx_ms1 {e d β o n : Nat} {k : IntKind} (h : 1 < n) (he : (hp β).map (·.e) = some e) : idxK e (.mso β o n) (.int k 1) d fr hp K = K (upd fr d (.mp β (o + 1) 0)) hp := by
  rw [idx_ms (by omega) (by omega) he]; rfl
theorem st_rat {ty β i : Nat} {vs : List Rat} {b : Rat} (h : i < vs.length) : stM (some ⟨3, ty, vs.map PV.rat, false⟩) β 3 i 0 (PV.rat b) fr hp K = K fr (updH hp β ⟨3, ty, (vs.set i b).map PV.rat, false⟩) := by
  have := stM_whole (fr := fr) (hp := hp) (K := K) (n := 3) (ty := ty) (β := β) (i := i) (xs := vs.map PV.rat) (v := PV.rat b) (by simpa using h) rfl rfl
  rw [List.map_set]; exact this
end Go.FW
