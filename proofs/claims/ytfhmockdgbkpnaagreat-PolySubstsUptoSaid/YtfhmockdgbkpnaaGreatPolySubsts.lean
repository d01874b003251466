/- PolySubsts holds, for arguments of bulk at most 1048576. -/
import Derived.Test.YtfhmockdgbkpnaaGreatPolySubstsPart8
set_option linter.unusedSimpArgs false
set_option linter.unnecessarySimpa false
set_option linter.unusedVariables false
namespace Go.Proofs.YtfhmockdgbkpnaaGreat
open Go Go.FW
set_option linter.unusedSimpArgs false
set_option linter.unusedVariables false
set_option maxRecDepth 100000
theorem insertionSort_nil : FnSpec Tryz.prog 171 [.nilS, .int .i64 0, .int .i64 0] (· = .tup []) := by
  refine fn_of_vc mixed Tryz.func171 rfl c171_ok (by simp [c171]) fun C hP => ?_; simp only [c171]
  simp +decide (disch := first | omega | rfl | (simp +decide only [go_sem, ↓reduceIte] <;> rfl) | fail) only [go_sem, ↓reduceIte, mk_empty, sl_3n, app_nil_map, mk_i64, max_nat]
  refine vc_loopF (by repeat (first | exact okSk_ret | exact okSk_retM | exact okSk_retO | apply okSk_back | apply okSk_out | apply okSk_eb | apply okSk_c | apply okSk_o | apply okSk_again)) [(6, 7), (10, 48)] [] (fun m J hp => J 6 = .int .i64 1) 1 ?_ ?_
  · simp +decide (disch := first | omega | rfl | (simp +decide only [go_sem, ↓reduceIte] <;> rfl) | fail) only [go_sem, ↓reduceIte, mk_empty, sl_3n, app_nil_map, mk_i64, max_nat]
    rfl
  rintro m J h h6
  simp +decide (disch := first | omega | rfl | (simp +decide only [go_sem, ↓reduceIte, h6] <;> rfl) | fail) only [go_sem, ↓reduceIte, mk_empty, sl_3n, app_nil_map, mk_i64, max_nat, h6]
  exact ⟨.tup [], trivial, rfl⟩
theorem pdq_nil {lim : Int} : FnSpec Tryz.prog 161 [.nilS, .int .i64 0, .int .i64 0, .int .i64 lim] (· = .tup []) := by
  refine fn_of_vc mixed Tryz.func161 rfl c161_ok (by simp [c161]) fun C hP => ?_; simp only [c161]
  simp +decide (disch := first | omega | rfl | (simp +decide only [go_sem, ↓reduceIte] <;> rfl) | fail) only [go_sem, ↓reduceIte, mk_empty, sl_3n, app_nil_map, mk_i64, max_nat]
  refine vc_loopF (by repeat (first | exact okSk_ret | exact okSk_retM | exact okSk_retO | apply okSk_back | apply okSk_out | apply okSk_eb | apply okSk_c | apply okSk_o | apply okSk_again)) [(1, 3), (8, 133)] [] (fun m J hp => J 1 = .int .i64 0 ∧ J 2 = .int .i64 0) 1 ?_ ?_
  · simp +decide (disch := first | omega | rfl | (simp +decide only [go_sem, ↓reduceIte] <;> rfl) | fail) only [go_sem, ↓reduceIte, mk_empty, sl_3n, app_nil_map, mk_i64, max_nat]
  rintro m J h ⟨h1, h2⟩
  simp +decide (disch := first | omega | rfl | (simp +decide only [go_sem, ↓reduceIte, h1, h2, Int.sub_zero] <;> rfl) | fail) only [go_sem, ↓reduceIte, mk_empty, sl_3n, app_nil_map, mk_i64, max_nat, h1, h2, Int.sub_zero]
  refine call_eq0 hP insertionSort_nil rfl rfl rfl ?_
  simp +decide (disch := first | omega | rfl | (simp +decide only [go_sem, ↓reduceIte] <;> rfl) | fail) only [go_sem, ↓reduceIte, mk_empty, sl_3n, app_nil_map, mk_i64, max_nat]
  exact ⟨.tup [], trivial, rfl⟩
theorem Sort_nil : FnSpec Tryz.prog 135 [.nilS] (· = .tup []) := by
  refine fn_of_vc mixed Tryz.func135 rfl c135_ok (by simp [c135]) fun C hP => ?_; simp only [c135]
  simp +decide (disch := first | omega | rfl | (simp +decide only [go_sem, ↓reduceIte] <;> rfl) | fail) only [go_sem, ↓reduceIte, mk_empty, sl_3n, app_nil_map, mk_i64, max_nat]
  refine call_eq0 hP (Len_spec (x := 0) (by omega)) rfl rfl rfl ?_
  simp +decide (disch := first | omega | rfl | (simp +decide only [go_sem, ↓reduceIte] <;> rfl) | fail) only [go_sem, ↓reduceIte, mk_empty, sl_3n, app_nil_map, mk_i64, max_nat]
  refine call_eq0 hP pdq_nil rfl rfl rfl ?_
  simp +decide (disch := first | omega | rfl | (simp +decide only [go_sem, ↓reduceIte] <;> rfl) | fail) only [go_sem, ↓reduceIte, mk_empty, sl_3n, app_nil_map, mk_i64, max_nat]
  exact ⟨.tup [], trivial, rfl⟩
theorem Reverse_nil : FnSpec Tryz.prog 136 [.nilS] (· = .tup []) := by
  refine fn_of_vc mixed Tryz.func136 rfl c136_ok (by simp [c136]) fun C hP => ?_; simp only [c136]
  simp +decide (disch := first | omega | rfl | (simp +decide only [go_sem, ↓reduceIte] <;> rfl) | fail) only [go_sem, ↓reduceIte, mk_empty, sl_3n, app_nil_map, mk_i64, max_nat]
  refine vc_loopF (by repeat (first | exact okSk_ret | exact okSk_retM | exact okSk_retO | apply okSk_back | apply okSk_out | apply okSk_eb | apply okSk_c | apply okSk_o | apply okSk_again)) [(2, 3), (7, 27)] [] (fun m J hp => J 2 = .int .i64 0 ∧ J 3 = .int .i64 (-1)) 1 ?_ ?_
  · simp +decide (disch := first | omega | rfl | (simp +decide only [go_sem, ↓reduceIte] <;> rfl) | fail) only [go_sem, ↓reduceIte, mk_empty, sl_3n, app_nil_map, mk_i64, max_nat]
    rfl
  rintro m J h ⟨h2, h3⟩
  simp +decide (disch := first | omega | rfl | (simp +decide only [go_sem, ↓reduceIte, h2, h3] <;> rfl) | fail) only [go_sem, ↓reduceIte, mk_empty, sl_3n, app_nil_map, mk_i64, max_nat, h2, h3]
  exact ⟨.tup [], trivial, rfl⟩
theorem p_coefs_nil {v : Nat} : FnSpec Tryz.prog 99 [PV.poly [], .int .i64 v] (· = .tup [PV.mono [], PV.polys []]) := by
  refine fn_of_vc mixed Tryz.func99 rfl c99_ok (by simp [c99]) fun C hP => ?_; simp only [c99]
  simp +decide (disch := first | omega | rfl | (simp +decide only [go_sem, ↓reduceIte] <;> rfl) | fail) only [go_sem, ↓reduceIte, mk_empty, sl_3n, app_nil_map, mk_i64, max_nat]
  refine vc_loopF (by repeat (first | exact okSk_ret | exact okSk_retM | exact okSk_retO | apply okSk_back | apply okSk_out | apply okSk_eb | apply okSk_c | apply okSk_o | apply okSk_again)) [(4, 4), (7, 8), (17, 33)] [7, 31, 32] (fun m J hp => J 4 = .nilS ∧ J 17 = .int .i64 0) 1 ?_ ?_
  · simp +decide (disch := first | omega | rfl | (simp +decide only [go_sem, ↓reduceIte] <;> rfl) | fail) only [go_sem, ↓reduceIte, mk_empty, sl_3n, app_nil_map, mk_i64, max_nat]
  rintro m J h ⟨h4, h17⟩
  simp +decide (disch := first | omega | rfl | (simp +decide only [go_sem, ↓reduceIte, h4, h17] <;> rfl) | fail) only [go_sem, ↓reduceIte, mk_empty, sl_3n, app_nil_map, mk_i64, max_nat, h4, h17]
  refine call_eq0 hP Sort_nil rfl rfl rfl ?_
  simp +decide (disch := first | omega | rfl | (simp +decide only [go_sem, ↓reduceIte, h4] <;> rfl) | fail) only [go_sem, ↓reduceIte, mk_empty, sl_3n, app_nil_map, mk_i64, max_nat, h4]
  refine call_eq0 hP Reverse_nil rfl rfl rfl ?_
  simp +decide (disch := first | omega | rfl | (simp +decide only [go_sem, ↓reduceIte, h4] <;> rfl) | fail) only [go_sem, ↓reduceIte, mk_empty, sl_3n, app_nil_map, mk_i64, max_nat, h4]
  refine vc_loopF (by repeat (first | exact okSk_ret | exact okSk_retM | exact okSk_retO | apply okSk_back | apply okSk_out | apply okSk_eb | apply okSk_c | apply okSk_o | apply okSk_again)) [(5, 5), (10, 11), (13, 14), (40, 77)] [13, 58, 70, 71, 75, 76] (fun m J hp => J 5 = .nilS ∧ J 40 = .int .i64 0) 1 ?_ ?_
  · simp +decide (disch := first | omega | rfl | (simp +decide only [go_sem, ↓reduceIte] <;> rfl) | fail) only [go_sem, ↓reduceIte, mk_empty, sl_3n, app_nil_map, mk_i64, max_nat]
  rintro m J h ⟨h5, h40⟩
  simp +decide (disch := first | omega | rfl | (simp +decide only [go_sem, ↓reduceIte, h5, h40, h4] <;> rfl) | fail) only [go_sem, ↓reduceIte, mk_empty, sl_3n, app_nil_map, mk_i64, max_nat, h5, h40, h4]
  exact ret2 rfl rfl rfl trivial trivial
theorem p_Subst_bad {p q : List Tm} {v : Int} (h : v < 0 ∨ 64 ≤ v) : FnSpec Tryz.prog 47 [PV.poly p, .int .i64 v, PV.poly q] (· = .tup [PV.poly [], .int .i64 2]) := by
  refine fn_of_vc mixed Tryz.func47 rfl c47_ok (by simp [c47]) fun C hP => ?_; simp only [c47]
  simp +decide (disch := first | omega | rfl | (simp +decide only [go_sem, ↓reduceIte] <;> rfl) | fail) only [go_sem, ↓reduceIte, mk_empty, sl_3n, app_nil_map, mk_i64, max_nat]
  refine guard_splitF (fun h1 => ?_) (fun h1 => ?_)
  · simp +decide (disch := first | omega | rfl | (simp +decide only [go_sem, ↓reduceIte] <;> rfl) | fail) only [go_sem, ↓reduceIte, mk_empty, sl_3n, app_nil_map, mk_i64, max_nat]
    exact ret2 rfl rfl rfl trivial (le_refl _)
  simp +decide (disch := first | omega | rfl | (simp +decide only [go_sem, ↓reduceIte] <;> rfl) | fail) only [go_sem, ↓reduceIte, mk_empty, sl_3n, app_nil_map, mk_i64, max_nat]
  refine cond_split (fun h2 => ?_) (fun h2 => by omega)
  simp +decide (disch := first | omega | rfl | (simp +decide only [go_sem, ↓reduceIte] <;> rfl) | fail) only [go_sem, ↓reduceIte, mk_empty, sl_3n, app_nil_map, mk_i64, max_nat]
  exact ret2 rfl rfl rfl trivial (le_refl _)
theorem p_Subst_nil {q : List Tm} {v : Nat} (hv : v < 64) : FnSpec Tryz.prog 47 [PV.poly [], .int .i64 v, PV.poly q] (· = .tup [PV.poly [], .int .i64 0]) := by
  refine fn_of_vc mixed Tryz.func47 rfl c47_ok (by simp [c47]) fun C hP => ?_; simp only [c47]
  simp +decide (disch := first | omega | rfl | (simp +decide only [go_sem, ↓reduceIte] <;> rfl) | fail) only [go_sem, ↓reduceIte, mk_empty, sl_3n, app_nil_map, mk_i64, max_nat]
  refine guard_splitF (fun h1 => by omega) (fun _ => ?_)
  simp +decide (disch := first | omega | rfl | (simp +decide only [go_sem, ↓reduceIte] <;> rfl) | fail) only [go_sem, ↓reduceIte, mk_empty, sl_3n, app_nil_map, mk_i64, max_nat]
  refine cond_split (fun h2 => by omega) (fun _ => ?_)
  simp +decide (disch := first | omega | rfl | (simp +decide only [go_sem, ↓reduceIte] <;> rfl) | fail) only [go_sem, ↓reduceIte, mk_empty, sl_3n, app_nil_map, mk_i64, max_nat]
  refine call_eq0 hP p_coefs_nil rfl rfl rfl ?_
  simp +decide (disch := first | omega | rfl | (simp +decide only [go_sem, ↓reduceIte] <;> rfl) | fail) only [go_sem, ↓reduceIte, mk_empty, sl_3n, app_nil_map, mk_i64, max_nat]
  exact ret2 rfl rfl rfl trivial (le_refl _)
theorem p_Subst_spec {p q : List Tm} {v top K E L : Nat} (hp : PB K E p) (hq : PB K E q) (hv : v < 64) (h0 : 0 < p.length) (hl : p.length ≤ 12) (hlL : p.length ≤ L) (hlq : q.length ≤ L) (hE : E ≤ 1048576) (hL : L ≤ 2 ^ 15) (hK : L * (K + K) + K ≤ 2 ^ 30)
    (htop : ptop p v = top) (htl : top ≤ 4000) (hb : ∀ k, k ≤ top → PB K E (hor p v q top k) ∧ (hor p v q top k).length ≤ L) :
    FnSpec Tryz.prog 47 [PV.poly p, .int .i64 v, PV.poly q] (· = subR p v q top) := by
  refine fn_of_vc mixed Tryz.func47 rfl c47_ok (by simp [c47]) fun C hP => ?_; simp only [c47]
  simp +decide (disch := first | omega | rfl | (simp +decide only [go_sem, ↓reduceIte] <;> rfl) | fail) only [go_sem, ↓reduceIte, mk_empty, sl_3n, app_nil_map, mk_i64, max_nat]
  refine guard_splitF (fun h1 => by omega) (fun _ => ?_)
  simp +decide (disch := first | omega | rfl | (simp +decide only [go_sem, ↓reduceIte] <;> rfl) | fail) only [go_sem, ↓reduceIte, mk_empty, sl_3n, app_nil_map, mk_i64, max_nat]
  refine cond_split (fun h2 => by omega) (fun _ => ?_)
  simp +decide (disch := first | omega | rfl | (simp +decide only [go_sem, ↓reduceIte] <;> rfl) | fail) only [go_sem, ↓reduceIte, mk_empty, sl_3n, app_nil_map, mk_i64, max_nat]
  refine call_spec0 hP (p_coefs_spec hp hv hE h0 hl) rfl rfl rfl ?_
  rintro _ ⟨D, hD, rfl⟩
  have hD0 : 0 < D.length := List.length_pos_iff.2 fun h => by
    have := (hD.m (eN p[0].2 v)).2 ⟨p[0], List.getElem_mem h0, rfl⟩
    rw [h] at this; cases this
  have hDl := hD.l
  have hDt := pows_top hD hD0 (fun t ht => (hp t ht).m)
  rw [htop] at hDt
  have hfg : (D.map (coefN p v))[0]'(by simpa using hD0) = hor p v q top 0 := by simp [hDt, hor]
  have hDm : 0 < (D.map (coefN p v)).length := by simpa using hD0
  simp +decide (disch := first | omega | rfl | (simp +decide only [go_sem, ↓reduceIte] <;> rfl) | fail) only [go_sem, ↓reduceIte, mk_empty, sl_3n, app_nil_map, mk_i64, max_nat]
  refine cond_split (fun h => by omega) (fun _ => ?_)
  simp +decide (disch := first | omega | rfl | (simp +decide only [go_sem, ↓reduceIte, hDt] <;> rfl) | fail) only [go_sem, ↓reduceIte, mk_empty, sl_3n, app_nil_map, mk_i64, max_nat, hDt]
  refine cond_split (fun h => by omega) (fun _ => ?_)
  simp +decide (disch := first | omega | rfl | (simp +decide only [go_sem, ↓reduceIte, hDt, hfg] <;> rfl) | fail) only [go_sem, ↓reduceIte, mk_empty, sl_3n, app_nil_map, mk_i64, max_nat, hDt, hfg]
  refine vc_loopF (by repeat (first | exact okSk_ret | exact okSk_retM | exact okSk_retO | apply okSk_back | apply okSk_out | apply okSk_eb | apply okSk_c | apply okSk_o | apply okSk_again)) [(6, 7), (10, 12), (39, 69)] [] (fun m J hp => ∃ k a, m = top - k ∧ k ≤ top ∧ horL p v q top k = false ∧ a ≤ D.length ∧ (∀ i (h : i < D.length), i < a → (top : Int) - k ≤ D[i]) ∧ (∀ i (h : i < D.length), a ≤ i → D[i] < (top : Int) - k) ∧
    J 10 = PV.poly (hor p v q top k) ∧ J 11 = .int .i64 (a : Nat) ∧ J 12 = .int .i64 ((top : Int) - k - 1)) top ?_ ?_
  · refine ⟨0, 1, rfl, by omega, rfl, by omega, fun i h hi => ?_, fun i h hi => ?_, ?_⟩
    · obtain rfl : i = 0 := by omega
      omega
    · have := hD.lt (i := 0) (j := i) (by omega) h
      omega
    · simp +decide (disch := first | omega | rfl | (simp +decide only [go_sem, ↓reduceIte] <;> rfl) | fail) only [go_sem, ↓reduceIte, mk_empty, sl_3n, app_nil_map, mk_i64, max_nat]
      exact ⟨rfl, congrArg (PV.int .i64) (by omega)⟩
  rintro _ J h ⟨k, a, rfl, hk, hl0, ha, hlo, hhi, h10, h11, h12⟩
  obtain ⟨b1, b2⟩ := hb k hk
  simp +decide (disch := first | omega | rfl | (simp +decide only [go_sem, ↓reduceIte, h10, h11, h12] <;> rfl) | fail) only [go_sem, ↓reduceIte, mk_empty, sl_3n, app_nil_map, mk_i64, max_nat, h10, h11, h12]
  refine call_eq0 hP (p_large_spec (fun t ht => (b1 t ht).m) (by omega)) rfl rfl rfl ?_
  simp +decide (disch := first | omega | rfl | (simp +decide only [go_sem, ↓reduceIte, h10, h11, h12] <;> rfl) | fail) only [go_sem, ↓reduceIte, mk_empty, sl_3n, app_nil_map, mk_i64, max_nat, h10, h11, h12]
  cases hlg : plarge (hor p v q top k)
  · have hls := horL_succ p v q top k
    rw [hl0, hlg, Bool.or_false] at hls
    simp +decide (disch := first | omega | rfl | (simp +decide only [go_sem, ↓reduceIte, h10, h11, h12] <;> rfl) | fail) only [go_sem, ↓reduceIte, mk_empty, sl_3n, app_nil_map, mk_i64, max_nat, h10, h11, h12]
    refine cond_split (fun hn => ?_) (fun hn => ?_)
    · obtain rfl : k = top := by omega
      simp +decide (disch := first | omega | rfl | (simp +decide only [go_sem, ↓reduceIte, h10] <;> rfl) | fail) only [go_sem, ↓reduceIte, mk_empty, sl_3n, app_nil_map, mk_i64, max_nat, h10]
      exact ret2 (by rw [subR, if_neg (by simp [hls])]) rfl rfl (le_refl _) (le_refl _)
    · have hm1 : (hor p v q top k).length * q.length ≤ 2 ^ 15 * 2 ^ 15 := Nat.mul_le_mul (by omega) (by omega)
      have hm2 : min (hor p v q top k).length q.length * (K + K) ≤ L * (K + K) := Nat.mul_le_mul_right _ (by omega)
      obtain ⟨b3, b4⟩ := pmul_bound b1 hq
      have hcb := coefN_PB hp v ((top : Int) - (k + 1))
      have hcl := coefN_length p v ((top : Int) - (k + 1))
      simp +decide (disch := first | omega | rfl | (simp +decide only [go_sem, ↓reduceIte, h10, h11, h12] <;> rfl) | fail) only [go_sem, ↓reduceIte, mk_empty, sl_3n, app_nil_map, mk_i64, max_nat, h10, h11, h12]
      refine call_eq0 hP (p_Mul_spec b1 hq (by omega) (by omega) (by omega) (by omega) (by omega) (by omega)) rfl rfl rfl ?_
      simp +decide (disch := first | omega | rfl | (simp +decide only [go_sem, ↓reduceIte, h10, h11, h12] <;> rfl) | fail) only [go_sem, ↓reduceIte, mk_empty, sl_3n, app_nil_map, mk_i64, max_nat, h10, h11, h12]
      refine guard_split (fun hal => ?_) (fun hal => ?_)
      · have ha' : a < D.length := by simp at hal; omega
        have hga : (D.map (coefN p v))[a]'(by simpa using ha') = coefN p v D[a] := by simp
        have ham : a < (D.map (coefN p v)).length := by simpa using ha'
        have hlt := fun j h => hD.lt (i := a) (j := j) h
        have hhia := hhi a ha' (Nat.le_refl _)
        have hmem : D[a] ∈ D := List.getElem_mem ha'
        generalize hd : D[a] = d at *
        simp +decide (disch := first | omega | rfl | (simp +decide only [go_sem, ↓reduceIte, h10, h11, h12, hd] <;> rfl) | fail) only [go_sem, ↓reduceIte, mk_empty, sl_3n, app_nil_map, mk_i64, max_nat, h10, h11, h12, hd]
        refine cond_split (fun he => ?_) (fun he => ?_)
        · have hed : d = (top : Int) - (k + 1) := by omega
          subst hed
          simp +decide (disch := first | omega | rfl | (simp +decide only [go_sem, ↓reduceIte, h10, h11, h12, hga] <;> rfl) | fail) only [go_sem, ↓reduceIte, mk_empty, sl_3n, app_nil_map, mk_i64, max_nat, h10, h11, h12, hga]
          refine call_eq0 hP (p_Add_spec (K := L * (K + K) + K) (E := E + E) (b3.mono (by omega) (by omega)) (hcb.mono (by omega) (by omega)) (by omega) (by omega) (by omega) (by omega)) rfl rfl rfl ?_
          simp +decide (disch := first | omega | rfl | (simp +decide only [go_sem, ↓reduceIte, h10, h11, h12, hga] <;> rfl) | fail) only [go_sem, ↓reduceIte, mk_empty, sl_3n, app_nil_map, mk_i64, max_nat, h10, h11, h12, hga]
          refine back_ovr (top - (k + 1)) (by omega) ⟨k + 1, a + 1, rfl, by omega, hls, by omega, fun i h hi => ?_, fun i h hi => ?_, ?_⟩
          · by_cases hia : i = a
            · subst hia; omega
            · have := hlo i h (by omega); omega
          · have := hlt i (by omega) h; omega
          · simp +decide (disch := first | omega | rfl | (simp +decide only [go_sem, ↓reduceIte] <;> rfl) | fail) only [go_sem, ↓reduceIte, mk_empty, sl_3n, app_nil_map, mk_i64, max_nat]
            exact ⟨rfl, congrArg (PV.int .i64) (by omega)⟩
        · have hno : coefN p v ((top : Int) - (k + 1)) = [] := coefN_none fun t ht hte => by
            have hm := (hD.m _).2 ⟨t, ht, rfl⟩
            rw [hte] at hm
            obtain ⟨i, hi, hie⟩ := List.getElem_of_mem hm
            by_cases hia : i < a
            · have := hlo i hi hia; omega
            · by_cases hia2 : i = a
              · subst hia2; omega
              · have := hlt i (by omega) hi; omega
          have hh1 : hor p v q top (k + 1) = pmul (hor p v q top k) q := by rw [hor, hno, padd_nil]
          simp +decide (disch := first | omega | rfl | (simp +decide only [go_sem, ↓reduceIte, h10, h11, h12] <;> rfl) | fail) only [go_sem, ↓reduceIte, mk_empty, sl_3n, app_nil_map, mk_i64, max_nat, h10, h11, h12]
          refine back_ovr (top - (k + 1)) (by omega) ⟨k + 1, a, rfl, by omega, hls, by omega, fun i h hi => ?_, fun i h hi => ?_, ?_⟩
          · have := hlo i h hi; omega
          · by_cases hia : i = a
            · subst hia; omega
            · have := hlt i (by omega) h; omega
          · rw [hh1]
            simp +decide (disch := first | omega | rfl | (simp +decide only [go_sem, ↓reduceIte, h11] <;> rfl) | fail) only [go_sem, ↓reduceIte, mk_empty, sl_3n, app_nil_map, mk_i64, max_nat, h11]
            exact congrArg (PV.int .i64) (by omega)
      · have ha' : a = D.length := by simp at hal; omega
        have hno : coefN p v ((top : Int) - (k + 1)) = [] := coefN_none fun t ht hte => by
          have hm := (hD.m _).2 ⟨t, ht, rfl⟩
          rw [hte] at hm
          obtain ⟨i, hi, hie⟩ := List.getElem_of_mem hm
          have := hlo i hi (by omega); omega
        have hh1 : hor p v q top (k + 1) = pmul (hor p v q top k) q := by rw [hor, hno, padd_nil]
        simp +decide (disch := first | omega | rfl | (simp +decide only [go_sem, ↓reduceIte, h10, h11, h12] <;> rfl) | fail) only [go_sem, ↓reduceIte, mk_empty, sl_3n, app_nil_map, mk_i64, max_nat, h10, h11, h12]
        refine back_ovr (top - (k + 1)) (by omega) ⟨k + 1, a, rfl, by omega, hls, by omega, fun i h hi => ?_, fun i h hi => by omega, ?_⟩
        · have := hlo i h hi; omega
        · rw [hh1]
          simp +decide (disch := first | omega | rfl | (simp +decide only [go_sem, ↓reduceIte, h11] <;> rfl) | fail) only [go_sem, ↓reduceIte, mk_empty, sl_3n, app_nil_map, mk_i64, max_nat, h11]
          exact congrArg (PV.int .i64) (by omega)
  · have ho : horL p v q top (top + 1) = true := horL_of (show k < top + 1 by omega) hlg
    simp +decide (disch := first | omega | rfl | (simp +decide only [go_sem, ↓reduceIte] <;> rfl) | fail) only [go_sem, ↓reduceIte, mk_empty, sl_3n, app_nil_map, mk_i64, max_nat]
    exact ret2 (by rw [subR, if_pos ho]) rfl rfl poly_nil (le_refl _)
end Go.Proofs.YtfhmockdgbkpnaaGreat
namespace Go.Proofs.YtfhmockdgbkpnaaGreat
open Go Go.FW
set_option linter.unusedSimpArgs false
set_option linter.unusedVariables false
set_option maxRecDepth 100000
theorem r6_add_spec {p : List Tm} {n : Bool} {a d : List Nat} {m : List Int} {K E k : Nat} (hp : PB K E p) (hs : PSorted p) (hnz : NZ p) (hr : Raw k n a d) (hk : k ≤ 2 ^ 32) (hm : MB E m) (hl : m.getLast? ≠ some 0) (hK : K ≤ 2 ^ 32) (hE : E ≤ 2 ^ 38) (hlp : p.length ≤ 2 ^ 36) :
    FnSpec Tryz.prog 98 [PV.poly p, PV.rr n a d, PV.mono m] (· = PV.poly (paddT p (rv n a d) m)) := by
  have hrr := hr.rs
  refine fn_of_vc mixed Tryz.func98 rfl c98_ok (by simp [c98]) fun C hP => ?_; simp only [c98]
  simp +decide (disch := first | omega | rfl | (simp +decide only [go_sem, ↓reduceIte] <;> rfl) | fail) only [go_sem, ↓reduceIte, rem64K, quo64K, remI64K, quoI64K, mulK64, mk_empty, sl_3n, app_nil_map, mk_i64, max_nat]
  refine vc_loopF (by repeat (first | exact okSk_ret | exact okSk_retM | exact okSk_retO | apply okSk_back | apply okSk_out | apply okSk_eb | apply okSk_c | apply okSk_o | apply okSk_again | apply okSk_backW)) [(7, 7), (12, 26)] [] (fun k J hp => k ≤ p.length ∧ (∀ t ∈ p.drop k, cmpM t.2 m < 0) ∧ J 7 = .int .i64 (k : Nat) ∧ hp 4 = some ⟨3, 40, [PV.rr n a d], false⟩) p.length ?_ ?_
  · refine ⟨by omega, by simp, ?_⟩
    simp +decide (disch := first | omega | rfl | (simp +decide only [go_sem, ↓reduceIte] <;> rfl) | fail) only [go_sem, ↓reduceIte, rem64K, quo64K, remI64K, quoI64K, mulK64, mk_empty, sl_3n, app_nil_map, mk_i64, max_nat]
  rintro j J h ⟨hj, hd, h7, hh4⟩
  simp +decide (disch := first | omega | rfl | (simp +decide only [go_sem, ↓reduceIte, h7] <;> rfl) | fail) only [go_sem, ↓reduceIte, rem64K, quo64K, remI64K, quoI64K, mulK64, mk_empty, sl_3n, app_nil_map, mk_i64, max_nat, h7]
  refine guard_split (fun hg => ?_) (fun hg => ?_)
  · obtain ⟨i, rfl⟩ : ∃ i, j = i + 1 := ⟨j - 1, by omega⟩
    have e : ((i + 1 : Nat) : Int) - 1 = i := by omega
    have hi : i < p.length := by omega
    have htp := hp.get hi
    have hdr : p.drop i = p[i] :: p.drop (i + 1) := List.drop_eq_getElem_cons hi
    have htk : p.take (i + 1) = p.take i ++ [p[i]] := List.take_succ_eq_append_getElem hi
    have hts := psorted_take hs hi
    have hall : p = p.take i ++ p[i] :: p.drop (i + 1) := by rw [← hdr, List.take_append_drop]
    have c1 := htp.c
    generalize hx : p[i] = x at *
    simp +decide (disch := first | omega | rfl | (simp +decide only [go_sem, ↓reduceIte, h7, e, hx] <;> rfl) | fail) only [go_sem, ↓reduceIte, rem64K, quo64K, remI64K, quoI64K, mulK64, mk_empty, sl_3n, app_nil_map, mk_i64, max_nat, h7, e, hx]
    refine call_eq0 hP (r5_lex htp.m hm (by omega)) rfl rfl rfl ?_
    simp +decide (disch := first | omega | rfl | (simp +decide only [go_sem, ↓reduceIte, h7, e, hx] <;> rfl) | fail) only [go_sem, ↓reduceIte, rem64K, quo64K, remI64K, quoI64K, mulK64, mk_empty, sl_3n, app_nil_map, mk_i64, max_nat, h7, e, hx]
    refine cond_split (fun hc => ?_) (fun hc => ?_)
    · simp +decide (disch := first | omega | rfl | (simp +decide only [go_sem, ↓reduceIte, h7, e, hx] <;> rfl) | fail) only [go_sem, ↓reduceIte, rem64K, quo64K, remI64K, quoI64K, mulK64, mk_empty, sl_3n, app_nil_map, mk_i64, max_nat, h7, e, hx]
      refine back_ovr i (by omega) ⟨by omega, ?_, ?_⟩
      · rw [hdr]
        intro t ht
        rcases List.mem_cons.1 ht with rfl | ht
        · exact hc
        · exact hd t ht
      · simp +decide (disch := first | omega | rfl | (simp +decide only [go_sem, ↓reduceIte, hh4] <;> rfl) | fail) only [go_sem, ↓reduceIte, rem64K, quo64K, remI64K, quoI64K, mulK64, mk_empty, sl_3n, app_nil_map, mk_i64, max_nat, hh4]
    · simp +decide (disch := first | omega | rfl | (simp +decide only [go_sem, ↓reduceIte, h7, e, hx] <;> rfl) | fail) only [go_sem, ↓reduceIte, rem64K, quo64K, remI64K, quoI64K, mulK64, mk_empty, sl_3n, app_nil_map, mk_i64, max_nat, h7, e, hx]
      refine guard_split (fun _ => ?_) (fun h => by omega)
      simp +decide (disch := first | omega | rfl | (simp +decide only [go_sem, ↓reduceIte, h7, e, hx] <;> rfl) | fail) only [go_sem, ↓reduceIte, rem64K, quo64K, remI64K, quoI64K, mulK64, mk_empty, sl_3n, app_nil_map, mk_i64, max_nat, h7, e, hx]
      refine call_eq0 hP (r5_lex htp.m hm (by omega)) rfl rfl rfl ?_
      simp +decide (disch := first | omega | rfl | (simp +decide only [go_sem, ↓reduceIte, h7, e, hx] <;> rfl) | fail) only [go_sem, ↓reduceIte, rem64K, quo64K, remI64K, quoI64K, mulK64, mk_empty, sl_3n, app_nil_map, mk_i64, max_nat, h7, e, hx]
      refine cond_split (fun hc2 => ?_) (fun hc2 => ?_)
      · have hxm : x.2 = m := (cmpM_eq htp.l hl).1 hc2
        have hx0 := hnz _ (List.getElem_mem hi)
        rw [hx] at hx0
        have hfin : paddT p (rv n a d) m = p.take i ++ (if x.1 + rv n a d = 0 then [] else [(x.1 + rv n a d, m)]) ++ p.drop (i + 1) := by
          have hall' : p = p.take i ++ (x.1, m) :: p.drop (i + 1) := by rw [← hxm]; exact hall
          rw [paddT]
          split
          · rename_i h0
            have e0 : x.1 + 0 = x.1 := Rat.add_zero _
            rw [h0, padd_nil, e0, if_neg hx0]
            simpa using hall'
          · conv => lhs; rw [hall']
            exact padd_at (fun t ht => by rw [← hxm]; exact hts t ht)
        have htl : (p.take i).length ≤ p.length := List.length_take_le' _ _
        have hdl : (p.drop (i + 1)).length ≤ p.length := by rw [List.length_drop]; omega
        have hra := rs_add x.1 (rv n a d)
        have hxr := raw_of (q := x.1) (k := 2 ^ 32) (by omega)
        have hadd := r3_Add_spec (k := 2 ^ 32) hxr (show Raw (2 ^ 32) n a d from ⟨hr.la, hr.ld, by have := hr.sa; omega, by have := hr.sd; omega, by omega⟩) (by omega)
        rw [rv_of] at hadd
        simp +decide (disch := first | omega | rfl | (simp +decide only [go_sem, ↓reduceIte, h7, e, hx, hh4] <;> rfl) | fail) only [go_sem, ↓reduceIte, rem64K, quo64K, remI64K, quoI64K, mulK64, mk_empty, sl_3n, app_nil_map, mk_i64, max_nat, h7, e, hx, hh4]
        refine br_intro ?_ ?_
        all_goals
          simp +decide (disch := first | omega | rfl | (simp +decide only [go_sem, ↓reduceIte, h7, e, hx, hh4] <;> rfl) | fail) only [go_sem, ↓reduceIte, rem64K, quo64K, remI64K, quoI64K, mulK64, mk_empty, sl_3n, app_nil_map, mk_i64, max_nat, h7, e, hx, hh4]
          refine call_eq0 hP hadd rfl rfl rfl ?_
          simp +decide (disch := first | omega | rfl | (simp +decide only [go_sem, ↓reduceIte, h7, e, hx, hh4] <;> rfl) | fail) only [go_sem, ↓reduceIte, rem64K, quo64K, remI64K, quoI64K, mulK64, mk_empty, sl_3n, app_nil_map, mk_i64, max_nat, h7, e, hx, hh4]
          refine call_eq0 hP (r3_Sign_q (a := x.1 + rv n a d) (by omega)) rfl rfl rfl ?_
          simp +decide (disch := first | omega | rfl | (simp +decide only [go_sem, ↓reduceIte, h7, e, hx, hh4] <;> rfl) | fail) only [go_sem, ↓reduceIte, rem64K, quo64K, remI64K, quoI64K, mulK64, mk_empty, sl_3n, app_nil_map, mk_i64, max_nat, h7, e, hx, hh4]
          refine cond_split (fun hz => ?_) (fun hz => ?_)
          · rw [if_neg (fun h => hz (sgnQ_zero.2 h))] at hfin
            simp +decide (disch := first | omega | rfl | (simp +decide only [go_sem, ↓reduceIte, h7, e, hx, hh4] <;> rfl) | fail) only [go_sem, ↓reduceIte, rem64K, quo64K, remI64K, quoI64K, mulK64, mk_empty, sl_3n, app_nil_map, mk_i64, max_nat, h7, e, hx, hh4]
            rw [app_push_map (f := PV.term) (y := (x.1 + rv n a d, m)) (xs := p.take i) (ty' := 49) (fz := false) (by simp +decide (disch := first | omega | rfl | (simp +decide only [go_sem, ↓reduceIte] <;> rfl) | fail) only [go_sem, ↓reduceIte, rem64K, quo64K, remI64K, quoI64K, mulK64, mk_empty, sl_3n, app_nil_map, mk_i64, max_nat]) (by simp +decide (disch := first | omega | rfl | (simp +decide only [go_sem, ↓reduceIte] <;> rfl) | fail) only [go_sem, ↓reduceIte, rem64K, quo64K, remI64K, quoI64K, mulK64, mk_empty, sl_3n, app_nil_map, mk_i64, max_nat] <;> rfl) (by omega) rfl (by omega) (by omega)]
            simp +decide (disch := first | omega | rfl | (simp +decide only [go_sem, ↓reduceIte, h7, e, hx, hh4] <;> rfl) | fail) only [go_sem, ↓reduceIte, rem64K, quo64K, remI64K, quoI64K, mulK64, mk_empty, sl_3n, app_nil_map, mk_i64, max_nat, h7, e, hx, hh4]
            rw [app_map (f := PV.term) (xs := p.take i ++ [(x.1 + rv n a d, m)]) (ys := p.drop (i + 1)) (by simp +decide (disch := first | omega | rfl | (simp +decide only [go_sem, ↓reduceIte] <;> rfl) | fail) only [go_sem, ↓reduceIte, rem64K, quo64K, remI64K, quoI64K, mulK64, mk_empty, sl_3n, app_nil_map, mk_i64, max_nat]) (by simp <;> omega) (by omega) (by omega) (by omega)]
            simp +decide (disch := first | omega | rfl | (simp +decide only [go_sem, ↓reduceIte, looks3, List.contains_cons, List.contains_nil, List.flatMap_cons, List.flatMap_nil, List.append_nil] <;> rfl) | fail) only [go_sem, ↓reduceIte, rem64K, quo64K, remI64K, quoI64K, mulK64, mk_empty, sl_3n, app_nil_map, mk_i64, max_nat, looks3, List.contains_cons, List.contains_nil, List.flatMap_cons, List.flatMap_nil, List.append_nil]
            refine retV_eq ?_ rfl
            rw [List.take_of_length_le (by simp <;> omega), hfin]
          · rw [if_pos (sgnQ_zero.1 (Decidable.not_not.1 hz)), List.append_nil] at hfin
            simp +decide (disch := first | omega | rfl | (simp +decide only [go_sem, ↓reduceIte, h7, e, hx, hh4] <;> rfl) | fail) only [go_sem, ↓reduceIte, rem64K, quo64K, remI64K, quoI64K, mulK64, mk_empty, sl_3n, app_nil_map, mk_i64, max_nat, h7, e, hx, hh4]
            rw [app_map (f := PV.term) (xs := p.take i) (ys := p.drop (i + 1)) (by simp +decide (disch := first | omega | rfl | (simp +decide only [go_sem, ↓reduceIte] <;> rfl) | fail) only [go_sem, ↓reduceIte, rem64K, quo64K, remI64K, quoI64K, mulK64, mk_empty, sl_3n, app_nil_map, mk_i64, max_nat]) (by simp <;> omega) (by omega) (by omega) (by omega)]
            simp +decide (disch := first | omega | rfl | (simp +decide only [go_sem, ↓reduceIte, looks3, List.contains_cons, List.contains_nil, List.flatMap_cons, List.flatMap_nil, List.append_nil] <;> rfl) | fail) only [go_sem, ↓reduceIte, rem64K, quo64K, remI64K, quoI64K, mulK64, mk_empty, sl_3n, app_nil_map, mk_i64, max_nat, looks3, List.contains_cons, List.contains_nil, List.flatMap_cons, List.flatMap_nil, List.append_nil]
            refine retV_eq ?_ rfl
            rw [List.take_of_length_le (by simp <;> omega), hfin]
      · have hgt : padd p [(rv n a d, m)] = p.take (i + 1) ++ (rv n a d, m) :: p.drop (i + 1) := by
          have := padd_gt (m := m) (c := rv n a d) (u := p.take (i + 1)) (v := p.drop (i + 1)) (fun t ht => by
            rw [htk] at ht
            rcases List.mem_append.1 ht with ht | ht
            · exact cmpM_gt_trans (hts t ht) (by omega)
            · simp only [List.mem_singleton] at ht; subst ht; omega) hd
          rwa [List.take_append_drop] at this
        have htl : (p.take (i + 1)).length ≤ p.length := List.length_take_le' _ _
        have hdl : (p.drop (i + 1)).length ≤ p.length := by rw [List.length_drop]; omega
        simp +decide (disch := first | omega | rfl | (simp +decide only [go_sem, ↓reduceIte, h7, hh4] <;> rfl) | fail) only [go_sem, ↓reduceIte, rem64K, quo64K, remI64K, quoI64K, mulK64, mk_empty, sl_3n, app_nil_map, mk_i64, max_nat, h7, hh4]
        refine call_eq0 hP (r3_Sign_spec hr (by omega)) rfl rfl rfl ?_
        simp +decide (disch := first | omega | rfl | (simp +decide only [go_sem, ↓reduceIte, h7, hh4] <;> rfl) | fail) only [go_sem, ↓reduceIte, rem64K, quo64K, remI64K, quoI64K, mulK64, mk_empty, sl_3n, app_nil_map, mk_i64, max_nat, h7, hh4]
        refine cond_split (fun hz => ?_) (fun hz => ?_)
        · have hz' : ¬ rv n a d = 0 := fun h => hz (sgnQ_zero.2 h)
          simp +decide (disch := first | omega | rfl | (simp +decide only [go_sem, ↓reduceIte, h7, hh4] <;> rfl) | fail) only [go_sem, ↓reduceIte, rem64K, quo64K, remI64K, quoI64K, mulK64, mk_empty, sl_3n, app_nil_map, mk_i64, max_nat, h7, hh4]
          refine call_eq0 hP (r3_Norm_spec hr (by omega)) rfl rfl rfl ?_
          simp +decide (disch := first | omega | rfl | (simp +decide only [go_sem, ↓reduceIte, h7, hh4] <;> rfl) | fail) only [go_sem, ↓reduceIte, rem64K, quo64K, remI64K, quoI64K, mulK64, mk_empty, sl_3n, app_nil_map, mk_i64, max_nat, h7, hh4]
          rw [app_push_map (f := PV.term) (y := (rv n a d, m)) (xs := p.take (i + 1)) (ty' := 49) (fz := false) (by simp +decide (disch := first | omega | rfl | (simp +decide only [go_sem, ↓reduceIte] <;> rfl) | fail) only [go_sem, ↓reduceIte, rem64K, quo64K, remI64K, quoI64K, mulK64, mk_empty, sl_3n, app_nil_map, mk_i64, max_nat]) (by simp +decide (disch := first | omega | rfl | (simp +decide only [go_sem, ↓reduceIte] <;> rfl) | fail) only [go_sem, ↓reduceIte, rem64K, quo64K, remI64K, quoI64K, mulK64, mk_empty, sl_3n, app_nil_map, mk_i64, max_nat] <;> rfl) (by omega) rfl (by omega) (by omega)]
          simp +decide (disch := first | omega | rfl | (simp +decide only [go_sem, ↓reduceIte, h7, hh4] <;> rfl) | fail) only [go_sem, ↓reduceIte, rem64K, quo64K, remI64K, quoI64K, mulK64, mk_empty, sl_3n, app_nil_map, mk_i64, max_nat, h7, hh4]
          rw [app_map (f := PV.term) (xs := p.take (i + 1) ++ [(rv n a d, m)]) (ys := p.drop (i + 1)) (by simp +decide (disch := first | omega | rfl | (simp +decide only [go_sem, ↓reduceIte] <;> rfl) | fail) only [go_sem, ↓reduceIte, rem64K, quo64K, remI64K, quoI64K, mulK64, mk_empty, sl_3n, app_nil_map, mk_i64, max_nat]) (by simp <;> omega) (by omega) (by omega) (by omega)]
          simp +decide (disch := first | omega | rfl | (simp +decide only [go_sem, ↓reduceIte, looks3, List.contains_cons, List.contains_nil, List.flatMap_cons, List.flatMap_nil, List.append_nil] <;> rfl) | fail) only [go_sem, ↓reduceIte, rem64K, quo64K, remI64K, quoI64K, mulK64, mk_empty, sl_3n, app_nil_map, mk_i64, max_nat, looks3, List.contains_cons, List.contains_nil, List.flatMap_cons, List.flatMap_nil, List.append_nil]
          refine retV_eq ?_ rfl
          rw [List.take_of_length_le (by simp <;> omega), paddT, if_neg hz', hgt]
          simp
        · have hz' : rv n a d = 0 := sgnQ_zero.1 (Decidable.not_not.1 hz)
          simp +decide (disch := first | omega | rfl | (simp +decide only [go_sem, ↓reduceIte, h7, hh4] <;> rfl) | fail) only [go_sem, ↓reduceIte, rem64K, quo64K, remI64K, quoI64K, mulK64, mk_empty, sl_3n, app_nil_map, mk_i64, max_nat, h7, hh4]
          rw [app_map (f := PV.term) (xs := p.take (i + 1)) (ys := p.drop (i + 1)) (by simp +decide (disch := first | omega | rfl | (simp +decide only [go_sem, ↓reduceIte] <;> rfl) | fail) only [go_sem, ↓reduceIte, rem64K, quo64K, remI64K, quoI64K, mulK64, mk_empty, sl_3n, app_nil_map, mk_i64, max_nat]) (by simp <;> omega) (by omega) (by omega) (by omega)]
          simp +decide (disch := first | omega | rfl | (simp +decide only [go_sem, ↓reduceIte, looks3, List.contains_cons, List.contains_nil, List.flatMap_cons, List.flatMap_nil, List.append_nil] <;> rfl) | fail) only [go_sem, ↓reduceIte, rem64K, quo64K, remI64K, quoI64K, mulK64, mk_empty, sl_3n, app_nil_map, mk_i64, max_nat, looks3, List.contains_cons, List.contains_nil, List.flatMap_cons, List.flatMap_nil, List.append_nil]
          refine retV_eq ?_ rfl
          rw [List.take_of_length_le (by simp <;> omega), paddT, if_pos hz', padd_nil, List.take_append_drop]
  · obtain rfl : j = 0 := by omega
    have hgt : padd p [(rv n a d, m)] = [] ++ (rv n a d, m) :: p := padd_gt (m := m) (c := rv n a d) (u := []) (v := p) (by simp) (by simpa using hd)
    simp +decide (disch := first | omega | rfl | (simp +decide only [go_sem, ↓reduceIte, h7] <;> rfl) | fail) only [go_sem, ↓reduceIte, rem64K, quo64K, remI64K, quoI64K, mulK64, mk_empty, sl_3n, app_nil_map, mk_i64, max_nat, h7]
    rw [app_nil_nil (by omega)]
    simp +decide (disch := first | omega | rfl | (simp +decide only [go_sem, ↓reduceIte, h7, hh4] <;> rfl) | fail) only [go_sem, ↓reduceIte, rem64K, quo64K, remI64K, quoI64K, mulK64, mk_empty, sl_3n, app_nil_map, mk_i64, max_nat, h7, hh4]
    refine call_eq0 hP (r3_Sign_spec hr (by omega)) rfl rfl rfl ?_
    simp +decide (disch := first | omega | rfl | (simp +decide only [go_sem, ↓reduceIte, h7, hh4] <;> rfl) | fail) only [go_sem, ↓reduceIte, rem64K, quo64K, remI64K, quoI64K, mulK64, mk_empty, sl_3n, app_nil_map, mk_i64, max_nat, h7, hh4]
    refine cond_split (fun hz => ?_) (fun hz => ?_)
    · have hz' : ¬ rv n a d = 0 := fun h => hz (sgnQ_zero.2 h)
      simp +decide (disch := first | omega | rfl | (simp +decide only [go_sem, ↓reduceIte, h7, hh4] <;> rfl) | fail) only [go_sem, ↓reduceIte, rem64K, quo64K, remI64K, quoI64K, mulK64, mk_empty, sl_3n, app_nil_map, mk_i64, max_nat, h7, hh4]
      refine call_eq0 hP (r3_Norm_spec hr (by omega)) rfl rfl rfl ?_
      simp +decide (disch := first | omega | rfl | (simp +decide only [go_sem, ↓reduceIte, h7, hh4] <;> rfl) | fail) only [go_sem, ↓reduceIte, rem64K, quo64K, remI64K, quoI64K, mulK64, mk_empty, sl_3n, app_nil_map, mk_i64, max_nat, h7, hh4]
      rw [app_push_map (f := PV.term) (y := (rv n a d, m)) (xs := ([] : List Tm)) (ty' := 49) (fz := false) (by simp +decide (disch := first | omega | rfl | (simp +decide only [go_sem, ↓reduceIte] <;> rfl) | fail) only [go_sem, ↓reduceIte, rem64K, quo64K, remI64K, quoI64K, mulK64, mk_empty, sl_3n, app_nil_map, mk_i64, max_nat]) (by simp +decide (disch := first | omega | rfl | (simp +decide only [go_sem, ↓reduceIte] <;> rfl) | fail) only [go_sem, ↓reduceIte, rem64K, quo64K, remI64K, quoI64K, mulK64, mk_empty, sl_3n, app_nil_map, mk_i64, max_nat] <;> rfl) (by omega) (n := 0) rfl (by omega) (by omega)]
      simp +decide (disch := first | omega | rfl | (simp +decide only [go_sem, ↓reduceIte, h7, hh4] <;> rfl) | fail) only [go_sem, ↓reduceIte, rem64K, quo64K, remI64K, quoI64K, mulK64, mk_empty, sl_3n, app_nil_map, mk_i64, max_nat, h7, hh4]
      rw [app_map (f := PV.term) (xs := ([] : List Tm) ++ [(rv n a d, m)]) (ys := p) (by simp +decide (disch := first | omega | rfl | (simp +decide only [go_sem, ↓reduceIte] <;> rfl) | fail) only [go_sem, ↓reduceIte, rem64K, quo64K, remI64K, quoI64K, mulK64, mk_empty, sl_3n, app_nil_map, mk_i64, max_nat]) (by simp <;> omega) (by omega) (by omega) (by omega)]
      simp +decide (disch := first | omega | rfl | (simp +decide only [go_sem, ↓reduceIte, looks3, List.contains_cons, List.contains_nil, List.flatMap_cons, List.flatMap_nil, List.append_nil] <;> rfl) | fail) only [go_sem, ↓reduceIte, rem64K, quo64K, remI64K, quoI64K, mulK64, mk_empty, sl_3n, app_nil_map, mk_i64, max_nat, looks3, List.contains_cons, List.contains_nil, List.flatMap_cons, List.flatMap_nil, List.append_nil]
      refine retV_eq ?_ rfl
      rw [List.take_of_length_le (by simp <;> omega), paddT, if_neg hz', hgt]
      simp
    · have hz' : rv n a d = 0 := sgnQ_zero.1 (Decidable.not_not.1 hz)
      simp +decide (disch := first | omega | rfl | (simp +decide only [go_sem, ↓reduceIte, h7, hh4] <;> rfl) | fail) only [go_sem, ↓reduceIte, rem64K, quo64K, remI64K, quoI64K, mulK64, mk_empty, sl_3n, app_nil_map, mk_i64, max_nat, h7, hh4]
      rw [app_map (f := PV.term) (xs := ([] : List Tm)) (ys := p) (by simp +decide (disch := first | omega | rfl | (simp +decide only [go_sem, ↓reduceIte] <;> rfl) | fail) only [go_sem, ↓reduceIte, rem64K, quo64K, remI64K, quoI64K, mulK64, mk_empty, sl_3n, app_nil_map, mk_i64, max_nat]) (by simp <;> omega) (by omega) (by omega) (by omega)]
      simp +decide (disch := first | omega | rfl | (simp +decide only [go_sem, ↓reduceIte, looks3, List.contains_cons, List.contains_nil, List.flatMap_cons, List.flatMap_nil, List.append_nil] <;> rfl) | fail) only [go_sem, ↓reduceIte, rem64K, quo64K, remI64K, quoI64K, mulK64, mk_empty, sl_3n, app_nil_map, mk_i64, max_nat, looks3, List.contains_cons, List.contains_nil, List.flatMap_cons, List.flatMap_nil, List.append_nil]
      refine retV_eq ?_ rfl
      rw [List.take_of_length_le (by simp <;> omega), paddT, if_pos hz', padd_nil]
end Go.Proofs.YtfhmockdgbkpnaaGreat
namespace Go.Proofs.YtfhmockdgbkpnaaGreat
open Go Go.FW
set_option linter.unusedSimpArgs false
set_option linter.unusedVariables false
set_option maxRecDepth 100000
end Go.Proofs.YtfhmockdgbkpnaaGreat
namespace Go.Proofs.YtfhmockdgbkpnaaGreat
open Go Go.FW
set_option linter.unusedSimpArgs false
set_option linter.unusedVariables false
set_option maxRecDepth 100000
theorem r6_Large_spec {p : List Tm} {E : Nat} (hp : ∀ t ∈ p, MB E t.2) (hlp : p.length ≤ 2 ^ 36) : FnSpec Tryz.prog 61 [PV.poly p] (· = .bool (plarge p)) := by
  have bad : (∃ t ∈ p, ∃ x ∈ t.2, 1048576 < x) → plarge p = true := fun ⟨t, ht, x, hx, h⟩ => by
    unfold plarge
    have : (p.any fun t => t.2.any fun x => decide (1048576 < x)) = true := by
      rw [List.any_eq_true]; exact ⟨t, ht, by rw [List.any_eq_true]; exact ⟨x, hx, decide_eq_true h⟩⟩
    rw [this, Bool.or_true]
  refine fn_of_vc mixed Tryz.func61 rfl c61_ok (by simp [c61]) fun C hP => ?_; simp only [c61]
  simp +decide (disch := first | omega | rfl | (simp +decide only [go_sem, ↓reduceIte] <;> rfl) | fail) only [go_sem, ↓reduceIte, rem64K, quo64K, remI64K, quoI64K, mulK64, mk_empty, sl_3n, app_nil_map, mk_i64, max_nat]
  refine vc_loopF (by repeat (first | exact okSk_ret | exact okSk_retM | exact okSk_retO | apply okSk_back | apply okSk_out | apply okSk_eb | apply okSk_c | apply okSk_o | apply okSk_again | apply okSk_backW)) [(2, 29)] [] (fun n J hp => ∃ i, n = p.length - i ∧ i ≤ p.length ∧ (∀ t ∈ p.take i, ∀ x ∈ t.2, ¬ 1048576 < x) ∧ J 3 = .int .i64 (i : Nat)) p.length ?_ ?_
  · refine ⟨0, rfl, by omega, by simp, ?_⟩
    simp +decide (disch := first | omega | rfl | (simp +decide only [go_sem, ↓reduceIte] <;> rfl) | fail) only [go_sem, ↓reduceIte, rem64K, quo64K, remI64K, quoI64K, mulK64, mk_empty, sl_3n, app_nil_map, mk_i64, max_nat]
    rfl
  rintro _ J h ⟨i, rfl, hi, h1, h3⟩
  simp +decide (disch := first | omega | rfl | (simp +decide only [go_sem, ↓reduceIte, h3] <;> rfl) | fail) only [go_sem, ↓reduceIte, rem64K, quo64K, remI64K, quoI64K, mulK64, mk_empty, sl_3n, app_nil_map, mk_i64, max_nat, h3]
  refine cond_split (fun hg => ?_) (fun hg => ?_)
  · have hi' : i < p.length := by omega
    have htp := hp _ (List.getElem_mem hi')
    have hmem := List.getElem_mem hi'
    have htk : p.take (i + 1) = p.take i ++ [p[i]] := List.take_succ_eq_append_getElem hi'
    generalize hx : p[i] = x at *
    have hml := htp.len
    simp +decide (disch := first | omega | rfl | (simp +decide only [go_sem, ↓reduceIte, h3, hx] <;> rfl) | fail) only [go_sem, ↓reduceIte, rem64K, quo64K, remI64K, quoI64K, mulK64, mk_empty, sl_3n, app_nil_map, mk_i64, max_nat, h3, hx]
    refine vc_loopF (by repeat (first | exact okSk_ret | exact okSk_retM | exact okSk_retO | apply okSk_back | apply okSk_out | apply okSk_eb | apply okSk_c | apply okSk_o | apply okSk_again | apply okSk_backW)) [(2, 2), (4, 4), (11, 29)] [] (fun n J hp => ∃ j, n = x.2.length - j ∧ j ≤ x.2.length ∧ (∀ y ∈ x.2.take j, ¬ 1048576 < y) ∧ J 4 = .int .i64 (j : Nat)) x.2.length ?_ ?_
    · refine ⟨0, rfl, by omega, by simp, ?_⟩
      simp +decide (disch := first | omega | rfl | (simp +decide only [go_sem, ↓reduceIte] <;> rfl) | fail) only [go_sem, ↓reduceIte, rem64K, quo64K, remI64K, quoI64K, mulK64, mk_empty, sl_3n, app_nil_map, mk_i64, max_nat]
      rfl
    rintro _ J2 h2 ⟨j, rfl, hj, h4, h5⟩
    simp +decide (disch := first | omega | rfl | (simp +decide only [go_sem, ↓reduceIte, h3, h5, hx] <;> rfl) | fail) only [go_sem, ↓reduceIte, rem64K, quo64K, remI64K, quoI64K, mulK64, mk_empty, sl_3n, app_nil_map, mk_i64, max_nat, h3, h5, hx]
    refine cond_split (fun hg2 => ?_) (fun hg2 => ?_)
    · have hj' : j < x.2.length := by omega
      have hm2 := List.getElem_mem hj'
      have htk2 : x.2.take (j + 1) = x.2.take j ++ [x.2[j]] := List.take_succ_eq_append_getElem hj'
      generalize hy : x.2[j] = y at *
      simp +decide (disch := first | omega | rfl | (simp +decide only [go_sem, ↓reduceIte, h3, h5, hx, hy] <;> rfl) | fail) only [go_sem, ↓reduceIte, rem64K, quo64K, remI64K, quoI64K, mulK64, mk_empty, sl_3n, app_nil_map, mk_i64, max_nat, h3, h5, hx, hy]
      refine cond_split (fun hc => ?_) (fun hc => ?_)
      · simp +decide (disch := first | omega | rfl | (simp +decide only [go_sem, ↓reduceIte] <;> rfl) | fail) only [go_sem, ↓reduceIte, rem64K, quo64K, remI64K, quoI64K, mulK64, mk_empty, sl_3n, app_nil_map, mk_i64, max_nat]
        exact retV_eq (congrArg PV.bool (bad ⟨x, hmem, y, hm2, hc⟩).symm) rfl
      · simp +decide (disch := first | omega | rfl | (simp +decide only [go_sem, ↓reduceIte, h5] <;> rfl) | fail) only [go_sem, ↓reduceIte, rem64K, quo64K, remI64K, quoI64K, mulK64, mk_empty, sl_3n, app_nil_map, mk_i64, max_nat, h5]
        refine back_ovr (x.2.length - (j + 1)) (by omega) ⟨j + 1, rfl, by omega, ?_, ?_⟩
        · rw [htk2]
          intro z hz
          rcases List.mem_append.1 hz with hz | hz
          · exact h4 z hz
          · simp only [List.mem_singleton] at hz; subst hz; exact hc
        · simp +decide (disch := first | omega | rfl | (simp +decide only [go_sem, ↓reduceIte] <;> rfl) | fail) only [go_sem, ↓reduceIte, rem64K, quo64K, remI64K, quoI64K, mulK64, mk_empty, sl_3n, app_nil_map, mk_i64, max_nat]
    · rw [List.take_of_length_le (by omega)] at h4
      simp +decide (disch := first | omega | rfl | (simp +decide only [go_sem, ↓reduceIte, h3, h5] <;> rfl) | fail) only [go_sem, ↓reduceIte, rem64K, quo64K, remI64K, quoI64K, mulK64, mk_empty, sl_3n, app_nil_map, mk_i64, max_nat, h3, h5]
      simp (disch := decide) only [killFs_nil, ovr_sub]
      refine back_ovr (p.length - (i + 1)) (by omega) ⟨i + 1, rfl, by omega, ?_, ?_⟩
      · rw [htk]
        intro z hz
        rcases List.mem_append.1 hz with hz | hz
        · exact h1 z hz
        · simp only [List.mem_singleton] at hz; subst hz; exact h4
      · simp +decide (disch := first | omega | rfl | (simp +decide only [go_sem, ↓reduceIte] <;> rfl) | fail) only [go_sem, ↓reduceIte, rem64K, quo64K, remI64K, quoI64K, mulK64, mk_empty, sl_3n, app_nil_map, mk_i64, max_nat]
  · obtain rfl : i = p.length := by omega
    rw [List.take_length] at h1
    simp +decide (disch := first | omega | rfl | (simp +decide only [go_sem, ↓reduceIte] <;> rfl) | fail) only [go_sem, ↓reduceIte, rem64K, quo64K, remI64K, quoI64K, mulK64, mk_empty, sl_3n, app_nil_map, mk_i64, max_nat]
    refine retV_eq (congrArg PV.bool ?_) rfl
    have : (p.any fun t => t.2.any fun x => decide (1048576 < x)) = false := by
      rw [List.any_eq_false]; intro t ht; rw [Bool.not_eq_true, List.any_eq_false]; intro x hx; simpa using h1 t ht x hx
    rw [plarge, this, Bool.or_false]
    exact decide_eq_decide.2 ⟨fun h => by omega, fun h => by omega⟩
end Go.Proofs.YtfhmockdgbkpnaaGreat
namespace Go.Proofs.YtfhmockdgbkpnaaGreat
open Go Go.FW
set_option linter.unusedSimpArgs false
set_option linter.unusedVariables false
set_option maxRecDepth 100000
theorem r6_without_spec {a : List Int} {v E : Nat} (ha : MB E a) (hE : E ≤ 1048576) : FnSpec Tryz.prog 100 [PV.mono a, .int .i64 v] (· = PV.mono (dropM a v)) := by
  have hml := ha.len
  have hok := dropM_ok ha hE v
  have hsl : (a.set v 0).length = a.length := by simp
  refine fn_of_vc mixed Tryz.func100 rfl c100_ok (by simp [c100]) fun C hP => ?_; simp only [c100]
  simp +decide (disch := first | omega | rfl | (simp +decide only [go_sem, ↓reduceIte] <;> rfl) | fail) only [go_sem, ↓reduceIte, rem64K, quo64K, remI64K, quoI64K, mulK64, mk_empty, sl_3n, app_nil_map, mk_i64, max_nat]
  refine vc_nilF 5 900 1 3 (by omega) (by simp +decide (disch := first | omega | rfl | (simp +decide only [go_sem, ↓reduceIte] <;> rfl) | fail) only [go_sem, ↓reduceIte, rem64K, quo64K, remI64K, quoI64K, mulK64, mk_empty, sl_3n, app_nil_map, mk_i64, max_nat]) ?_
  refine vc_loopF (by repeat (first | exact okSk_ret | exact okSk_retM | exact okSk_retO | apply okSk_back | apply okSk_out | apply okSk_eb | apply okSk_c | apply okSk_o | apply okSk_again | apply okSk_backW)) [(5, 24)] [23, 24, 900] (fun n J hp => ∃ i out, n = a.length - i ∧ i ≤ a.length ∧ out = (a.set v 0).take i ∧ J 5 = .ms 900 out.length ∧ J 6 = .int .i64 (i : Nat) ∧ hp 900 = some ⟨1, 3, i64s out, false⟩) a.length ?_ ?_
  · refine ⟨0, [], rfl, by omega, rfl, ?_⟩
    simp +decide (disch := first | omega | rfl | (simp +decide only [go_sem, ↓reduceIte] <;> rfl) | fail) only [go_sem, ↓reduceIte, rem64K, quo64K, remI64K, quoI64K, mulK64, mk_empty, sl_3n, app_nil_map, mk_i64, max_nat]
    rfl
  rintro _ J h ⟨i, out, rfl, hi, hout, h5, h6, hh⟩
  have hol : out.length = i := by rw [hout, List.length_take]; omega
  simp +decide (disch := first | omega | rfl | (simp +decide only [go_sem, ↓reduceIte, h5, h6] <;> rfl) | fail) only [go_sem, ↓reduceIte, rem64K, quo64K, remI64K, quoI64K, mulK64, mk_empty, sl_3n, app_nil_map, mk_i64, max_nat, h5, h6]
  refine cond_split (fun hg => ?_) (fun hg => ?_)
  · have hi' : i < a.length := by omega
    have htk : (a.set v 0).take (i + 1) = (a.set v 0).take i ++ [if v = i then 0 else a[i]] := by
      rw [List.take_succ_eq_append_getElem (by omega), List.getElem_set]
    generalize hx : a[i] = x at *
    simp +decide (disch := first | omega | rfl | (simp +decide only [go_sem, ↓reduceIte, h5, h6, hx] <;> rfl) | fail) only [go_sem, ↓reduceIte, rem64K, quo64K, remI64K, quoI64K, mulK64, mk_empty, sl_3n, app_nil_map, mk_i64, max_nat, h5, h6, hx]
    refine cond_split (fun hc => ?_) (fun hc => ?_)
    · rw [if_pos (show v = i by omega)] at htk
      simp +decide (disch := first | omega | rfl | (simp +decide only [go_sem, ↓reduceIte, h5, h6, hx] <;> rfl) | fail) only [go_sem, ↓reduceIte, rem64K, quo64K, remI64K, quoI64K, mulK64, mk_empty, sl_3n, app_nil_map, mk_i64, max_nat, h5, h6, hx]
      rw [app_push_map (f := fun (x : Int) => .int .i64 x) (y := (0 : Int)) (xs := out) (ty' := 3) (fz := false) (by simp +decide (disch := first | omega | rfl | (simp +decide only [go_sem, ↓reduceIte, hh] <;> rfl) | fail) only [go_sem, ↓reduceIte, rem64K, quo64K, remI64K, quoI64K, mulK64, mk_empty, sl_3n, app_nil_map, mk_i64, max_nat, hh]) (by simp +decide (disch := first | omega | rfl | (simp +decide only [go_sem, ↓reduceIte] <;> rfl) | fail) only [go_sem, ↓reduceIte, rem64K, quo64K, remI64K, quoI64K, mulK64, mk_empty, sl_3n, app_nil_map, mk_i64, max_nat] <;> rfl) (by omega) rfl (by omega) (by omega)]
      simp +decide (disch := first | omega | rfl | (simp +decide only [go_sem, ↓reduceIte, h5, h6, hx] <;> rfl) | fail) only [go_sem, ↓reduceIte, rem64K, quo64K, remI64K, quoI64K, mulK64, mk_empty, sl_3n, app_nil_map, mk_i64, max_nat, h5, h6, hx]
      refine back_ovr (a.length - (i + 1)) (by omega) ⟨i + 1, out ++ [(0 : Int)], rfl, by omega, by rw [htk, hout], ?_⟩
      simp +decide (disch := first | omega | rfl | (simp +decide only [go_sem, ↓reduceIte, List.length_append] <;> rfl) | fail) only [go_sem, ↓reduceIte, rem64K, quo64K, remI64K, quoI64K, mulK64, mk_empty, sl_3n, app_nil_map, mk_i64, max_nat, List.length_append]
    · rw [if_neg (show ¬ v = i by omega)] at htk
      simp +decide (disch := first | omega | rfl | (simp +decide only [go_sem, ↓reduceIte, h5, h6, hx] <;> rfl) | fail) only [go_sem, ↓reduceIte, rem64K, quo64K, remI64K, quoI64K, mulK64, mk_empty, sl_3n, app_nil_map, mk_i64, max_nat, h5, h6, hx]
      rw [app_push_map (f := fun (x : Int) => .int .i64 x) (y := x) (xs := out) (ty' := 3) (fz := false) (by simp +decide (disch := first | omega | rfl | (simp +decide only [go_sem, ↓reduceIte, hh] <;> rfl) | fail) only [go_sem, ↓reduceIte, rem64K, quo64K, remI64K, quoI64K, mulK64, mk_empty, sl_3n, app_nil_map, mk_i64, max_nat, hh]) (by simp +decide (disch := first | omega | rfl | (simp +decide only [go_sem, ↓reduceIte] <;> rfl) | fail) only [go_sem, ↓reduceIte, rem64K, quo64K, remI64K, quoI64K, mulK64, mk_empty, sl_3n, app_nil_map, mk_i64, max_nat] <;> rfl) (by omega) rfl (by omega) (by omega)]
      simp +decide (disch := first | omega | rfl | (simp +decide only [go_sem, ↓reduceIte, h5, h6, hx] <;> rfl) | fail) only [go_sem, ↓reduceIte, rem64K, quo64K, remI64K, quoI64K, mulK64, mk_empty, sl_3n, app_nil_map, mk_i64, max_nat, h5, h6, hx]
      refine back_ovr (a.length - (i + 1)) (by omega) ⟨i + 1, out ++ [x], rfl, by omega, by rw [htk, hout], ?_⟩
      simp +decide (disch := first | omega | rfl | (simp +decide only [go_sem, ↓reduceIte, List.length_append] <;> rfl) | fail) only [go_sem, ↓reduceIte, rem64K, quo64K, remI64K, quoI64K, mulK64, mk_empty, sl_3n, app_nil_map, mk_i64, max_nat, List.length_append]
  · obtain rfl : i = a.length := by omega
    rw [List.take_of_length_le (by omega)] at hout
    subst hout
    simp +decide (disch := first | omega | rfl | (simp +decide only [go_sem, ↓reduceIte, h5, hh] <;> rfl) | fail) only [go_sem, ↓reduceIte, rem64K, quo64K, remI64K, quoI64K, mulK64, mk_empty, sl_3n, app_nil_map, mk_i64, max_nat, h5, hh]
    refine call_eq hP (r5_Norm_spec (a := a.set v 0) (by omega)) (by simp +decide (disch := first | omega | rfl | (simp +decide only [go_sem, ↓reduceIte, hh, looks3, List.contains_cons, List.contains_nil, List.flatMap_cons, List.flatMap_nil, List.append_nil] <;> rfl) | fail) only [go_sem, ↓reduceIte, rem64K, quo64K, remI64K, quoI64K, mulK64, mk_empty, sl_3n, app_nil_map, mk_i64, max_nat, hh, looks3, List.contains_cons, List.contains_nil, List.flatMap_cons, List.flatMap_nil, List.append_nil]; simp [List.take_of_length_le]) rfl ?_
    rw [show trimI (a.set v 0) = dropM a v from rfl, if_pos hok]
    simp +decide (disch := first | omega | rfl | (simp +decide only [go_sem, ↓reduceIte] <;> rfl) | fail) only [go_sem, ↓reduceIte, rem64K, quo64K, remI64K, quoI64K, mulK64, mk_empty, sl_3n, app_nil_map, mk_i64, max_nat]
    exact retV_eq rfl rfl
theorem r6_add_q {p : List Tm} {c : Rat} {m : List Int} {K E k : Nat} (hp : PB K E p) (hs : PSorted p) (hnz : NZ p) (hc : rs c ≤ k) (hk : k ≤ 2 ^ 32) (hm : MB E m) (hl : m.getLast? ≠ some 0) (hK : K ≤ 2 ^ 32) (hE : E ≤ 2 ^ 38) (hlp : p.length ≤ 2 ^ 36) :
    FnSpec Tryz.prog 98 [PV.poly p, PV.rat c, PV.mono m] (· = PV.poly (paddT p c m)) := by
  have := r6_add_spec hp hs hnz (raw_of hc) hk hm hl hK hE hlp
  rwa [rv_of] at this
theorem r6_Subst_bad {p q : List Tm} {v : Int} (h : v < 0 ∨ 64 ≤ v) : FnSpec Tryz.prog 48 [PV.poly p, .int .i64 v, PV.poly q] (· = .tup [PV.poly [], .int .i64 2]) := by
  refine fn_of_vc mixed Tryz.func48 rfl c48_ok (by simp [c48]) fun C hP => ?_; simp only [c48]
  simp +decide (disch := first | omega | rfl | (simp +decide only [go_sem, ↓reduceIte] <;> rfl) | fail) only [go_sem, ↓reduceIte, rem64K, quo64K, remI64K, quoI64K, mulK64, mk_empty, sl_3n, app_nil_map, mk_i64, max_nat]
  refine guard_splitF (fun h1 => ?_) (fun h1 => ?_)
  · simp +decide (disch := first | omega | rfl | (simp +decide only [go_sem, ↓reduceIte] <;> rfl) | fail) only [go_sem, ↓reduceIte, rem64K, quo64K, remI64K, quoI64K, mulK64, mk_empty, sl_3n, app_nil_map, mk_i64, max_nat]
    exact ret2 rfl rfl rfl trivial (le_refl _)
  simp +decide (disch := first | omega | rfl | (simp +decide only [go_sem, ↓reduceIte] <;> rfl) | fail) only [go_sem, ↓reduceIte, rem64K, quo64K, remI64K, quoI64K, mulK64, mk_empty, sl_3n, app_nil_map, mk_i64, max_nat]
  refine cond_split (fun h2 => ?_) (fun h2 => by omega)
  simp +decide (disch := first | omega | rfl | (simp +decide only [go_sem, ↓reduceIte] <;> rfl) | fail) only [go_sem, ↓reduceIte, rem64K, quo64K, remI64K, quoI64K, mulK64, mk_empty, sl_3n, app_nil_map, mk_i64, max_nat]
  exact ret2 rfl rfl rfl trivial (le_refl _)
def horR (p : List Tm) (v : Nat) (q : List Tm) (top : Nat) : Nat → List Tm
  | 0 => []
  | k + 1 => hor p v q top k
theorem horR_step {p q : List Tm} {v top k : Nat} (hp : Nrm p) (hq : Nrm q) : Nrm (horR p v q top k) ∧ addAll (pmul (horR p v q top k) q) (coefN p v ((top : Int) - k)) = hor p v q top k := by
  have hn : Nrm (horR p v q top k) := by
    cases k with
    | zero => exact Nrm.nil
    | succ k => exact hor_nrm hp hq v top k
  refine ⟨hn, ?_⟩
  rw [addAll_eq (pmul_nrm hn.s hq.s) (coefN_nrm hp v _)]
  cases k with
  | zero =>
    have e : pmul [] q = [] := pev_inj (pmul_nrm trivial hq.s) Nrm.nil fun φ => by rw [pmul_pev, pev_nil, pev_nil]
    show padd (pmul [] q) (coefN p v ((top : Int) - (0 : Nat))) = coefN p v top
    rw [e, nil_padd]; congr 1
  | succ k => rw [hor]; rfl
theorem r6_Subst_spec {p q : List Tm} {v top K E L : Nat} (hp : PB K E p) (hq : PB K E q) (hnp : Nrm p) (hnq : Nrm q) (hv : v < 64) (hl : p.length ≤ 12) (hlL : p.length ≤ L) (hlq : q.length ≤ L) (hE : E ≤ 1048576) (hL : L ≤ 2 ^ 15) (hK : L * (K + K) + (K + K) + 12 * K ≤ 2 ^ 30)
    (htop : ptop p v = top) (htl : top ≤ 4000) (hb : ∀ k, k ≤ top → PB K E (hor p v q top k) ∧ (hor p v q top k).length ≤ L) :
    FnSpec Tryz.prog 48 [PV.poly p, .int .i64 v, PV.poly q] (· = subR p v q top) := by
  refine fn_of_vc mixed Tryz.func48 rfl c48_ok (by simp [c48]) fun C hP => ?_; simp only [c48]
  simp +decide (disch := first | omega | rfl | (simp +decide only [go_sem, ↓reduceIte] <;> rfl) | fail) only [go_sem, ↓reduceIte, rem64K, quo64K, remI64K, quoI64K, mulK64, mk_empty, sl_3n, app_nil_map, mk_i64, max_nat]
  refine guard_splitF (fun h1 => by omega) (fun _ => ?_)
  simp +decide (disch := first | omega | rfl | (simp +decide only [go_sem, ↓reduceIte] <;> rfl) | fail) only [go_sem, ↓reduceIte, rem64K, quo64K, remI64K, quoI64K, mulK64, mk_empty, sl_3n, app_nil_map, mk_i64, max_nat]
  refine cond_split (fun h2 => by omega) (fun _ => ?_)
  simp +decide (disch := first | omega | rfl | (simp +decide only [go_sem, ↓reduceIte] <;> rfl) | fail) only [go_sem, ↓reduceIte, rem64K, quo64K, remI64K, quoI64K, mulK64, mk_empty, sl_3n, app_nil_map, mk_i64, max_nat]
  refine vc_loopF (by repeat (first | exact okSk_ret | exact okSk_retM | exact okSk_retO | apply okSk_back | apply okSk_out | apply okSk_eb | apply okSk_c | apply okSk_o | apply okSk_again | apply okSk_backW)) [(8, 9), (19, 33)] [] (fun n J hp => ∃ i, n = p.length - i ∧ i ≤ p.length ∧ J 8 = .int .i64 (ptop (p.take i) v) ∧ J 9 = .int .i64 (i : Nat)) p.length ?_ ?_
  · refine ⟨0, rfl, by omega, ?_⟩
    simp +decide (disch := first | omega | rfl | (simp +decide only [go_sem, ↓reduceIte] <;> rfl) | fail) only [go_sem, ↓reduceIte, rem64K, quo64K, remI64K, quoI64K, mulK64, mk_empty, sl_3n, app_nil_map, mk_i64, max_nat]
    exact ⟨rfl, rfl⟩
  rintro _ J h ⟨i, rfl, hi, h8, h9⟩
  simp +decide (disch := first | omega | rfl | (simp +decide only [go_sem, ↓reduceIte, h8, h9] <;> rfl) | fail) only [go_sem, ↓reduceIte, rem64K, quo64K, remI64K, quoI64K, mulK64, mk_empty, sl_3n, app_nil_map, mk_i64, max_nat, h8, h9]
  refine cond_split (fun hg => ?_) (fun hg => ?_)
  · have hi' : i < p.length := by omega
    have htp := hp.get hi'
    have htk := ptop_take (v := v) hi'
    generalize hx : p[i] = x at *
    have hml := htp.m.len
    simp +decide (disch := first | omega | rfl | (simp +decide only [go_sem, ↓reduceIte, h8, h9, hx] <;> rfl) | fail) only [go_sem, ↓reduceIte, rem64K, quo64K, remI64K, quoI64K, mulK64, mk_empty, sl_3n, app_nil_map, mk_i64, max_nat, h8, h9, hx]
    refine call_eq0 hP (r5_Exp_nat (by omega)) rfl rfl rfl ?_
    simp +decide (disch := first | omega | rfl | (simp +decide only [go_sem, ↓reduceIte, h8, h9, hx] <;> rfl) | fail) only [go_sem, ↓reduceIte, rem64K, quo64K, remI64K, quoI64K, mulK64, mk_empty, sl_3n, app_nil_map, mk_i64, max_nat, h8, h9, hx]
    refine back_ovr (p.length - (i + 1)) (by omega) ⟨i + 1, rfl, by omega, ?_⟩
    rw [htk]
    simp +decide (disch := first | omega | rfl | (simp +decide only [go_sem, ↓reduceIte] <;> rfl) | fail) only [go_sem, ↓reduceIte, rem64K, quo64K, remI64K, quoI64K, mulK64, mk_empty, sl_3n, app_nil_map, mk_i64, max_nat]
  obtain rfl : i = p.length := by omega
  rw [List.take_length, htop] at h8
  simp +decide (disch := first | omega | rfl | (simp +decide only [go_sem, ↓reduceIte, h8] <;> rfl) | fail) only [go_sem, ↓reduceIte, rem64K, quo64K, remI64K, quoI64K, mulK64, mk_empty, sl_3n, app_nil_map, mk_i64, max_nat, h8]
  refine cond_split (fun h => by omega) (fun _ => ?_)
  simp +decide (disch := first | omega | rfl | (simp +decide only [go_sem, ↓reduceIte, h8] <;> rfl) | fail) only [go_sem, ↓reduceIte, rem64K, quo64K, remI64K, quoI64K, mulK64, mk_empty, sl_3n, app_nil_map, mk_i64, max_nat, h8]
  refine vc_nilD 10 4 (by simp +decide (disch := first | omega | rfl | (simp +decide only [go_sem, ↓reduceIte] <;> rfl) | fail) only [go_sem, ↓reduceIte, rem64K, quo64K, remI64K, quoI64K, mulK64, mk_empty, sl_3n, app_nil_map, mk_i64, max_nat]) ?_
  refine vc_loopF (by repeat (first | exact okSk_ret | exact okSk_retM | exact okSk_retO | apply okSk_back | apply okSk_out | apply okSk_eb | apply okSk_c | apply okSk_o | apply okSk_again | apply okSk_backW)) [(6, 7), (10, 12), (37, 74)] [] (fun m J hp => ∃ k, m = top + 1 - k ∧ k ≤ top + 1 ∧ horL p v q top k = false ∧ J 10 = PV.poly (horR p v q top k) ∧ J 11 = .int .i64 ((top : Int) - k)) (top + 1) ?_ ?_
  · refine ⟨0, rfl, by omega, rfl, ?_⟩
    simp +decide (disch := first | omega | rfl | (simp +decide only [go_sem, ↓reduceIte] <;> rfl) | fail) only [go_sem, ↓reduceIte, rem64K, quo64K, remI64K, quoI64K, mulK64, mk_empty, sl_3n, app_nil_map, mk_i64, max_nat]
    exact ⟨rfl, congrArg (PV.int .i64) (by omega)⟩
  rintro _ J1 h1 ⟨k, rfl, hk, hl0, h10, h11⟩
  simp +decide (disch := first | omega | rfl | (simp +decide only [go_sem, ↓reduceIte, h10, h11] <;> rfl) | fail) only [go_sem, ↓reduceIte, rem64K, quo64K, remI64K, quoI64K, mulK64, mk_empty, sl_3n, app_nil_map, mk_i64, max_nat, h10, h11]
  refine cond_split (fun hg1 => ?_) (fun hg1 => ?_)
  · have hkt : k ≤ top := by omega
    obtain ⟨hRn, hRs⟩ := horR_step (p := p) (q := q) (v := v) (top := top) (k := k) hnp hnq
    have hRb : PB K E (horR p v q top k) ∧ (horR p v q top k).length ≤ L := by
      cases k with
      | zero => exact ⟨PB.nil _ _, by simp [horR]⟩
      | succ k => exact hb k (by omega)
    obtain ⟨b1, b2⟩ := hb k hkt
    have hm1 : q.length * (horR p v q top k).length ≤ 2 ^ 15 * 2 ^ 15 := Nat.mul_le_mul (by omega) (by omega)
    have hm2 : q.length * (K + K) ≤ L * (K + K) := Nat.mul_le_mul_right _ (by omega)
    have hm3 : min (horR p v q top k).length q.length * (K + K) ≤ L * (K + K) := Nat.mul_le_mul_right _ (by omega)
    obtain ⟨b3, b4⟩ := pmul_bound hRb.1 hq
    have hXn := pmul_nrm hRn.s hnq.s
    have hlen2 : (horR p v q top k).length * q.length ≤ 2 ^ 15 * 2 ^ 15 := Nat.mul_le_mul (by omega) (by omega)
    have hls := horL_succ p v q top k
    rw [hl0, Bool.false_or] at hls
    simp +decide (disch := first | omega | rfl | (simp +decide only [go_sem, ↓reduceIte, h10, h11] <;> rfl) | fail) only [go_sem, ↓reduceIte, rem64K, quo64K, remI64K, quoI64K, mulK64, mk_empty, sl_3n, app_nil_map, mk_i64, max_nat, h10, h11]
    refine call_eq0 hP (r6_Mul_spec hRb.1 hq hRn.z hnq.z (by omega) (by omega) (by omega) (by omega) (by omega)) rfl rfl rfl ?_
    rw [pmulR_eq hRn hnq]
    generalize pmul (horR p v q top k) q = X at *
    simp +decide (disch := first | omega | rfl | (simp +decide only [go_sem, ↓reduceIte, h10, h11] <;> rfl) | fail) only [go_sem, ↓reduceIte, rem64K, quo64K, remI64K, quoI64K, mulK64, mk_empty, sl_3n, app_nil_map, mk_i64, max_nat, h10, h11]
    refine vc_loopF (by repeat (first | exact okSk_ret | exact okSk_retM | exact okSk_retO | apply okSk_back | apply okSk_out | apply okSk_eb | apply okSk_c | apply okSk_o | apply okSk_again | apply okSk_backW)) [(10, 10), (12, 12), (44, 72)] [] (fun m J hp => ∃ i, m = p.length - i ∧ i ≤ p.length ∧ J 10 = PV.poly (addAll X (coefN (p.take i) v ((top : Int) - k))) ∧ J 12 = .int .i64 (i : Nat)) p.length ?_ ?_
    · refine ⟨0, rfl, by omega, ?_⟩
      simp +decide (disch := first | omega | rfl | (simp +decide only [go_sem, ↓reduceIte] <;> rfl) | fail) only [go_sem, ↓reduceIte, rem64K, quo64K, remI64K, quoI64K, mulK64, mk_empty, sl_3n, app_nil_map, mk_i64, max_nat]
      exact ⟨rfl, rfl⟩
    rintro _ J2 h2 ⟨j, rfl, hj, h10', h12⟩
    simp +decide (disch := first | omega | rfl | (simp +decide only [go_sem, ↓reduceIte, h10', h12, h11] <;> rfl) | fail) only [go_sem, ↓reduceIte, rem64K, quo64K, remI64K, quoI64K, mulK64, mk_empty, sl_3n, app_nil_map, mk_i64, max_nat, h10', h12, h11]
    refine cond_split (fun hg2 => ?_) (fun hg2 => ?_)
    · have hj' : j < p.length := by omega
      have htp := hp.get hj'
      have hck := coefN_take (v := v) (n := (top : Int) - k) hj'
      have hcl := coefN_length (p.take j) v ((top : Int) - k)
      rw [List.length_take] at hcl
      have hcb := coefN_PB (hp.take j) v ((top : Int) - k)
      have hcc : FW.Can (coefN (p.take j) v ((top : Int) - k)) := hcb.can
      generalize coefN (p.take j) v ((top : Int) - k) = Cj at *
      have hAn := addAll_nrm hXn hcc
      obtain ⟨hA1, hA2⟩ := addAll_bound (K := L * (K + K)) (L := K) (E := E + E) (b3.mono (by omega) (by omega)) (hcb.mono (Nat.le_refl _) (by omega))
      have hCK : Cj.length * K ≤ 12 * K := Nat.mul_le_mul_right _ (by omega)
      generalize hx : p[j] = x at *
      have hml := htp.m.len
      have hxc := htp.c
      simp +decide (disch := first | omega | rfl | (simp +decide only [go_sem, ↓reduceIte, h10', h12, h11, hx] <;> rfl) | fail) only [go_sem, ↓reduceIte, rem64K, quo64K, remI64K, quoI64K, mulK64, mk_empty, sl_3n, app_nil_map, mk_i64, max_nat, h10', h12, h11, hx]
      refine call_eq0 hP (r5_Exp_nat (by omega)) rfl rfl rfl ?_
      simp +decide (disch := first | omega | rfl | (simp +decide only [go_sem, ↓reduceIte, h10', h12, h11, hx] <;> rfl) | fail) only [go_sem, ↓reduceIte, rem64K, quo64K, remI64K, quoI64K, mulK64, mk_empty, sl_3n, app_nil_map, mk_i64, max_nat, h10', h12, h11, hx]
      refine cond_split (fun hc => ?_) (fun hc => ?_)
      · rw [if_pos hc] at hck
        simp +decide (disch := first | omega | rfl | (simp +decide only [go_sem, ↓reduceIte, h10', h12, h11, hx] <;> rfl) | fail) only [go_sem, ↓reduceIte, rem64K, quo64K, remI64K, quoI64K, mulK64, mk_empty, sl_3n, app_nil_map, mk_i64, max_nat, h10', h12, h11, hx]
        refine call_eq0 hP (r6_without_spec htp.m hE) rfl rfl rfl ?_
        simp +decide (disch := first | omega | rfl | (simp +decide only [go_sem, ↓reduceIte, h10', h12, h11, hx] <;> rfl) | fail) only [go_sem, ↓reduceIte, rem64K, quo64K, remI64K, quoI64K, mulK64, mk_empty, sl_3n, app_nil_map, mk_i64, max_nat, h10', h12, h11, hx]
        refine call_eq0 hP (r6_add_q (k := K) hA1 hAn.s hAn.z (by omega) (by omega) ((dropM_MB htp.m v).mono (by omega)) (dropM_last _ _) (by omega) (by omega) (by omega)) rfl rfl rfl ?_
        simp +decide (disch := first | omega | rfl | (simp +decide only [go_sem, ↓reduceIte, h10', h12, h11, hx] <;> rfl) | fail) only [go_sem, ↓reduceIte, rem64K, quo64K, remI64K, quoI64K, mulK64, mk_empty, sl_3n, app_nil_map, mk_i64, max_nat, h10', h12, h11, hx]
        refine back_ovr (p.length - (j + 1)) (by omega) ⟨j + 1, rfl, by omega, ?_⟩
        rw [hck, addAll_snoc]
        simp +decide (disch := first | omega | rfl | (simp +decide only [go_sem, ↓reduceIte] <;> rfl) | fail) only [go_sem, ↓reduceIte, rem64K, quo64K, remI64K, quoI64K, mulK64, mk_empty, sl_3n, app_nil_map, mk_i64, max_nat]
      · rw [if_neg hc, List.append_nil] at hck
        simp +decide (disch := first | omega | rfl | (simp +decide only [go_sem, ↓reduceIte, h10', h12, h11, hx] <;> rfl) | fail) only [go_sem, ↓reduceIte, rem64K, quo64K, remI64K, quoI64K, mulK64, mk_empty, sl_3n, app_nil_map, mk_i64, max_nat, h10', h12, h11, hx]
        refine back_ovr (p.length - (j + 1)) (by omega) ⟨j + 1, rfl, by omega, ?_⟩
        rw [hck]
        simp +decide (disch := first | omega | rfl | (simp +decide only [go_sem, ↓reduceIte, h10'] <;> rfl) | fail) only [go_sem, ↓reduceIte, rem64K, quo64K, remI64K, quoI64K, mulK64, mk_empty, sl_3n, app_nil_map, mk_i64, max_nat, h10']
    · obtain rfl : j = p.length := by omega
      rw [List.take_length, hRs] at h10'
      simp +decide (disch := first | omega | rfl | (simp +decide only [go_sem, ↓reduceIte, h10', h12, h11] <;> rfl) | fail) only [go_sem, ↓reduceIte, rem64K, quo64K, remI64K, quoI64K, mulK64, mk_empty, sl_3n, app_nil_map, mk_i64, max_nat, h10', h12, h11]
      refine call_eq0 hP (r6_Large_spec (fun t ht => (b1 t ht).m) (by omega)) rfl rfl rfl ?_
      simp +decide (disch := first | omega | rfl | (simp +decide only [go_sem, ↓reduceIte, h10', h12, h11] <;> rfl) | fail) only [go_sem, ↓reduceIte, rem64K, quo64K, remI64K, quoI64K, mulK64, mk_empty, sl_3n, app_nil_map, mk_i64, max_nat, h10', h12, h11]
      cases hlg : plarge (hor p v q top k)
      · simp +decide (disch := first | omega | rfl | (simp +decide only [go_sem, ↓reduceIte, h10', h12, h11] <;> rfl) | fail) only [go_sem, ↓reduceIte, rem64K, quo64K, remI64K, quoI64K, mulK64, mk_empty, sl_3n, app_nil_map, mk_i64, max_nat, h10', h12, h11]
        simp (disch := decide) only [killFs_nil, ovr_sub, ovr_killsub]
        refine back_ovr (top + 1 - (k + 1)) (by omega) ⟨k + 1, rfl, by omega, by rw [hls, hlg], ?_⟩
        simp +decide (disch := first | omega | rfl | (simp +decide only [go_sem, ↓reduceIte, h10'] <;> rfl) | fail) only [go_sem, ↓reduceIte, rem64K, quo64K, remI64K, quoI64K, mulK64, mk_empty, sl_3n, app_nil_map, mk_i64, max_nat, h10']
        exact ⟨rfl, congrArg (PV.int .i64) (by omega)⟩
      · have ho : horL p v q top (top + 1) = true := horL_of (show k < top + 1 by omega) hlg
        simp +decide (disch := first | omega | rfl | (simp +decide only [go_sem, ↓reduceIte] <;> rfl) | fail) only [go_sem, ↓reduceIte, rem64K, quo64K, remI64K, quoI64K, mulK64, mk_empty, sl_3n, app_nil_map, mk_i64, max_nat]
        exact ret2 (by rw [subR, if_pos ho]) rfl rfl poly_nil (le_refl _)
  · obtain rfl : k = top + 1 := by omega
    simp +decide (disch := first | omega | rfl | (simp +decide only [go_sem, ↓reduceIte, h10] <;> rfl) | fail) only [go_sem, ↓reduceIte, rem64K, quo64K, remI64K, quoI64K, mulK64, mk_empty, sl_3n, app_nil_map, mk_i64, max_nat, h10]
    exact ret2 (p' := PV.poly (hor p v q top top)) (q' := .int .i64 0) (by rw [subR, if_neg (by simp [hl0])]) rfl rfl (le_refl _) (le_refl _)
end Go.Proofs.YtfhmockdgbkpnaaGreat
namespace Go.Proofs.YtfhmockdgbkpnaaGreat
open Go Go.FW
set_option linter.unusedSimpArgs false
set_option linter.unusedVariables false
set_option maxRecDepth 100000
def gK : Nat → Nat
  | 0 => 5
  | k + 1 => 3 * (gK k + 5) + 5
def gL : Nat → Nat
  | 0 => 6
  | k + 1 => gL k * 3 + 6
theorem hor_small {p q : List Tm} {v top : Nat} (hp : PB 5 4 p) (hq : PB 5 4 q) (hlp : p.length ≤ 6) (hlq : q.length ≤ 3) : ∀ k, PB (gK k) (4 * (k + 1)) (hor p v q top k) ∧ (hor p v q top k).length ≤ gL k
  | 0 => ⟨coefN_PB hp v _, Nat.le_trans (coefN_length _ _ _) hlp⟩
  | k + 1 => by
    obtain ⟨h1, h2⟩ := hor_small (v := v) (top := top) hp hq hlp hlq k
    obtain ⟨h3, h4⟩ := pmul_bound h1 hq
    have hc := coefN_PB hp v ((top : Int) - (k + 1))
    have hcl := coefN_length p v ((top : Int) - (k + 1))
    have h5 : (hor p v q top k).length * q.length ≤ gL k * 3 := Nat.mul_le_mul h2 hlq
    refine ⟨padd_PB _ _ (h3.mono (Nat.mul_le_mul_right _ (by omega)) (by omega)) (hc.mono (Nat.le_refl _) (by omega)), Nat.le_trans (padd_length _ _) ?_⟩
    show _ ≤ gL k * 3 + 6
    omega
theorem g_le {k : Nat} (h : k ≤ 4) : gK k ≤ 2000 ∧ gL k ≤ 800 := by
  have : k = 0 ∨ k = 1 ∨ k = 2 ∨ k = 3 ∨ k = 4 := by omega
  rcases this with rfl | rfl | rfl | rfl | rfl <;> decide
def SubstBoth (p : List Tm) (v : Int) (q : List Tm) : Prop := ∃ (A : List Tm) (e : Int), PB 2000 20 A ∧ A.length ≤ 800 ∧
  FnSpec Tryz.prog 47 [PV.poly p, .int .i64 v, PV.poly q] (· = .tup [PV.poly A, .int .i64 e]) ∧ FnSpec Tryz.prog 48 [PV.poly p, .int .i64 v, PV.poly q] (· = .tup [PV.poly A, .int .i64 e])
theorem ptop_small {p : List Tm} {v K E : Nat} (hp : PB K E p) : ∃ top : Nat, ptop p v = top ∧ top ≤ E := by
  obtain ⟨h1, h2, h3⟩ := ptop_spec p v
  refine ⟨(ptop p v).toNat, by omega, ?_⟩
  rcases h3 with h3 | ⟨t, ht, h3⟩
  · omega
  · have := (hp t ht).m.eN v; omega
theorem subst_ok {p q : List Tm} {v : Nat} (hv : v < 64) (bp : PB 5 4 p) (bq : PB 5 4 q) (np : Nrm p) (nq : Nrm q) (lp : p.length ≤ 6) (lq : q.length ≤ 3) (h0 : 0 < p.length) : ∃ top : Nat, top ≤ 4 ∧ ptop p v = top ∧ (∀ k, k ≤ top → PB 2000 20 (hor p v q top k) ∧ (hor p v q top k).length ≤ 800) ∧
    FnSpec Tryz.prog 47 [PV.poly p, .int .i64 v, PV.poly q] (· = subR p v q top) ∧ FnSpec Tryz.prog 48 [PV.poly p, .int .i64 v, PV.poly q] (· = subR p v q top) := by
  obtain ⟨top, ht, htl⟩ := ptop_small (v := v) bp
  have hb : ∀ k, k ≤ top → PB 2000 20 (hor p v q top k) ∧ (hor p v q top k).length ≤ 800 := fun k hk => by
    obtain ⟨h1, h2⟩ := hor_small (v := v) (top := top) bp bq lp lq k
    obtain ⟨h3, h4⟩ := g_le (k := k) (by omega)
    exact ⟨h1.mono h3 (by omega), by omega⟩
  refine ⟨top, htl, ht, hb, ?_, ?_⟩
  · exact p_Subst_spec (K := 2000) (E := 20) (L := 800) (bp.mono (by omega) (by omega)) (bq.mono (by omega) (by omega)) hv h0 (by omega) (by omega) (by omega) (by omega) (by omega) (by omega) ht (by omega) hb
  · exact r6_Subst_spec (K := 2000) (E := 20) (L := 800) (bp.mono (by omega) (by omega)) (bq.mono (by omega) (by omega)) np nq hv (by omega) (by omega) (by omega) (by omega) (by omega) (by omega) ht (by omega) hb
theorem substBoth {p q : List Tm} {v : Int} (bp : PB 5 4 p) (bq : PB 5 4 q) (np : Nrm p) (nq : Nrm q) (lp : p.length ≤ 6) (lq : q.length ≤ 3) : SubstBoth p v q := by
  by_cases hv : v < 0 ∨ 64 ≤ v
  · exact ⟨[], 2, PB.nil _ _, by simp, p_Subst_bad hv, r6_Subst_bad hv⟩
  obtain ⟨v, rfl⟩ : ∃ w : Nat, v = w := ⟨v.toNat, by omega⟩
  by_cases h0 : p = []
  · subst h0
    have h2 := r6_Subst_spec (p := []) (q := q) (v := v) (top := 0) (K := 5) (E := 4) (L := 3) (PB.nil _ _) bq np nq (by omega) (by simp) (by simp) lq (by omega) (by omega) (by omega) rfl (by omega) (fun k hk => by
      obtain rfl : k = 0 := by omega
      exact ⟨PB.nil _ _, by simp [hor, coefN]⟩)
    exact ⟨[], 0, PB.nil _ _, by simp, p_Subst_nil (by omega), h2⟩
  · obtain ⟨top, _, _, hb, s1, s2⟩ := subst_ok (v := v) (by omega) bp bq np nq lp lq (List.length_pos_iff.2 h0)
    unfold subR at s1 s2
    split at s1
    · rename_i hl
      rw [if_pos hl] at s2
      exact ⟨[], 4, PB.nil _ _, by simp, s1, s2⟩
    · rename_i hl
      rw [if_neg hl] at s2
      exact ⟨_, 0, (hb top (Nat.le_refl _)).1, (hb top (Nat.le_refl _)).2, s1, s2⟩
theorem PolySubsts_walk {p q : List RTm} {v : Int} {k : Nat} (hb : ∀ t ∈ p, RB k t) (hb2 : ∀ t ∈ q, RB k t) (hk1 : 1 ≤ k) (hk : k < 2 ^ 36) (hl : p.length < 2 ^ 40) (hl2 : q.length < 2 ^ 40) :
    FnSpec Tryz.prog 9 [PV.rpoly p, .int .i64 v, PV.rpoly q] (· = .bool true) := by
  refine fn_of_vc mixed Tryz.func9 rfl c9_ok (by simp [c9]) fun C hP => ?_; simp only [c9]
  simp +decide (disch := first | omega | rfl | (simp +decide only [go_sem, ↓reduceIte] <;> rfl) | fail) only [go_sem, ↓reduceIte, rem64K, quo64K, remI64K, quoI64K, mulK64, mk_empty, sl_3n, app_nil_map, mk_i64, max_nat]
  refine call_eq0 hP (r6_Small_spec (n := 6) (v := 4) (e := (4 : Nat)) hb hk1 hk hl) rfl rfl rfl ?_
  simp +decide (disch := first | omega | rfl | (simp +decide only [go_sem, ↓reduceIte] <;> rfl) | fail) only [go_sem, ↓reduceIte, rem64K, quo64K, remI64K, quoI64K, mulK64, mk_empty, sl_3n, app_nil_map, mk_i64, max_nat]
  cases hs1 : small 6 4 (4 : Nat) p
  · simp +decide (disch := first | omega | rfl | (simp +decide only [go_sem, ↓reduceIte] <;> rfl) | fail) only [go_sem, ↓reduceIte, rem64K, quo64K, remI64K, quoI64K, mulK64, mk_empty, sl_3n, app_nil_map, mk_i64, max_nat]
    refine call_eq0 hP alive_spec rfl rfl rfl ?_
    simp +decide (disch := first | omega | rfl | (simp +decide only [go_sem, ↓reduceIte] <;> rfl) | fail) only [go_sem, ↓reduceIte, rem64K, quo64K, remI64K, quoI64K, mulK64, mk_empty, sl_3n, app_nil_map, mk_i64, max_nat]
    exact retV_eq rfl rfl
  simp +decide (disch := first | omega | rfl | (simp +decide only [go_sem, ↓reduceIte] <;> rfl) | fail) only [go_sem, ↓reduceIte, rem64K, quo64K, remI64K, quoI64K, mulK64, mk_empty, sl_3n, app_nil_map, mk_i64, max_nat]
  refine call_eq0 hP (r6_Small_spec (n := 3) (v := 4) (e := (4 : Nat)) hb2 hk1 hk hl2) rfl rfl rfl ?_
  simp +decide (disch := first | omega | rfl | (simp +decide only [go_sem, ↓reduceIte] <;> rfl) | fail) only [go_sem, ↓reduceIte, rem64K, quo64K, remI64K, quoI64K, mulK64, mk_empty, sl_3n, app_nil_map, mk_i64, max_nat]
  cases hs2 : small 3 4 (4 : Nat) q
  · simp +decide (disch := first | omega | rfl | (simp +decide only [go_sem, ↓reduceIte] <;> rfl) | fail) only [go_sem, ↓reduceIte, rem64K, quo64K, remI64K, quoI64K, mulK64, mk_empty, sl_3n, app_nil_map, mk_i64, max_nat]
    refine call_eq0 hP alive_spec rfl rfl rfl ?_
    simp +decide (disch := first | omega | rfl | (simp +decide only [go_sem, ↓reduceIte] <;> rfl) | fail) only [go_sem, ↓reduceIte, rem64K, quo64K, remI64K, quoI64K, mulK64, mk_empty, sl_3n, app_nil_map, mk_i64, max_nat]
    exact retV_eq rfl rfl
  obtain ⟨_, e1, _, v1, b1, l1⟩ := small_spec hb hs1
  obtain ⟨_, e2, _, v2, b2, l2⟩ := small_spec hb2 hs2
  rw [e1, e2]
  clear e1 e2
  generalize p.map RTm.tm = P at *
  generalize q.map RTm.tm = Q at *
  obtain ⟨A, e, hA, hAl, s1, s2⟩ := substBoth (v := v) b1 b2 v1.nrm v2.nrm l1 l2
  simp +decide (disch := first | omega | rfl | (simp +decide only [go_sem, ↓reduceIte] <;> rfl) | fail) only [go_sem, ↓reduceIte, rem64K, quo64K, remI64K, quoI64K, mulK64, mk_empty, sl_3n, app_nil_map, mk_i64, max_nat]
  refine call_eq0 hP s1 rfl rfl rfl ?_
  simp +decide (disch := first | omega | rfl | (simp +decide only [go_sem, ↓reduceIte] <;> rfl) | fail) only [go_sem, ↓reduceIte, rem64K, quo64K, remI64K, quoI64K, mulK64, mk_empty, sl_3n, app_nil_map, mk_i64, max_nat]
  refine call_eq0 hP s2 rfl rfl rfl ?_
  simp +decide (disch := first | omega | rfl | (simp +decide only [go_sem, ↓reduceIte] <;> rfl) | fail) only [go_sem, ↓reduceIte, rem64K, quo64K, remI64K, quoI64K, mulK64, mk_empty, sl_3n, app_nil_map, mk_i64, max_nat]
  refine call_eq0 hP (r6_Equal_spec hA hA (by omega) (by omega) (by omega) (by omega)) rfl rfl rfl ?_
  rw [decide_eq_true (p := A = A) rfl]
  simp +decide (disch := first | omega | rfl | (simp +decide only [go_sem, ↓reduceIte, decide_true] <;> rfl) | fail) only [go_sem, ↓reduceIte, rem64K, quo64K, remI64K, quoI64K, mulK64, mk_empty, sl_3n, app_nil_map, mk_i64, max_nat, decide_true]
  refine call_eq0 hP alive_spec rfl rfl rfl ?_
  simp +decide (disch := first | omega | rfl | (simp +decide only [go_sem, ↓reduceIte] <;> rfl) | fail) only [go_sem, ↓reduceIte, rem64K, quo64K, remI64K, quoI64K, mulK64, mk_empty, sl_3n, app_nil_map, mk_i64, max_nat]
  exact retV_eq rfl rfl
theorem PolySubsts_all {p q : List RTm} {v : Int} (hp : RPoly p) (hv : -9223372036854775808 ≤ v ∧ v ≤ 9223372036854775807) (hq : RPoly q) : FnSpec Tryz.prog 9 [PV.rpoly p, .int .i64 v, PV.rpoly q] (· = .bool true) :=
  PolySubsts_walk (k := 1048576) (fun t ht => (hp.2 t ht).1) (fun t ht => (hq.2 t ht).1) (by omega) (by omega) (by have := hp.1; omega) (by have := hq.1; omega)
end Go.Proofs.YtfhmockdgbkpnaaGreat
namespace Go.Proofs.YtfhmockdgbkpnaaGreat
open Go Go.FW Go.ChangeShapes Go.WideShapes Go.ChangeAt Go.RowKit
set_option linter.unusedSimpArgs false
set_option linter.unusedVariables false
set_option maxRecDepth 100000
theorem polySubsts_contract (H : Type) (enc : TypeId × Value → H) (W : World) (base : Nat) (args : Array Value) (ds gs : List (DataW H)) (before : List MemPlace)
    (hval : ∀ (j : Nat) t v, Tryz.f9.params[j]? = some t → args[j]? = some v → Value.okWide Tryz.prog W .any base t v)
    (hW : DataW.Whole enc Tryz.prog Tryz.f9.params.toList Rows.polySubstsSpec.vars false W args.toList ds gs before) (hk : Rows.uptoSmall H (ds ++ gs) = true) :
    Calls Tryz.prog 9 args W fun e W' => ∃ v, e = .returned v ∧ Rows.polySubstsSpec.post enc Tryz.prog Tryz.f9 false true false false W args v W' := by
  have hW' := hW
  obtain ⟨p, q, hA0, hV, rfl, hfz, hnd⟩ := hW
  have hA : DataW.TrodAll enc Tryz.prog W 0 (fun _ => true) true Tryz.f9.params.toList args.toList ds p := hA0
  rw [Tryz.params9] at hA hval
  obtain ⟨v0, vs0, e0, ds0, p0, q0, hargs, rfl, rfl, h0, r0⟩ := trodAll_cons hA
  obtain ⟨v1, vs1, e1, ds1, p1, q1, rfl, rfl, rfl, h1, r1⟩ := trodAll_cons r0
  obtain ⟨v2, vs2, e2, ds2, p2, q2, rfl, rfl, rfl, h2, r2⟩ := trodAll_cons r1
  obtain ⟨rfl, rfl, rfl⟩ := trodAll_nil r2
  obtain rfl : args = #[v0, v1, v2] := by cases args; simp_all
  obtain ⟨rfl, rfl⟩ := trodVars_none hV
  have hb := bulk_all hk
  simp only [List.append_nil, Rows.uptoBulkAll] at hb
  obtain ⟨a0, g0, b0⟩ := arg_poly (hval 0 _ v0 rfl rfl) h0 (by omega)
  obtain ⟨a1, g1, b1⟩ := arg_i64 (hval 1 _ v1 rfl rfl) h1 (by omega)
  obtain ⟨a2, g2, b2⟩ := arg_poly (hval 2 _ v2 rfl rfl) h2 (by omega)
  exact post_true hW' rfl (by kernel_rfl) (by kernel_rfl) rfl (PolySubsts_all b0 b1 b2) rfl
    (rep_list (vs := [v0, v1, v2]) (by
      intro i x hx v hv
      match i, hx, hv with
      | 0, hx, hv => simp at hx hv; subst hx hv; exact g0
      | 1, hx, hv => simp at hx hv; subst hx hv; exact g1
      | 2, hx, hv => simp at hx hv; subst hx hv; exact g2
      | i + 3, hx, hv => simp at hx) rfl)
theorem polySubsts_lifted (os : Os) (started : os.Started) (H : Type) (enc : TypeId × Value → H) (F : Stop.Interp) :
    ReturnsInHanded {} Tryz.checked os 9 .any ((Rows.OpenSpec.upto Rows.polySubstsSpec).pre6 enc Tryz.prog Tryz.f9 Rows.polySubstsUptoRow.domain false) (((Rows.OpenSpec.upto Rows.polySubstsSpec).at F).post enc Tryz.prog Tryz.f9 false true false false) := by
  refine returnsInHanded_of_cond (C := Tryz.checked) (s := Rows.OpenSpec.upto Rows.polySubstsSpec) (k := Rows.uptoSmall) rfl own started (by kernel_rfl) Tryz.func9
    (OpenSpec.witness (enc := enc) (C := Tryz.checked) (s := Rows.OpenSpec.upto Rows.polySubstsSpec) (k := Rows.uptoSmall) rfl false ⟨#[], #[.slice none 0 0, .int .i64 0, .slice none 0 0], []⟩ 8 (by kernel_rfl) (by kernel_rfl) (by kernel_rfl)
      (x := ([.nil, .lit (.int .i64 0), .nil], [], [])) (by kernel_rfl) rfl (by kernel_rfl)) ?_
  intro W base args ds gs before hval hW _ hk _
  exact polySubsts_contract H enc W base args ds gs before hval hW hk
theorem polySubsts_proved : Rows.PolySubstsUptoSaid :=
  OpenClaim.holds_of_cond 9 Tryz.f9 rfl rfl rfl rfl rfl rfl rfl ⟨rfl, rfl, rfl, rfl, rfl⟩ rfl rfl rfl rfl rfl (by kernel_rfl) Tryz.func9 (by kernel_rfl)
    (of_decide_eq_true (by kernel_rfl)) (by unfold Func.isWrapper; first | (rw [if_pos (by decide +kernel)]; kernel_rfl) | (rw [if_neg (by decide +kernel)]; exact ⟨rfl, rfl⟩))
    (fun os started H enc _ F => polySubsts_lifted os started H enc F)
end Go.Proofs.YtfhmockdgbkpnaaGreat
