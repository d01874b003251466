/- PolyPowers holds, for arguments of bulk at most 1048576. -/
import Derived.Test.YtfhmockdgbkpnaaGreatPolyPowersPart7
set_option linter.unusedSimpArgs false
set_option linter.unnecessarySimpa false
set_option linter.unusedVariables false
namespace Go.Proofs.YtfhmockdgbkpnaaGreat
open Go Go.FW
set_option linter.unusedSimpArgs false
set_option linter.unusedVariables false
set_option maxRecDepth 100000
theorem r6_Const_spec {n : Bool} {a d : List Nat} {k : Nat} (hr : Raw k n a d) (hk : k ≤ 2 ^ 32) : FnSpec Tryz.prog 60 [PV.rr n a d] (· = PV.poly (pconst (rv n a d))) := by
  have hadd := (r6_add_spec (p := []) (m := []) (K := 1) (E := 1) (PB.nil _ _) trivial (by simp [NZ]) hr hk ⟨by simp, by simp, by simp⟩ (by simp) (by omega) (by omega) (by simp)).le (args' := [.nilS, PV.rr n a d, .nilS]) ⟨trivial, le_refl _, trivial, trivial⟩
  have e : paddT [] (rv n a d) [] = pconst (rv n a d) := by rw [paddT, nil_padd]; rfl
  rw [e] at hadd
  refine fn_of_vc mixed Tryz.func60 rfl c60_ok (by simp [c60]) fun C hP => ?_; simp only [c60]
  simp +decide (disch := first | omega | rfl | (simp +decide only [go_sem, ↓reduceIte] <;> rfl) | fail) only [go_sem, ↓reduceIte, rem64K, quo64K, remI64K, quoI64K, mulK64, mk_empty, sl_3n, app_nil_map, mk_i64, max_nat]
  refine call_eq0 hP hadd rfl rfl rfl ?_
  simp +decide (disch := first | omega | rfl | (simp +decide only [go_sem, ↓reduceIte] <;> rfl) | fail) only [go_sem, ↓reduceIte, rem64K, quo64K, remI64K, quoI64K, mulK64, mk_empty, sl_3n, app_nil_map, mk_i64, max_nat]
  exact retV_eq rfl rfl
end Go.Proofs.YtfhmockdgbkpnaaGreat
namespace Go.Proofs.YtfhmockdgbkpnaaGreat
open Go Go.FW
set_option linter.unusedSimpArgs false
set_option linter.unusedVariables false
set_option maxRecDepth 100000
theorem IndexFuncT_spec {p : List Tm} {f : Nat} {g : Tm → Bool} (hf : ∀ t ∈ p, FnSpec Tryz.prog f [PV.term t] (· = .bool (g t))) (hlp : p.length ≤ 2 ^ 36) :
    FnSpec Tryz.prog 148 [PV.poly p, .fn f [] []] (· = .int .i64 (findI g p)) := by
  refine fn_of_vc mixed Tryz.func148 rfl c148_ok (by simp [c148]) fun C hP => ?_; simp only [c148]
  simp +decide (disch := first | omega | rfl | (simp +decide only [go_sem, ↓reduceIte] <;> rfl) | fail) only [go_sem, ↓reduceIte, mk_empty, sl_3n, app_nil_map, mk_i64, max_nat]
  refine vc_loopF (by repeat (first | exact okSk_ret | exact okSk_retM | exact okSk_retO | apply okSk_back | apply okSk_out | apply okSk_eb | apply okSk_c | apply okSk_o | apply okSk_again)) [(4, 5), (8, 18)] [] (fun n J hp => ∃ i, n = p.length - i ∧ i ≤ p.length ∧ (∀ j (h : j < p.length), j < i → g p[j] = false) ∧ J 8 = .int .i64 (i : Nat)) p.length ?_ ?_
  · refine ⟨0, rfl, by omega, by omega, ?_⟩
    simp +decide (disch := first | omega | rfl | (simp +decide only [go_sem, ↓reduceIte] <;> rfl) | fail) only [go_sem, ↓reduceIte, mk_empty, sl_3n, app_nil_map, mk_i64, max_nat]
    rfl
  rintro _ J h ⟨i, rfl, hi, h1, h8⟩
  simp +decide (disch := first | omega | rfl | (simp +decide only [go_sem, ↓reduceIte, h8] <;> rfl) | fail) only [go_sem, ↓reduceIte, mk_empty, sl_3n, app_nil_map, mk_i64, max_nat, h8]
  refine cond_split (fun hg => ?_) (fun hg => ?_)
  · have hi' : i < p.length := by omega
    have hfi := hf _ (List.getElem_mem hi')
    have hat := fun h => findI_at (g := g) hi' h h1
    have hadd : g p[i] = false → ∀ j (h : j < p.length), j < i + 1 → g p[j] = false := fun h j hj hji => by
      by_cases e : j = i
      · subst e; exact h
      · exact h1 j hj (by omega)
    generalize hx : p[i] = x at *
    simp +decide (disch := first | omega | rfl | (simp +decide only [go_sem, ↓reduceIte, h8, hx] <;> rfl) | fail) only [go_sem, ↓reduceIte, mk_empty, sl_3n, app_nil_map, mk_i64, max_nat, h8, hx]
    refine call_eq0 hP hfi rfl rfl rfl ?_
    simp +decide (disch := first | omega | rfl | (simp +decide only [go_sem, ↓reduceIte, h8, hx] <;> rfl) | fail) only [go_sem, ↓reduceIte, mk_empty, sl_3n, app_nil_map, mk_i64, max_nat, h8, hx]
    cases hgx : g x
    · simp +decide (disch := first | omega | rfl | (simp +decide only [go_sem, ↓reduceIte, h8] <;> rfl) | fail) only [go_sem, ↓reduceIte, mk_empty, sl_3n, app_nil_map, mk_i64, max_nat, h8]
      refine back_ovr (p.length - (i + 1)) (by omega) ⟨i + 1, rfl, by omega, hadd hgx, ?_⟩
      simp +decide (disch := first | omega | rfl | (simp +decide only [go_sem, ↓reduceIte] <;> rfl) | fail) only [go_sem, ↓reduceIte, mk_empty, sl_3n, app_nil_map, mk_i64, max_nat]
    · simp +decide (disch := first | omega | rfl | (simp +decide only [go_sem, ↓reduceIte, h8] <;> rfl) | fail) only [go_sem, ↓reduceIte, mk_empty, sl_3n, app_nil_map, mk_i64, max_nat, h8]
      exact retV_eq (by rw [hat hgx]) rfl
  · obtain rfl : i = p.length := by omega
    simp +decide (disch := first | omega | rfl | (simp +decide only [go_sem, ↓reduceIte] <;> rfl) | fail) only [go_sem, ↓reduceIte, mk_empty, sl_3n, app_nil_map, mk_i64, max_nat]
    exact retV_eq (by rw [findI_none (fun j hj => h1 j hj hj)]) rfl
theorem IndexFuncI_spec {p : List Int} {f : Nat} {g : Int → Bool} (hf : ∀ t ∈ p, FnSpec Tryz.prog f [.int .i64 t] (· = .bool (g t))) (hlp : p.length ≤ 2 ^ 36) :
    FnSpec Tryz.prog 149 [PV.mono p, .fn f [] []] (· = .int .i64 (findI g p)) := by
  refine fn_of_vc mixed Tryz.func149 rfl c149_ok (by simp [c149]) fun C hP => ?_; simp only [c149]
  simp +decide (disch := first | omega | rfl | (simp +decide only [go_sem, ↓reduceIte] <;> rfl) | fail) only [go_sem, ↓reduceIte, mk_empty, sl_3n, app_nil_map, mk_i64, max_nat]
  refine vc_loopF (by repeat (first | exact okSk_ret | exact okSk_retM | exact okSk_retO | apply okSk_back | apply okSk_out | apply okSk_eb | apply okSk_c | apply okSk_o | apply okSk_again)) [(4, 5), (8, 18)] [] (fun n J hp => ∃ i, n = p.length - i ∧ i ≤ p.length ∧ (∀ j (h : j < p.length), j < i → g p[j] = false) ∧ J 8 = .int .i64 (i : Nat)) p.length ?_ ?_
  · refine ⟨0, rfl, by omega, by omega, ?_⟩
    simp +decide (disch := first | omega | rfl | (simp +decide only [go_sem, ↓reduceIte] <;> rfl) | fail) only [go_sem, ↓reduceIte, mk_empty, sl_3n, app_nil_map, mk_i64, max_nat]
    rfl
  rintro _ J h ⟨i, rfl, hi, h1, h8⟩
  simp +decide (disch := first | omega | rfl | (simp +decide only [go_sem, ↓reduceIte, h8] <;> rfl) | fail) only [go_sem, ↓reduceIte, mk_empty, sl_3n, app_nil_map, mk_i64, max_nat, h8]
  refine cond_split (fun hg => ?_) (fun hg => ?_)
  · have hi' : i < p.length := by omega
    have hfi := hf _ (List.getElem_mem hi')
    have hat := fun h => findI_at (g := g) hi' h h1
    have hadd : g p[i] = false → ∀ j (h : j < p.length), j < i + 1 → g p[j] = false := fun h j hj hji => by
      by_cases e : j = i
      · subst e; exact h
      · exact h1 j hj (by omega)
    generalize hx : p[i] = x at *
    simp +decide (disch := first | omega | rfl | (simp +decide only [go_sem, ↓reduceIte, h8, hx] <;> rfl) | fail) only [go_sem, ↓reduceIte, mk_empty, sl_3n, app_nil_map, mk_i64, max_nat, h8, hx]
    refine call_eq0 hP hfi rfl rfl rfl ?_
    simp +decide (disch := first | omega | rfl | (simp +decide only [go_sem, ↓reduceIte, h8, hx] <;> rfl) | fail) only [go_sem, ↓reduceIte, mk_empty, sl_3n, app_nil_map, mk_i64, max_nat, h8, hx]
    cases hgx : g x
    · simp +decide (disch := first | omega | rfl | (simp +decide only [go_sem, ↓reduceIte, h8] <;> rfl) | fail) only [go_sem, ↓reduceIte, mk_empty, sl_3n, app_nil_map, mk_i64, max_nat, h8]
      refine back_ovr (p.length - (i + 1)) (by omega) ⟨i + 1, rfl, by omega, hadd hgx, ?_⟩
      simp +decide (disch := first | omega | rfl | (simp +decide only [go_sem, ↓reduceIte] <;> rfl) | fail) only [go_sem, ↓reduceIte, mk_empty, sl_3n, app_nil_map, mk_i64, max_nat]
    · simp +decide (disch := first | omega | rfl | (simp +decide only [go_sem, ↓reduceIte, h8] <;> rfl) | fail) only [go_sem, ↓reduceIte, mk_empty, sl_3n, app_nil_map, mk_i64, max_nat, h8]
      exact retV_eq (by rw [hat hgx]) rfl
  · obtain rfl : i = p.length := by omega
    simp +decide (disch := first | omega | rfl | (simp +decide only [go_sem, ↓reduceIte] <;> rfl) | fail) only [go_sem, ↓reduceIte, mk_empty, sl_3n, app_nil_map, mk_i64, max_nat]
    exact retV_eq (by rw [findI_none (fun j hj => h1 j hj hj)]) rfl
theorem ContainsFuncT_spec {p : List Tm} {f : Nat} {g : Tm → Bool} (hf : ∀ t ∈ p, FnSpec Tryz.prog f [PV.term t] (· = .bool (g t))) (hlp : p.length ≤ 2 ^ 36) :
    FnSpec Tryz.prog 112 [PV.poly p, .fn f [] []] (· = .bool (p.any g)) := by
  refine fn_of_vc mixed Tryz.func112 rfl c112_ok (by simp [c112]) fun C hP => ?_; simp only [c112]
  simp +decide (disch := first | omega | rfl | (simp +decide only [go_sem, ↓reduceIte] <;> rfl) | fail) only [go_sem, ↓reduceIte, mk_empty, sl_3n, app_nil_map, mk_i64, max_nat]
  refine call_eq0 hP (IndexFuncT_spec hf hlp) rfl rfl rfl ?_
  simp +decide (disch := first | omega | rfl | (simp +decide only [go_sem, ↓reduceIte] <;> rfl) | fail) only [go_sem, ↓reduceIte, mk_empty, sl_3n, app_nil_map, mk_i64, max_nat]
  exact retV_eq (congrArg PV.bool (findI_any g p)) rfl
theorem ContainsFuncI_spec {p : List Int} {f : Nat} {g : Int → Bool} (hf : ∀ t ∈ p, FnSpec Tryz.prog f [.int .i64 t] (· = .bool (g t))) (hlp : p.length ≤ 2 ^ 36) :
    FnSpec Tryz.prog 114 [PV.mono p, .fn f [] []] (· = .bool (p.any g)) := by
  refine fn_of_vc mixed Tryz.func114 rfl c114_ok (by simp [c114]) fun C hP => ?_; simp only [c114]
  simp +decide (disch := first | omega | rfl | (simp +decide only [go_sem, ↓reduceIte] <;> rfl) | fail) only [go_sem, ↓reduceIte, mk_empty, sl_3n, app_nil_map, mk_i64, max_nat]
  refine call_eq0 hP (IndexFuncI_spec hf hlp) rfl rfl rfl ?_
  simp +decide (disch := first | omega | rfl | (simp +decide only [go_sem, ↓reduceIte] <;> rfl) | fail) only [go_sem, ↓reduceIte, mk_empty, sl_3n, app_nil_map, mk_i64, max_nat]
  exact retV_eq (congrArg PV.bool (findI_any g p)) rfl
theorem large11_spec (x : Int) : FnSpec Tryz.prog 115 [.int .i64 x] (· = .bool (decide (1048576 < x))) := by
  refine fn_of_vc mixed Tryz.func115 rfl c115_ok (by simp [c115]) fun C hP => ?_; simp only [c115]
  simp +decide (disch := first | omega | rfl | (simp +decide only [go_sem, ↓reduceIte] <;> rfl) | fail) only [go_sem, ↓reduceIte, mk_empty, sl_3n, app_nil_map, mk_i64, max_nat]
  exact retV_eq rfl rfl
theorem large1_spec {t : Tm} (h : t.2.length ≤ 2 ^ 36) : FnSpec Tryz.prog 113 [PV.term t] (· = .bool (t.2.any fun x => decide (1048576 < x))) := by
  refine fn_of_vc mixed Tryz.func113 rfl c113_ok (by simp [c113]) fun C hP => ?_; simp only [c113]
  simp +decide (disch := first | omega | rfl | (simp +decide only [go_sem, ↓reduceIte] <;> rfl) | fail) only [go_sem, ↓reduceIte, mk_empty, sl_3n, app_nil_map, mk_i64, max_nat]
  refine call_eq0 hP (ContainsFuncI_spec (fun x _ => large11_spec x) h) rfl rfl rfl ?_
  simp +decide (disch := first | omega | rfl | (simp +decide only [go_sem, ↓reduceIte] <;> rfl) | fail) only [go_sem, ↓reduceIte, mk_empty, sl_3n, app_nil_map, mk_i64, max_nat]
  exact retV_eq rfl rfl
theorem p_large_spec {p : List Tm} {E : Nat} (hp : ∀ t ∈ p, MB E t.2) (hlp : p.length ≤ 2 ^ 36) : FnSpec Tryz.prog 59 [PV.poly p] (· = .bool (plarge p)) := by
  refine fn_of_vc mixed Tryz.func59 rfl c59_ok (by simp [c59]) fun C hP => ?_; simp only [c59]
  simp +decide (disch := first | omega | rfl | (simp +decide only [go_sem, ↓reduceIte] <;> rfl) | fail) only [go_sem, ↓reduceIte, mk_empty, sl_3n, app_nil_map, mk_i64, max_nat]
  refine guard_splitF (fun h => ?_) (fun h => ?_)
  · simp +decide (disch := first | omega | rfl | (simp +decide only [go_sem, ↓reduceIte] <;> rfl) | fail) only [go_sem, ↓reduceIte, mk_empty, sl_3n, app_nil_map, mk_i64, max_nat]
    exact retV_eq (congrArg PV.bool (by rw [plarge, decide_eq_true (by omega), Bool.true_or])) rfl
  · simp +decide (disch := first | omega | rfl | (simp +decide only [go_sem, ↓reduceIte] <;> rfl) | fail) only [go_sem, ↓reduceIte, mk_empty, sl_3n, app_nil_map, mk_i64, max_nat]
    refine call_eq0 hP (ContainsFuncT_spec (fun t ht => large1_spec (by have := (hp t ht).len; omega)) hlp) rfl rfl rfl ?_
    simp +decide (disch := first | omega | rfl | (simp +decide only [go_sem, ↓reduceIte] <;> rfl) | fail) only [go_sem, ↓reduceIte, mk_empty, sl_3n, app_nil_map, mk_i64, max_nat]
    exact retV_eq (congrArg PV.bool (by rw [plarge, decide_eq_false (by omega), Bool.false_or])) rfl
theorem p_Const_q {a : Rat} {k : Nat} (h : rs a ≤ k) (hk : k < 2 ^ 36) : FnSpec Tryz.prog 57 [PV.rat a] (· = PV.poly (pconst a)) := by
  have := p_Const_spec (raw_of h) hk
  rwa [rv_of] at this
def powR (p : List Tm) (n : Nat) : PV := if ppowL p n = true then .tup [PV.poly [], .int .i64 4] else .tup [PV.poly (ppow p n), .int .i64 0]
theorem p_Pow_bad {p : List Tm} {n : Int} (h : n < 0 ∨ 4000 < n) : FnSpec Tryz.prog 14 [PV.poly p, .int .i64 n] (· = .tup [PV.poly [], .int .i64 2]) := by
  refine fn_of_vc mixed Tryz.func14 rfl c14_ok (by simp [c14]) fun C hP => ?_; simp only [c14]
  simp +decide (disch := first | omega | rfl | (simp +decide only [go_sem, ↓reduceIte] <;> rfl) | fail) only [go_sem, ↓reduceIte, mk_empty, sl_3n, app_nil_map, mk_i64, max_nat]
  refine guard_splitF (fun h1 => ?_) (fun h1 => ?_)
  · simp +decide (disch := first | omega | rfl | (simp +decide only [go_sem, ↓reduceIte] <;> rfl) | fail) only [go_sem, ↓reduceIte, mk_empty, sl_3n, app_nil_map, mk_i64, max_nat]
    exact ret2 rfl rfl rfl trivial (le_refl _)
  simp +decide (disch := first | omega | rfl | (simp +decide only [go_sem, ↓reduceIte] <;> rfl) | fail) only [go_sem, ↓reduceIte, mk_empty, sl_3n, app_nil_map, mk_i64, max_nat]
  refine cond_split (fun h2 => ?_) (fun h2 => by omega)
  simp +decide (disch := first | omega | rfl | (simp +decide only [go_sem, ↓reduceIte] <;> rfl) | fail) only [go_sem, ↓reduceIte, mk_empty, sl_3n, app_nil_map, mk_i64, max_nat]
  exact ret2 rfl rfl rfl trivial (le_refl _)
theorem p_Pow_spec {p : List Tm} {n K E L : Nat} (hn : n ≤ 4000) (hp : PB K E p) (hb : ∀ i, i ≤ n → PB K E (ppow p i) ∧ (ppow p i).length ≤ L) (hlp : p.length ≤ L) (hL : L ≤ 2 ^ 17) (hE : E ≤ 2 ^ 37) (hK : L * (K + K) ≤ 2 ^ 33) (hK2 : K ≤ 2 ^ 33) :
    FnSpec Tryz.prog 14 [PV.poly p, .int .i64 n] (· = powR p n) := by
  have h1 := rs_1
  refine fn_of_vc mixed Tryz.func14 rfl c14_ok (by simp [c14]) fun C hP => ?_; simp only [c14]
  simp +decide (disch := first | omega | rfl | (simp +decide only [go_sem, ↓reduceIte] <;> rfl) | fail) only [go_sem, ↓reduceIte, mk_empty, sl_3n, app_nil_map, mk_i64, max_nat]
  refine guard_splitF (fun h => by omega) (fun _ => ?_)
  simp +decide (disch := first | omega | rfl | (simp +decide only [go_sem, ↓reduceIte] <;> rfl) | fail) only [go_sem, ↓reduceIte, mk_empty, sl_3n, app_nil_map, mk_i64, max_nat]
  refine cond_split (fun h => by omega) (fun _ => ?_)
  simp +decide (disch := first | omega | rfl | (simp +decide only [go_sem, ↓reduceIte] <;> rfl) | fail) only [go_sem, ↓reduceIte, mk_empty, sl_3n, app_nil_map, mk_i64, max_nat]
  refine call_eq0 hP (q_Of_spec (x := 1) (by omega) (by omega)) rfl rfl rfl ?_
  simp +decide (disch := first | omega | rfl | (simp +decide only [go_sem, ↓reduceIte] <;> rfl) | fail) only [go_sem, ↓reduceIte, mk_empty, sl_3n, app_nil_map, mk_i64, max_nat]
  refine call_eq0 hP (p_Const_q (a := ((1 : Int) : Rat)) (k := 1) (by have : ((1 : Int) : Rat) = 1 := rfl; rw [this]; exact h1) (by omega)) rfl rfl rfl ?_
  rw [show pconst ((1 : Int) : Rat) = ppow p 0 from rfl]
  simp +decide (disch := first | omega | rfl | (simp +decide only [go_sem, ↓reduceIte] <;> rfl) | fail) only [go_sem, ↓reduceIte, mk_empty, sl_3n, app_nil_map, mk_i64, max_nat]
  refine vc_loopF (by repeat (first | exact okSk_ret | exact okSk_retM | exact okSk_retO | apply okSk_back | apply okSk_out | apply okSk_eb | apply okSk_c | apply okSk_o | apply okSk_again)) [(4, 6), (16, 23)] [] (fun m J hp => ∃ i, m = n - i ∧ i ≤ n ∧ ppowL p i = false ∧ J 6 = PV.poly (ppow p i) ∧ J 16 = .int .i64 (i : Nat)) n ?_ ?_
  · refine ⟨0, rfl, by omega, rfl, ?_⟩
    simp +decide (disch := first | omega | rfl | (simp +decide only [go_sem, ↓reduceIte] <;> rfl) | fail) only [go_sem, ↓reduceIte, mk_empty, sl_3n, app_nil_map, mk_i64, max_nat]
    rfl
  rintro _ J h ⟨i, rfl, hi, hl, h6, h16⟩
  simp +decide (disch := first | omega | rfl | (simp +decide only [go_sem, ↓reduceIte, h6, h16] <;> rfl) | fail) only [go_sem, ↓reduceIte, mk_empty, sl_3n, app_nil_map, mk_i64, max_nat, h6, h16]
  refine cond_split (fun hg => ?_) (fun hg => ?_)
  · have hi' : i < n := by omega
    obtain ⟨b1, b2⟩ := hb i (by omega)
    obtain ⟨b3, b4⟩ := hb (i + 1) (by omega)
    have hs := ppowL_succ p i
    rw [hl, Bool.false_or] at hs
    have hm1 : (ppow p i).length * p.length ≤ 2 ^ 17 * 2 ^ 17 := Nat.mul_le_mul (by omega) (by omega)
    have hm2 : min (ppow p i).length p.length * (K + K) ≤ L * (K + K) := Nat.mul_le_mul_right _ (by omega)
    have hof : plarge (ppow p (i + 1)) = true → ppowL p n = true := fun h => ppowL_of hi' h
    simp +decide (disch := first | omega | rfl | (simp +decide only [go_sem, ↓reduceIte, h6, h16] <;> rfl) | fail) only [go_sem, ↓reduceIte, mk_empty, sl_3n, app_nil_map, mk_i64, max_nat, h6, h16]
    refine call_eq0 hP (p_Mul_spec b1 hp hE (by omega) (by omega) (by omega) (by omega) hK2) rfl rfl rfl ?_
    rw [show pmul (ppow p i) p = ppow p (i + 1) from rfl]
    simp +decide (disch := first | omega | rfl | (simp +decide only [go_sem, ↓reduceIte, h6, h16] <;> rfl) | fail) only [go_sem, ↓reduceIte, mk_empty, sl_3n, app_nil_map, mk_i64, max_nat, h6, h16]
    refine call_eq0 hP (p_large_spec (fun t ht => (b3 t ht).m) (by omega)) rfl rfl rfl ?_
    simp +decide (disch := first | omega | rfl | (simp +decide only [go_sem, ↓reduceIte, h6, h16] <;> rfl) | fail) only [go_sem, ↓reduceIte, mk_empty, sl_3n, app_nil_map, mk_i64, max_nat, h6, h16]
    cases hlg : plarge (ppow p (i + 1))
    · simp +decide (disch := first | omega | rfl | (simp +decide only [go_sem, ↓reduceIte, h16] <;> rfl) | fail) only [go_sem, ↓reduceIte, mk_empty, sl_3n, app_nil_map, mk_i64, max_nat, h16]
      refine back_ovr (n - (i + 1)) (by omega) ⟨i + 1, rfl, by omega, by rw [hs, hlg], ?_⟩
      simp +decide (disch := first | omega | rfl | (simp +decide only [go_sem, ↓reduceIte] <;> rfl) | fail) only [go_sem, ↓reduceIte, mk_empty, sl_3n, app_nil_map, mk_i64, max_nat]
    · simp +decide (disch := first | omega | rfl | (simp +decide only [go_sem, ↓reduceIte] <;> rfl) | fail) only [go_sem, ↓reduceIte, mk_empty, sl_3n, app_nil_map, mk_i64, max_nat]
      exact ret2 (by rw [powR, if_pos (hof hlg)]) rfl rfl poly_nil (le_refl _)
  · obtain rfl : i = n := by omega
    simp +decide (disch := first | omega | rfl | (simp +decide only [go_sem, ↓reduceIte, h6] <;> rfl) | fail) only [go_sem, ↓reduceIte, mk_empty, sl_3n, app_nil_map, mk_i64, max_nat, h6]
    exact ret2 (by rw [powR, if_neg (by simp [hl])]) rfl rfl (le_refl _) (le_refl _)
end Go.Proofs.YtfhmockdgbkpnaaGreat
namespace Go.Proofs.YtfhmockdgbkpnaaGreat
open Go Go.FW
set_option linter.unusedSimpArgs false
set_option linter.unusedVariables false
set_option maxRecDepth 100000
theorem r6_Large_spec {p : List Tm} {E : Nat} (hp : ∀ t ∈ p, MB E t.2) (hlp : p.length ≤ 2 ^ 36) : FnSpec Tryz.prog 61 [PV.poly p] (· = .bool (plarge p)) := by
  have bad : (∃ t ∈ p, ∃ x ∈ t.2, 1048576 < x) → plarge p = true := fun ⟨t, ht, x, hx, h⟩ => by
    unfold plarge
    have : (p.any fun t => t.2.any fun x => decide (1048576 < x)) = true := by
      rw [List.any_eq_true]; exact ⟨t, ht, by rw [List.any_eq_true]; exact ⟨x, hx, decide_eq_true h⟩⟩
    rw [this, Bool.or_true]
  refine fn_of_vc mixed Tryz.func61 rfl c61_ok (by simp [c61]) fun C hP => ?_; simp only [c61]
  simp +decide (disch := first | omega | rfl | (simp +decide only [go_sem, ↓reduceIte] <;> rfl) | fail) only [go_sem, ↓reduceIte, rem64K, quo64K, remI64K, quoI64K, mulK64, mk_empty, sl_3n, app_nil_map, mk_i64, max_nat]
  refine vc_loopF (by repeat (first | exact okSk_ret | exact okSk_retM | exact okSk_retO | apply okSk_back | apply okSk_out | apply okSk_eb | apply okSk_c | apply okSk_o | apply okSk_again | apply okSk_backW)) [(2, 29)] [] (fun n J hp => ∃ i, n = p.length - i ∧ i ≤ p.length ∧ (∀ t ∈ p.take i, ∀ x ∈ t.2, ¬ 1048576 < x) ∧ J 3 = .int .i64 (i : Nat)) p.length ?_ ?_
  · refine ⟨0, rfl, by omega, by simp, ?_⟩
    simp +decide (disch := first | omega | rfl | (simp +decide only [go_sem, ↓reduceIte] <;> rfl) | fail) only [go_sem, ↓reduceIte, rem64K, quo64K, remI64K, quoI64K, mulK64, mk_empty, sl_3n, app_nil_map, mk_i64, max_nat]
    rfl
  rintro _ J h ⟨i, rfl, hi, h1, h3⟩
  simp +decide (disch := first | omega | rfl | (simp +decide only [go_sem, ↓reduceIte, h3] <;> rfl) | fail) only [go_sem, ↓reduceIte, rem64K, quo64K, remI64K, quoI64K, mulK64, mk_empty, sl_3n, app_nil_map, mk_i64, max_nat, h3]
  refine cond_split (fun hg => ?_) (fun hg => ?_)
  · have hi' : i < p.length := by omega
    have htp := hp _ (List.getElem_mem hi')
    have hmem := List.getElem_mem hi'
    have htk : p.take (i + 1) = p.take i ++ [p[i]] := List.take_succ_eq_append_getElem hi'
    generalize hx : p[i] = x at *
    have hml := htp.len
    simp +decide (disch := first | omega | rfl | (simp +decide only [go_sem, ↓reduceIte, h3, hx] <;> rfl) | fail) only [go_sem, ↓reduceIte, rem64K, quo64K, remI64K, quoI64K, mulK64, mk_empty, sl_3n, app_nil_map, mk_i64, max_nat, h3, hx]
    refine vc_loopF (by repeat (first | exact okSk_ret | exact okSk_retM | exact okSk_retO | apply okSk_back | apply okSk_out | apply okSk_eb | apply okSk_c | apply okSk_o | apply okSk_again | apply okSk_backW)) [(2, 2), (4, 4), (11, 29)] [] (fun n J hp => ∃ j, n = x.2.length - j ∧ j ≤ x.2.length ∧ (∀ y ∈ x.2.take j, ¬ 1048576 < y) ∧ J 4 = .int .i64 (j : Nat)) x.2.length ?_ ?_
    · refine ⟨0, rfl, by omega, by simp, ?_⟩
      simp +decide (disch := first | omega | rfl | (simp +decide only [go_sem, ↓reduceIte] <;> rfl) | fail) only [go_sem, ↓reduceIte, rem64K, quo64K, remI64K, quoI64K, mulK64, mk_empty, sl_3n, app_nil_map, mk_i64, max_nat]
      rfl
    rintro _ J2 h2 ⟨j, rfl, hj, h4, h5⟩
    simp +decide (disch := first | omega | rfl | (simp +decide only [go_sem, ↓reduceIte, h3, h5, hx] <;> rfl) | fail) only [go_sem, ↓reduceIte, rem64K, quo64K, remI64K, quoI64K, mulK64, mk_empty, sl_3n, app_nil_map, mk_i64, max_nat, h3, h5, hx]
    refine cond_split (fun hg2 => ?_) (fun hg2 => ?_)
    · have hj' : j < x.2.length := by omega
      have hm2 := List.getElem_mem hj'
      have htk2 : x.2.take (j + 1) = x.2.take j ++ [x.2[j]] := List.take_succ_eq_append_getElem hj'
      generalize hy : x.2[j] = y at *
      simp +decide (disch := first | omega | rfl | (simp +decide only [go_sem, ↓reduceIte, h3, h5, hx, hy] <;> rfl) | fail) only [go_sem, ↓reduceIte, rem64K, quo64K, remI64K, quoI64K, mulK64, mk_empty, sl_3n, app_nil_map, mk_i64, max_nat, h3, h5, hx, hy]
      refine cond_split (fun hc => ?_) (fun hc => ?_)
      · simp +decide (disch := first | omega | rfl | (simp +decide only [go_sem, ↓reduceIte] <;> rfl) | fail) only [go_sem, ↓reduceIte, rem64K, quo64K, remI64K, quoI64K, mulK64, mk_empty, sl_3n, app_nil_map, mk_i64, max_nat]
        exact retV_eq (congrArg PV.bool (bad ⟨x, hmem, y, hm2, hc⟩).symm) rfl
      · simp +decide (disch := first | omega | rfl | (simp +decide only [go_sem, ↓reduceIte, h5] <;> rfl) | fail) only [go_sem, ↓reduceIte, rem64K, quo64K, remI64K, quoI64K, mulK64, mk_empty, sl_3n, app_nil_map, mk_i64, max_nat, h5]
        refine back_ovr (x.2.length - (j + 1)) (by omega) ⟨j + 1, rfl, by omega, ?_, ?_⟩
        · rw [htk2]
          intro z hz
          rcases List.mem_append.1 hz with hz | hz
          · exact h4 z hz
          · simp only [List.mem_singleton] at hz; subst hz; exact hc
        · simp +decide (disch := first | omega | rfl | (simp +decide only [go_sem, ↓reduceIte] <;> rfl) | fail) only [go_sem, ↓reduceIte, rem64K, quo64K, remI64K, quoI64K, mulK64, mk_empty, sl_3n, app_nil_map, mk_i64, max_nat]
    · rw [List.take_of_length_le (by omega)] at h4
      simp +decide (disch := first | omega | rfl | (simp +decide only [go_sem, ↓reduceIte, h3, h5] <;> rfl) | fail) only [go_sem, ↓reduceIte, rem64K, quo64K, remI64K, quoI64K, mulK64, mk_empty, sl_3n, app_nil_map, mk_i64, max_nat, h3, h5]
      simp (disch := decide) only [killFs_nil, ovr_sub]
      refine back_ovr (p.length - (i + 1)) (by omega) ⟨i + 1, rfl, by omega, ?_, ?_⟩
      · rw [htk]
        intro z hz
        rcases List.mem_append.1 hz with hz | hz
        · exact h1 z hz
        · simp only [List.mem_singleton] at hz; subst hz; exact h4
      · simp +decide (disch := first | omega | rfl | (simp +decide only [go_sem, ↓reduceIte] <;> rfl) | fail) only [go_sem, ↓reduceIte, rem64K, quo64K, remI64K, quoI64K, mulK64, mk_empty, sl_3n, app_nil_map, mk_i64, max_nat]
  · obtain rfl : i = p.length := by omega
    rw [List.take_length] at h1
    simp +decide (disch := first | omega | rfl | (simp +decide only [go_sem, ↓reduceIte] <;> rfl) | fail) only [go_sem, ↓reduceIte, rem64K, quo64K, remI64K, quoI64K, mulK64, mk_empty, sl_3n, app_nil_map, mk_i64, max_nat]
    refine retV_eq (congrArg PV.bool ?_) rfl
    have : (p.any fun t => t.2.any fun x => decide (1048576 < x)) = false := by
      rw [List.any_eq_false]; intro t ht; rw [Bool.not_eq_true, List.any_eq_false]; intro x hx; simpa using h1 t ht x hx
    rw [plarge, this, Bool.or_false]
    exact decide_eq_decide.2 ⟨fun h => by omega, fun h => by omega⟩
theorem r6_Const_q {a : Rat} {k : Nat} (h : rs a ≤ k) (hk : k ≤ 2 ^ 32) : FnSpec Tryz.prog 60 [PV.rat a] (· = PV.poly (pconst a)) := by
  have := r6_Const_spec (raw_of h) hk
  rwa [rv_of] at this
theorem r6_Pow_bad {p : List Tm} {n : Int} (h : n < 0 ∨ 4000 < n) : FnSpec Tryz.prog 15 [PV.poly p, .int .i64 n] (· = .tup [PV.poly [], .int .i64 2]) := by
  refine fn_of_vc mixed Tryz.func15 rfl c15_ok (by simp [c15]) fun C hP => ?_; simp only [c15]
  simp +decide (disch := first | omega | rfl | (simp +decide only [go_sem, ↓reduceIte] <;> rfl) | fail) only [go_sem, ↓reduceIte, rem64K, quo64K, remI64K, quoI64K, mulK64, mk_empty, sl_3n, app_nil_map, mk_i64, max_nat]
  refine guard_splitF (fun h1 => ?_) (fun h1 => ?_)
  · simp +decide (disch := first | omega | rfl | (simp +decide only [go_sem, ↓reduceIte] <;> rfl) | fail) only [go_sem, ↓reduceIte, rem64K, quo64K, remI64K, quoI64K, mulK64, mk_empty, sl_3n, app_nil_map, mk_i64, max_nat]
    exact ret2 rfl rfl rfl trivial (le_refl _)
  simp +decide (disch := first | omega | rfl | (simp +decide only [go_sem, ↓reduceIte] <;> rfl) | fail) only [go_sem, ↓reduceIte, rem64K, quo64K, remI64K, quoI64K, mulK64, mk_empty, sl_3n, app_nil_map, mk_i64, max_nat]
  refine cond_split (fun h2 => ?_) (fun h2 => by omega)
  simp +decide (disch := first | omega | rfl | (simp +decide only [go_sem, ↓reduceIte] <;> rfl) | fail) only [go_sem, ↓reduceIte, rem64K, quo64K, remI64K, quoI64K, mulK64, mk_empty, sl_3n, app_nil_map, mk_i64, max_nat]
  exact ret2 rfl rfl rfl trivial (le_refl _)
theorem r6_Pow_spec {p : List Tm} {n K E L : Nat} (hn : n ≤ 4000) (hp : PB K E p) (hnr : Nrm p) (hb : ∀ i, i ≤ n → PB K E (ppow p i) ∧ (ppow p i).length ≤ L) (hlp : p.length ≤ L) (hL : L ≤ 2 ^ 17) (hE : E ≤ 2 ^ 37) (hK : L * (K + K) + (K + K) ≤ 2 ^ 32) :
    FnSpec Tryz.prog 15 [PV.poly p, .int .i64 n] (· = powR p n) := by
  have h1 := rs_1
  refine fn_of_vc mixed Tryz.func15 rfl c15_ok (by simp [c15]) fun C hP => ?_; simp only [c15]
  simp +decide (disch := first | omega | rfl | (simp +decide only [go_sem, ↓reduceIte] <;> rfl) | fail) only [go_sem, ↓reduceIte, rem64K, quo64K, remI64K, quoI64K, mulK64, mk_empty, sl_3n, app_nil_map, mk_i64, max_nat]
  refine guard_splitF (fun h => by omega) (fun _ => ?_)
  simp +decide (disch := first | omega | rfl | (simp +decide only [go_sem, ↓reduceIte] <;> rfl) | fail) only [go_sem, ↓reduceIte, rem64K, quo64K, remI64K, quoI64K, mulK64, mk_empty, sl_3n, app_nil_map, mk_i64, max_nat]
  refine cond_split (fun h => by omega) (fun _ => ?_)
  simp +decide (disch := first | omega | rfl | (simp +decide only [go_sem, ↓reduceIte] <;> rfl) | fail) only [go_sem, ↓reduceIte, rem64K, quo64K, remI64K, quoI64K, mulK64, mk_empty, sl_3n, app_nil_map, mk_i64, max_nat]
  refine call_eq0 hP (r3_Of_spec (x := 1) (by omega) (by omega)) rfl rfl rfl ?_
  simp +decide (disch := first | omega | rfl | (simp +decide only [go_sem, ↓reduceIte] <;> rfl) | fail) only [go_sem, ↓reduceIte, rem64K, quo64K, remI64K, quoI64K, mulK64, mk_empty, sl_3n, app_nil_map, mk_i64, max_nat]
  refine call_eq0 hP (r6_Const_q (a := ((1 : Int) : Rat)) (k := 1) (by have : ((1 : Int) : Rat) = 1 := rfl; rw [this]; exact h1) (by omega)) rfl rfl rfl ?_
  rw [show pconst ((1 : Int) : Rat) = ppow p 0 from rfl]
  simp +decide (disch := first | omega | rfl | (simp +decide only [go_sem, ↓reduceIte] <;> rfl) | fail) only [go_sem, ↓reduceIte, rem64K, quo64K, remI64K, quoI64K, mulK64, mk_empty, sl_3n, app_nil_map, mk_i64, max_nat]
  refine vc_loopF (by repeat (first | exact okSk_ret | exact okSk_retM | exact okSk_retO | apply okSk_back | apply okSk_out | apply okSk_eb | apply okSk_c | apply okSk_o | apply okSk_again | apply okSk_backW)) [(4, 7), (16, 25)] [] (fun m J hp => ∃ i, m = n - i ∧ i ≤ n ∧ ppowL p i = false ∧ J 6 = PV.poly (ppow p i) ∧ J 7 = .int .i64 (i : Nat)) n ?_ ?_
  · refine ⟨0, rfl, by omega, rfl, ?_⟩
    simp +decide (disch := first | omega | rfl | (simp +decide only [go_sem, ↓reduceIte] <;> rfl) | fail) only [go_sem, ↓reduceIte, rem64K, quo64K, remI64K, quoI64K, mulK64, mk_empty, sl_3n, app_nil_map, mk_i64, max_nat]
    rfl
  rintro _ J h ⟨i, rfl, hi, hl, h6, h7⟩
  simp +decide (disch := first | omega | rfl | (simp +decide only [go_sem, ↓reduceIte, h6, h7] <;> rfl) | fail) only [go_sem, ↓reduceIte, rem64K, quo64K, remI64K, quoI64K, mulK64, mk_empty, sl_3n, app_nil_map, mk_i64, max_nat, h6, h7]
  refine cond_split (fun hg => ?_) (fun hg => ?_)
  · have hi' : i < n := by omega
    obtain ⟨b1, b2⟩ := hb i (by omega)
    obtain ⟨b3, b4⟩ := hb (i + 1) (by omega)
    have hs := ppowL_succ p i
    rw [hl, Bool.false_or] at hs
    have hni := ppow_nrm hnr i
    have hm1 : p.length * (ppow p i).length ≤ 2 ^ 17 * 2 ^ 17 := Nat.mul_le_mul (by omega) (by omega)
    have hm2 : p.length * (K + K) ≤ L * (K + K) := Nat.mul_le_mul_right _ (by omega)
    have hof : plarge (ppow p (i + 1)) = true → ppowL p n = true := fun h => ppowL_of hi' h
    simp +decide (disch := first | omega | rfl | (simp +decide only [go_sem, ↓reduceIte, h6, h7] <;> rfl) | fail) only [go_sem, ↓reduceIte, rem64K, quo64K, remI64K, quoI64K, mulK64, mk_empty, sl_3n, app_nil_map, mk_i64, max_nat, h6, h7]
    refine call_eq0 hP (r6_Mul_spec b1 hp hni.z hnr.z hE (by omega) (by omega) (by omega) (by omega)) rfl rfl rfl ?_
    rw [pmulR_eq hni hnr, show pmul (ppow p i) p = ppow p (i + 1) from rfl]
    simp +decide (disch := first | omega | rfl | (simp +decide only [go_sem, ↓reduceIte, h6, h7] <;> rfl) | fail) only [go_sem, ↓reduceIte, rem64K, quo64K, remI64K, quoI64K, mulK64, mk_empty, sl_3n, app_nil_map, mk_i64, max_nat, h6, h7]
    refine call_eq0 hP (r6_Large_spec (fun t ht => (b3 t ht).m) (by omega)) rfl rfl rfl ?_
    simp +decide (disch := first | omega | rfl | (simp +decide only [go_sem, ↓reduceIte, h6, h7] <;> rfl) | fail) only [go_sem, ↓reduceIte, rem64K, quo64K, remI64K, quoI64K, mulK64, mk_empty, sl_3n, app_nil_map, mk_i64, max_nat, h6, h7]
    cases hlg : plarge (ppow p (i + 1))
    · simp +decide (disch := first | omega | rfl | (simp +decide only [go_sem, ↓reduceIte, h7] <;> rfl) | fail) only [go_sem, ↓reduceIte, rem64K, quo64K, remI64K, quoI64K, mulK64, mk_empty, sl_3n, app_nil_map, mk_i64, max_nat, h7]
      refine back_ovr (n - (i + 1)) (by omega) ⟨i + 1, rfl, by omega, by rw [hs, hlg], ?_⟩
      simp +decide (disch := first | omega | rfl | (simp +decide only [go_sem, ↓reduceIte] <;> rfl) | fail) only [go_sem, ↓reduceIte, rem64K, quo64K, remI64K, quoI64K, mulK64, mk_empty, sl_3n, app_nil_map, mk_i64, max_nat]
    · simp +decide (disch := first | omega | rfl | (simp +decide only [go_sem, ↓reduceIte] <;> rfl) | fail) only [go_sem, ↓reduceIte, rem64K, quo64K, remI64K, quoI64K, mulK64, mk_empty, sl_3n, app_nil_map, mk_i64, max_nat]
      exact ret2 (by rw [powR, if_pos (hof hlg)]) rfl rfl poly_nil (le_refl _)
  · obtain rfl : i = n := by omega
    simp +decide (disch := first | omega | rfl | (simp +decide only [go_sem, ↓reduceIte, h6] <;> rfl) | fail) only [go_sem, ↓reduceIte, rem64K, quo64K, remI64K, quoI64K, mulK64, mk_empty, sl_3n, app_nil_map, mk_i64, max_nat, h6]
    exact ret2 (by rw [powR, if_neg (by simp [hl])]) rfl rfl (le_refl _) (le_refl _)
end Go.Proofs.YtfhmockdgbkpnaaGreat
namespace Go.Proofs.YtfhmockdgbkpnaaGreat
open Go Go.FW
set_option linter.unusedSimpArgs false
set_option linter.unusedVariables false
set_option maxRecDepth 100000
def PowBoth (p : List Tm) (n : Int) : Prop := ∃ (A : List Tm) (e : Int) (K E : Nat), PB K E A ∧ K ≤ 2 ^ 33 ∧ E ≤ 2 ^ 38 ∧ A.length ≤ 2 ^ 36 ∧
  FnSpec Tryz.prog 14 [PV.poly p, .int .i64 n] (· = .tup [PV.poly A, .int .i64 e]) ∧ FnSpec Tryz.prog 15 [PV.poly p, .int .i64 n] (· = .tup [PV.poly A, .int .i64 e])
theorem powBoth_bad {p : List Tm} {n : Int} (h : n < 0 ∨ 4000 < n) : PowBoth p n := ⟨[], 2, 1, 1, PB.nil _ _, by omega, by omega, by simp, p_Pow_bad h, r6_Pow_bad h⟩
theorem powBoth_ok {p : List Tm} {n K E L : Nat} (hn : n ≤ 4000) (hp : PB K E p) (hnr : Nrm p) (hb : ∀ i, i ≤ n → PB K E (ppow p i) ∧ (ppow p i).length ≤ L) (hlp : p.length ≤ L) (hL : L ≤ 2 ^ 17) (hE : E ≤ 2 ^ 37) (hK : L * (K + K) + (K + K) ≤ 2 ^ 32) : PowBoth p n := by
  have h1 := p_Pow_spec hn hp hb hlp hL hE (by omega) (by omega)
  have h2 := r6_Pow_spec hn hp hnr hb hlp hL hE hK
  unfold powR at h1 h2
  split at h1
  · rename_i hl
    rw [if_pos hl] at h2
    exact ⟨[], 4, 1, 1, PB.nil _ _, by omega, by omega, by simp, h1, h2⟩
  · rename_i hl
    rw [if_neg hl] at h2
    obtain ⟨b1, b2⟩ := hb n (Nat.le_refl _)
    exact ⟨_, 0, K, E, b1, by omega, by omega, by omega, h1, h2⟩
def kk : Nat → Nat
  | 0 => 2
  | i + 1 => 3 * (kk i + 5)
theorem pconst1_PB : PB 2 0 (pconst 1) ∧ (pconst 1).length ≤ 1 := by
  have h := rs_1
  rw [pconst, if_neg (by decide)]
  exact ⟨fun t ht => by simp only [List.mem_singleton] at ht; subst ht; exact TB.num (by omega), by simp⟩
theorem ppow_small {p : List Tm} (hp : PB 5 8 p) (hl : p.length ≤ 3) : ∀ i, PB (kk i) (8 * i) (ppow p i) ∧ (ppow p i).length ≤ 3 ^ i
  | 0 => by
    obtain ⟨h1, h2⟩ := pconst1_PB
    exact ⟨h1, by simpa [ppow] using h2⟩
  | i + 1 => by
    obtain ⟨h1, h2⟩ := ppow_small hp hl i
    obtain ⟨h3, h4⟩ := pmul_bound h1 hp
    refine ⟨h3.mono (Nat.mul_le_mul_right _ (by omega)) (by omega), Nat.le_trans h4 ?_⟩
    rw [Nat.pow_succ]; exact Nat.mul_le_mul h2 hl
theorem kk_le {i : Nat} (h : i ≤ 6) : kk i ≤ 7000 ∧ 3 ^ i ≤ 729 := by
  have : i = 0 ∨ i = 1 ∨ i = 2 ∨ i = 3 ∨ i = 4 ∨ i = 5 ∨ i = 6 := by omega
  rcases this with rfl | rfl | rfl | rfl | rfl | rfl | rfl <;> decide
theorem ppow_const {p : List Tm} (hp : PB 5 0 p) (hl : p.length ≤ 1) : ∀ i, PB (2 + 5 * i) 0 (ppow p i) ∧ (ppow p i).length ≤ 1
  | 0 => pconst1_PB
  | i + 1 => by
    obtain ⟨h1, h2⟩ := ppow_const hp hl i
    obtain ⟨h3, h4⟩ := pmul_bound h1 hp
    have e1 : min (ppow p i).length p.length * (2 + 5 * i + 5) ≤ 1 * (2 + 5 * i + 5) := Nat.mul_le_mul_right _ (by omega)
    have e2 : (ppow p i).length * p.length ≤ 1 * 1 := Nat.mul_le_mul h2 hl
    exact ⟨h3.mono (by omega) (by omega), by show (pmul _ _).length ≤ 1; omega⟩
theorem sum_nonneg' : ∀ (l : List Int), (∀ x ∈ l, 0 ≤ x) → 0 ≤ l.sum
  | [], _ => by simp
  | x :: l, h => by
    have := sum_nonneg' l (fun y hy => h y (by simp [hy]))
    have := h x (by simp)
    rw [List.sum_cons]; omega
theorem sum_zero : ∀ (l : List Int), (∀ x ∈ l, 0 ≤ x) → l.sum ≤ 0 → ∀ x ∈ l, x ≤ 0
  | [], _, _, x, hx => by cases hx
  | y :: l, h, hs, x, hx => by
    have h1 := sum_nonneg' l (fun z hz => h z (by simp [hz]))
    have h2 := h y (by simp)
    rw [List.sum_cons] at hs
    rcases List.mem_cons.1 hx with rfl | hx
    · omega
    · exact sum_zero l (fun z hz => h z (by simp [hz])) (by omega) x hx
theorem pdeg_ge : ∀ (p : List Tm) (d : Int), d ≤ p.foldl (fun d t => max d (degM t.2)) d ∧ ∀ t ∈ p, degM t.2 ≤ p.foldl (fun d t => max d (degM t.2)) d
  | [], d => ⟨Int.le_refl _, by simp⟩
  | s :: p, d => by
    obtain ⟨h1, h2⟩ := pdeg_ge p (max d (degM s.2))
    rw [List.foldl_cons]
    refine ⟨by omega, fun t ht => ?_⟩
    rcases List.mem_cons.1 ht with rfl | ht
    · omega
    · exact h2 t ht
theorem deg0_PB {p : List Tm} {K E : Nat} (hp : PB K E p) (h : pdeg p ≤ 0) : PB K 0 p := fun t ht => by
  have h1 := hp t ht
  have h2 := (pdeg_ge p (-1)).2 t ht
  exact ⟨h1.c, ⟨h1.m.len, h1.m.lo, fun x hx => sum_zero t.2 h1.m.lo (by show degM t.2 ≤ 0; exact Int.le_trans h2 h) x hx⟩, h1.l⟩
theorem PolyPowers_walk {p : List RTm} {n : Int} {k : Nat} (hb : ∀ t ∈ p, RB k t) (hk1 : 1 ≤ k) (hk : k < 2 ^ 36) (hl : p.length < 2 ^ 40) :
    FnSpec Tryz.prog 3 [PV.rpoly p, .int .i64 n] (· = .bool true) := by
  refine fn_of_vc mixed Tryz.func3 rfl c3_ok (by simp [c3]) fun C hP => ?_; simp only [c3]
  simp +decide (disch := first | omega | rfl | (simp +decide only [go_sem, ↓reduceIte] <;> rfl) | fail) only [go_sem, ↓reduceIte, rem64K, quo64K, remI64K, quoI64K, mulK64, mk_empty, sl_3n, app_nil_map, mk_i64, max_nat]
  refine call_eq0 hP (r6_Small_spec (n := 3) (v := 3) (e := (8 : Nat)) hb hk1 hk hl) rfl rfl rfl ?_
  simp +decide (disch := first | omega | rfl | (simp +decide only [go_sem, ↓reduceIte] <;> rfl) | fail) only [go_sem, ↓reduceIte, rem64K, quo64K, remI64K, quoI64K, mulK64, mk_empty, sl_3n, app_nil_map, mk_i64, max_nat]
  cases hsm : small 3 3 (8 : Nat) p
  · simp +decide (disch := first | omega | rfl | (simp +decide only [go_sem, ↓reduceIte] <;> rfl) | fail) only [go_sem, ↓reduceIte, rem64K, quo64K, remI64K, quoI64K, mulK64, mk_empty, sl_3n, app_nil_map, mk_i64, max_nat]
    refine call_eq0 hP alive_spec rfl rfl rfl ?_
    simp +decide (disch := first | omega | rfl | (simp +decide only [go_sem, ↓reduceIte] <;> rfl) | fail) only [go_sem, ↓reduceIte, rem64K, quo64K, remI64K, quoI64K, mulK64, mk_empty, sl_3n, app_nil_map, mk_i64, max_nat]
    exact retV_eq rfl rfl
  obtain ⟨_, e1, _, v1, b1, l1⟩ := small_spec hb hsm
  rw [e1]
  clear e1
  generalize p.map RTm.tm = P at *
  have nP := v1.nrm
  simp +decide (disch := first | omega | rfl | (simp +decide only [go_sem, ↓reduceIte] <;> rfl) | fail) only [go_sem, ↓reduceIte, rem64K, quo64K, remI64K, quoI64K, mulK64, mk_empty, sl_3n, app_nil_map, mk_i64, max_nat]
  refine guard_split (fun h6 => ?_) (fun h6 => ?_)
  · simp +decide (disch := first | omega | rfl | (simp +decide only [go_sem, ↓reduceIte] <;> rfl) | fail) only [go_sem, ↓reduceIte, rem64K, quo64K, remI64K, quoI64K, mulK64, mk_empty, sl_3n, app_nil_map, mk_i64, max_nat]
    refine guard_split (fun h4 => ?_) (fun h4 => ?_)
    · simp +decide (disch := first | omega | rfl | (simp +decide only [go_sem, ↓reduceIte] <;> rfl) | fail) only [go_sem, ↓reduceIte, rem64K, quo64K, remI64K, quoI64K, mulK64, mk_empty, sl_3n, app_nil_map, mk_i64, max_nat]
      refine guard_splitF (fun h7 => ?_) (fun h7 => ?_)
      · simp +decide (disch := first | omega | rfl | (simp +decide only [go_sem, ↓reduceIte] <;> rfl) | fail) only [go_sem, ↓reduceIte, rem64K, quo64K, remI64K, quoI64K, mulK64, mk_empty, sl_3n, app_nil_map, mk_i64, max_nat]
        refine call_eq0 hP alive_spec rfl rfl rfl ?_
        simp +decide (disch := first | omega | rfl | (simp +decide only [go_sem, ↓reduceIte] <;> rfl) | fail) only [go_sem, ↓reduceIte, rem64K, quo64K, remI64K, quoI64K, mulK64, mk_empty, sl_3n, app_nil_map, mk_i64, max_nat]
        exact retV_eq rfl rfl
      simp +decide (disch := first | omega | rfl | (simp +decide only [go_sem, ↓reduceIte] <;> rfl) | fail) only [go_sem, ↓reduceIte, rem64K, quo64K, remI64K, quoI64K, mulK64, mk_empty, sl_3n, app_nil_map, mk_i64, max_nat]
      refine guard_splitF (fun h8 => ?_) (fun h8 => ?_)
      · simp +decide (disch := first | omega | rfl | (simp +decide only [go_sem, ↓reduceIte] <;> rfl) | fail) only [go_sem, ↓reduceIte, rem64K, quo64K, remI64K, quoI64K, mulK64, mk_empty, sl_3n, app_nil_map, mk_i64, max_nat]
        refine call_eq0 hP alive_spec rfl rfl rfl ?_
        simp +decide (disch := first | omega | rfl | (simp +decide only [go_sem, ↓reduceIte] <;> rfl) | fail) only [go_sem, ↓reduceIte, rem64K, quo64K, remI64K, quoI64K, mulK64, mk_empty, sl_3n, app_nil_map, mk_i64, max_nat]
        exact retV_eq rfl rfl
      simp +decide (disch := first | omega | rfl | (simp +decide only [go_sem, ↓reduceIte] <;> rfl) | fail) only [go_sem, ↓reduceIte, rem64K, quo64K, remI64K, quoI64K, mulK64, mk_empty, sl_3n, app_nil_map, mk_i64, max_nat]
      refine call_eq0 hP (r6_Degree_spec b1 (by omega) (by omega)) rfl rfl rfl ?_
      simp +decide (disch := first | omega | rfl | (simp +decide only [go_sem, ↓reduceIte] <;> rfl) | fail) only [go_sem, ↓reduceIte, rem64K, quo64K, remI64K, quoI64K, mulK64, mk_empty, sl_3n, app_nil_map, mk_i64, max_nat]
      refine cond_split (fun h9 => ?_) (fun h9 => ?_)
      · simp +decide (disch := first | omega | rfl | (simp +decide only [go_sem, ↓reduceIte] <;> rfl) | fail) only [go_sem, ↓reduceIte, rem64K, quo64K, remI64K, quoI64K, mulK64, mk_empty, sl_3n, app_nil_map, mk_i64, max_nat]
        refine call_eq0 hP alive_spec rfl rfl rfl ?_
        simp +decide (disch := first | omega | rfl | (simp +decide only [go_sem, ↓reduceIte] <;> rfl) | fail) only [go_sem, ↓reduceIte, rem64K, quo64K, remI64K, quoI64K, mulK64, mk_empty, sl_3n, app_nil_map, mk_i64, max_nat]
        exact retV_eq rfl rfl
      obtain ⟨m, rfl⟩ : ∃ m : Nat, n = m := ⟨n.toNat, by omega⟩
      have b0 := deg0_PB b1 (by omega)
      have hboth : PowBoth P m := powBoth_ok (K := 2100) (E := 0) (L := 1) (by omega) (b0.mono (by omega) (by omega)) nP (fun i hi => ⟨(ppow_const b0 (by omega) i).1.mono (by omega) (by omega), (ppow_const b0 (by omega) i).2⟩) (by omega) (by omega) (by omega) (by omega)
      simp +decide (disch := first | omega | rfl | (simp +decide only [go_sem, ↓reduceIte] <;> rfl) | fail) only [go_sem, ↓reduceIte, rem64K, quo64K, remI64K, quoI64K, mulK64, mk_empty, sl_3n, app_nil_map, mk_i64, max_nat]
      obtain ⟨A, e, K, E, hA, hK, hE, hAl, s1, s2⟩ := hboth
      refine call_eq0 hP s1 rfl rfl rfl ?_
      simp +decide (disch := first | omega | rfl | (simp +decide only [go_sem, ↓reduceIte] <;> rfl) | fail) only [go_sem, ↓reduceIte, rem64K, quo64K, remI64K, quoI64K, mulK64, mk_empty, sl_3n, app_nil_map, mk_i64, max_nat]
      refine call_eq0 hP s2 rfl rfl rfl ?_
      simp +decide (disch := first | omega | rfl | (simp +decide only [go_sem, ↓reduceIte] <;> rfl) | fail) only [go_sem, ↓reduceIte, rem64K, quo64K, remI64K, quoI64K, mulK64, mk_empty, sl_3n, app_nil_map, mk_i64, max_nat]
      refine call_eq0 hP (r6_Equal_spec hA hA hK hE hAl hAl) rfl rfl rfl ?_
      rw [decide_eq_true (p := A = A) rfl]
      simp +decide (disch := first | omega | rfl | (simp +decide only [go_sem, ↓reduceIte, decide_true] <;> rfl) | fail) only [go_sem, ↓reduceIte, rem64K, quo64K, remI64K, quoI64K, mulK64, mk_empty, sl_3n, app_nil_map, mk_i64, max_nat, decide_true]
      refine call_eq0 hP alive_spec rfl rfl rfl ?_
      simp +decide (disch := first | omega | rfl | (simp +decide only [go_sem, ↓reduceIte] <;> rfl) | fail) only [go_sem, ↓reduceIte, rem64K, quo64K, remI64K, quoI64K, mulK64, mk_empty, sl_3n, app_nil_map, mk_i64, max_nat]
      exact retV_eq rfl rfl
    · have hboth : PowBoth P n := powBoth_bad (.inr (by omega))
      simp +decide (disch := first | omega | rfl | (simp +decide only [go_sem, ↓reduceIte] <;> rfl) | fail) only [go_sem, ↓reduceIte, rem64K, quo64K, remI64K, quoI64K, mulK64, mk_empty, sl_3n, app_nil_map, mk_i64, max_nat]
      obtain ⟨A, e, K, E, hA, hK, hE, hAl, s1, s2⟩ := hboth
      refine call_eq0 hP s1 rfl rfl rfl ?_
      simp +decide (disch := first | omega | rfl | (simp +decide only [go_sem, ↓reduceIte] <;> rfl) | fail) only [go_sem, ↓reduceIte, rem64K, quo64K, remI64K, quoI64K, mulK64, mk_empty, sl_3n, app_nil_map, mk_i64, max_nat]
      refine call_eq0 hP s2 rfl rfl rfl ?_
      simp +decide (disch := first | omega | rfl | (simp +decide only [go_sem, ↓reduceIte] <;> rfl) | fail) only [go_sem, ↓reduceIte, rem64K, quo64K, remI64K, quoI64K, mulK64, mk_empty, sl_3n, app_nil_map, mk_i64, max_nat]
      refine call_eq0 hP (r6_Equal_spec hA hA hK hE hAl hAl) rfl rfl rfl ?_
      rw [decide_eq_true (p := A = A) rfl]
      simp +decide (disch := first | omega | rfl | (simp +decide only [go_sem, ↓reduceIte, decide_true] <;> rfl) | fail) only [go_sem, ↓reduceIte, rem64K, quo64K, remI64K, quoI64K, mulK64, mk_empty, sl_3n, app_nil_map, mk_i64, max_nat, decide_true]
      refine call_eq0 hP alive_spec rfl rfl rfl ?_
      simp +decide (disch := first | omega | rfl | (simp +decide only [go_sem, ↓reduceIte] <;> rfl) | fail) only [go_sem, ↓reduceIte, rem64K, quo64K, remI64K, quoI64K, mulK64, mk_empty, sl_3n, app_nil_map, mk_i64, max_nat]
      exact retV_eq rfl rfl
  · have hboth : PowBoth P n := by
      by_cases h0 : n < 0
      · exact powBoth_bad (.inl h0)
      · obtain ⟨m, rfl⟩ : ∃ m : Nat, n = m := ⟨n.toNat, by omega⟩
        exact powBoth_ok (K := 7000) (E := 48) (L := 729) (by omega) (b1.mono (by omega) (by omega)) nP (fun i hi => by
          obtain ⟨h1, h2⟩ := ppow_small b1 l1 i
          obtain ⟨h3, h4⟩ := kk_le (i := i) (by omega)
          exact ⟨h1.mono (by omega) (by omega), by omega⟩) (by omega) (by omega) (by omega) (by omega)
    simp +decide (disch := first | omega | rfl | (simp +decide only [go_sem, ↓reduceIte] <;> rfl) | fail) only [go_sem, ↓reduceIte, rem64K, quo64K, remI64K, quoI64K, mulK64, mk_empty, sl_3n, app_nil_map, mk_i64, max_nat]
    obtain ⟨A, e, K, E, hA, hK, hE, hAl, s1, s2⟩ := hboth
    refine call_eq0 hP s1 rfl rfl rfl ?_
    simp +decide (disch := first | omega | rfl | (simp +decide only [go_sem, ↓reduceIte] <;> rfl) | fail) only [go_sem, ↓reduceIte, rem64K, quo64K, remI64K, quoI64K, mulK64, mk_empty, sl_3n, app_nil_map, mk_i64, max_nat]
    refine call_eq0 hP s2 rfl rfl rfl ?_
    simp +decide (disch := first | omega | rfl | (simp +decide only [go_sem, ↓reduceIte] <;> rfl) | fail) only [go_sem, ↓reduceIte, rem64K, quo64K, remI64K, quoI64K, mulK64, mk_empty, sl_3n, app_nil_map, mk_i64, max_nat]
    refine call_eq0 hP (r6_Equal_spec hA hA hK hE hAl hAl) rfl rfl rfl ?_
    rw [decide_eq_true (p := A = A) rfl]
    simp +decide (disch := first | omega | rfl | (simp +decide only [go_sem, ↓reduceIte, decide_true] <;> rfl) | fail) only [go_sem, ↓reduceIte, rem64K, quo64K, remI64K, quoI64K, mulK64, mk_empty, sl_3n, app_nil_map, mk_i64, max_nat, decide_true]
    refine call_eq0 hP alive_spec rfl rfl rfl ?_
    simp +decide (disch := first | omega | rfl | (simp +decide only [go_sem, ↓reduceIte] <;> rfl) | fail) only [go_sem, ↓reduceIte, rem64K, quo64K, remI64K, quoI64K, mulK64, mk_empty, sl_3n, app_nil_map, mk_i64, max_nat]
    exact retV_eq rfl rfl
theorem PolyPowers_all {p : List RTm} {n : Int} (hp : RPoly p) (hn : -9223372036854775808 ≤ n ∧ n ≤ 9223372036854775807) : FnSpec Tryz.prog 3 [PV.rpoly p, .int .i64 n] (· = .bool true) :=
  PolyPowers_walk (k := 1048576) (fun t ht => (hp.2 t ht).1) (by omega) (by omega) (by have := hp.1; omega)
end Go.Proofs.YtfhmockdgbkpnaaGreat
namespace Go.Proofs.YtfhmockdgbkpnaaGreat
open Go Go.FW Go.ChangeShapes Go.WideShapes Go.ChangeAt Go.RowKit
set_option linter.unusedSimpArgs false
set_option linter.unusedVariables false
set_option maxRecDepth 100000
theorem polyPowers_contract (H : Type) (enc : TypeId × Value → H) (W : World) (base : Nat) (args : Array Value) (ds gs : List (DataW H)) (before : List MemPlace)
    (hval : ∀ (j : Nat) t v, Tryz.f3.params[j]? = some t → args[j]? = some v → Value.okWide Tryz.prog W .any base t v)
    (hW : DataW.Whole enc Tryz.prog Tryz.f3.params.toList Rows.polyPowersSpec.vars false W args.toList ds gs before) (hk : Rows.uptoSmall H (ds ++ gs) = true) :
    Calls Tryz.prog 3 args W fun e W' => ∃ v, e = .returned v ∧ Rows.polyPowersSpec.post enc Tryz.prog Tryz.f3 false true false false W args v W' := by
  have hW' := hW
  obtain ⟨p, q, hA0, hV, rfl, hfz, hnd⟩ := hW
  have hA : DataW.TrodAll enc Tryz.prog W 0 (fun _ => true) true Tryz.f3.params.toList args.toList ds p := hA0
  rw [Tryz.params3] at hA hval
  obtain ⟨v0, vs0, e0, ds0, p0, q0, hargs, rfl, rfl, h0, r0⟩ := trodAll_cons hA
  obtain ⟨v1, vs1, e1, ds1, p1, q1, rfl, rfl, rfl, h1, r1⟩ := trodAll_cons r0
  obtain ⟨rfl, rfl, rfl⟩ := trodAll_nil r1
  obtain rfl : args = #[v0, v1] := by cases args; simp_all
  obtain ⟨rfl, rfl⟩ := trodVars_none hV
  have hb := bulk_all hk
  simp only [List.append_nil, Rows.uptoBulkAll] at hb
  obtain ⟨a0, g0, b0⟩ := arg_poly (hval 0 _ v0 rfl rfl) h0 (by omega)
  obtain ⟨a1, g1, b1⟩ := arg_i64 (hval 1 _ v1 rfl rfl) h1 (by omega)
  exact post_true hW' rfl (by kernel_rfl) (by kernel_rfl) rfl (PolyPowers_all b0 b1) rfl
    (rep_list (vs := [v0, v1]) (by
      intro i x hx v hv
      match i, hx, hv with
      | 0, hx, hv => simp at hx hv; subst hx hv; exact g0
      | 1, hx, hv => simp at hx hv; subst hx hv; exact g1
      | i + 2, hx, hv => simp at hx) rfl)
theorem polyPowers_lifted (os : Os) (started : os.Started) (H : Type) (enc : TypeId × Value → H) (F : Stop.Interp) :
    ReturnsInHanded {} Tryz.checked os 3 .any ((Rows.OpenSpec.upto Rows.polyPowersSpec).pre6 enc Tryz.prog Tryz.f3 Rows.polyPowersUptoRow.domain false) (((Rows.OpenSpec.upto Rows.polyPowersSpec).at F).post enc Tryz.prog Tryz.f3 false true false false) := by
  refine returnsInHanded_of_cond (C := Tryz.checked) (s := Rows.OpenSpec.upto Rows.polyPowersSpec) (k := Rows.uptoSmall) rfl own started (by kernel_rfl) Tryz.func3
    (OpenSpec.witness (enc := enc) (C := Tryz.checked) (s := Rows.OpenSpec.upto Rows.polyPowersSpec) (k := Rows.uptoSmall) rfl false ⟨#[], #[.slice none 0 0, .int .i64 0], []⟩ 8 (by kernel_rfl) (by kernel_rfl) (by kernel_rfl)
      (x := ([.nil, .lit (.int .i64 0)], [], [])) (by kernel_rfl) rfl (by kernel_rfl)) ?_
  intro W base args ds gs before hval hW _ hk _
  exact polyPowers_contract H enc W base args ds gs before hval hW hk
theorem polyPowers_proved : Rows.PolyPowersUptoSaid :=
  OpenClaim.holds_of_cond 3 Tryz.f3 rfl rfl rfl rfl rfl rfl rfl ⟨rfl, rfl, rfl, rfl, rfl⟩ rfl rfl rfl rfl rfl (by kernel_rfl) Tryz.func3 (by kernel_rfl)
    (of_decide_eq_true (by kernel_rfl)) (by unfold Func.isWrapper; first | (rw [if_pos (by decide +kernel)]; kernel_rfl) | (rw [if_neg (by decide +kernel)]; exact ⟨rfl, rfl⟩))
    (fun os started H enc _ F => polyPowers_lifted os started H enc F)
end Go.Proofs.YtfhmockdgbkpnaaGreat
