/- Part 8 of the proof of PolyForms: U8, FwSF. Own lemmas; no conditions. -/
import Derived.Test.YtfhmockdgbkpnaaGreatPolyFormsPart7
set_option linter.unusedSimpArgs false
set_option linter.unnecessarySimpa false
set_option linter.unusedVariables false
namespace Go.Proofs.YtfhmockdgbkpnaaGreat
open Go Go.FW
set_option linter.unusedSimpArgs false
set_option linter.unusedVariables false
set_option maxRecDepth 100000
theorem r6_zeros_spec {a m : List Int} (hla : a.length < 2 ^ 42) (hlm : m.length < 2 ^ 42) : FnSpec Tryz.prog 97 [PV.mono a, PV.mono m] (· = .bool (zerosOk a m)) := by
  refine fn_of_vc mixed Tryz.func97 rfl c97_ok (by simp [c97]) fun C hP => ?_; simp only [c97]
  simp +decide (disch := first | omega | rfl | (simp +decide only [go_sem, ↓reduceIte] <;> rfl) | fail) only [go_sem, ↓reduceIte, rem64K, quo64K, remI64K, quoI64K, mulK64, mk_empty, sl_3n, app_nil_map, mk_i64, max_nat]
  refine vc_loopF (by repeat (first | exact okSk_ret | exact okSk_retM | exact okSk_retO | apply okSk_back | apply okSk_out | apply okSk_eb | apply okSk_c | apply okSk_o | apply okSk_again | apply okSk_backW)) [(4, 19)] [] (fun n J hp => ∃ i, n = a.length - i ∧ i ≤ a.length ∧ (∀ j, j < i → eN a j = eN m j) ∧ J 5 = .int .i64 (i : Nat)) a.length ?_ ?_
  · refine ⟨0, rfl, by omega, by omega, ?_⟩
    simp +decide (disch := first | omega | rfl | (simp +decide only [go_sem, ↓reduceIte] <;> rfl) | fail) only [go_sem, ↓reduceIte, rem64K, quo64K, remI64K, quoI64K, mulK64, mk_empty, sl_3n, app_nil_map, mk_i64, max_nat]
    rfl
  rintro _ J h ⟨i, rfl, hi, h1, h5⟩
  simp +decide (disch := first | omega | rfl | (simp +decide only [go_sem, ↓reduceIte, h5] <;> rfl) | fail) only [go_sem, ↓reduceIte, rem64K, quo64K, remI64K, quoI64K, mulK64, mk_empty, sl_3n, app_nil_map, mk_i64, max_nat, h5]
  refine cond_split (fun hg => ?_) (fun hg => ?_)
  · have hi' : i < a.length := by omega
    have he := eN_lt hi'
    generalize hx : a[i] = x at *
    simp +decide (disch := first | omega | rfl | (simp +decide only [go_sem, ↓reduceIte, h5, hx] <;> rfl) | fail) only [go_sem, ↓reduceIte, rem64K, quo64K, remI64K, quoI64K, mulK64, mk_empty, sl_3n, app_nil_map, mk_i64, max_nat, h5, hx]
    refine call_eq0 hP (r5_Exp_nat hlm) rfl rfl rfl ?_
    simp +decide (disch := first | omega | rfl | (simp +decide only [go_sem, ↓reduceIte, h5, hx] <;> rfl) | fail) only [go_sem, ↓reduceIte, rem64K, quo64K, remI64K, quoI64K, mulK64, mk_empty, sl_3n, app_nil_map, mk_i64, max_nat, h5, hx]
    refine cond_split (fun hc => ?_) (fun hc => ?_)
    · simp +decide (disch := first | omega | rfl | (simp +decide only [go_sem, ↓reduceIte] <;> rfl) | fail) only [go_sem, ↓reduceIte, rem64K, quo64K, remI64K, quoI64K, mulK64, mk_empty, sl_3n, app_nil_map, mk_i64, max_nat]
      refine retV_eq (congrArg PV.bool ?_) rfl
      cases hz : zerosOk a m with
      | false => rfl
      | true => rw [zerosOk_iff] at hz; have := hz i hi'; rw [he] at this; exact absurd this hc
    · simp +decide (disch := first | omega | rfl | (simp +decide only [go_sem, ↓reduceIte, h5] <;> rfl) | fail) only [go_sem, ↓reduceIte, rem64K, quo64K, remI64K, quoI64K, mulK64, mk_empty, sl_3n, app_nil_map, mk_i64, max_nat, h5]
      refine back_ovr (a.length - (i + 1)) (by omega) ⟨i + 1, rfl, by omega, fun j hj => ?_, ?_⟩
      · by_cases hji : j = i
        · subst hji; rw [he]; exact Decidable.not_not.1 hc
        · exact h1 j (by omega)
      · simp +decide (disch := first | omega | rfl | (simp +decide only [go_sem, ↓reduceIte] <;> rfl) | fail) only [go_sem, ↓reduceIte, rem64K, quo64K, remI64K, quoI64K, mulK64, mk_empty, sl_3n, app_nil_map, mk_i64, max_nat]
  · obtain rfl : i = a.length := by omega
    simp +decide (disch := first | omega | rfl | (simp +decide only [go_sem, ↓reduceIte] <;> rfl) | fail) only [go_sem, ↓reduceIte, rem64K, quo64K, remI64K, quoI64K, mulK64, mk_empty, sl_3n, app_nil_map, mk_i64, max_nat]
    exact retV_eq (congrArg PV.bool (zerosOk_iff.2 h1).symm) rfl
theorem r6_Norm_spec {l : List RTm} {k : Nat} (hb : ∀ t ∈ l, RB k t) (hk1 : 1 ≤ k) (hk : k ≤ 2 ^ 24) (hll : l.length ≤ 100) : FnSpec Tryz.prog 46 [PV.rpoly l] (· = PV.poly (pnormR l)) := by
  have hrs : ∀ t ∈ l, rs t.q ≤ k := fun t ht => (RB.raw (hb t ht) hk1).rs
  have hbnd : ∀ i, PB (i * (k + 1)) 1048576 (pnormR (l.take i)) ∧ (pnormR (l.take i)).length ≤ i := fun i => by
    have e : (l.take i).length ≤ i := List.length_take_le _ _
    obtain ⟨h1, h2⟩ := pnorm_bound (l := l.take i) (k := k) (fun t ht => hrs t (List.mem_of_mem_take ht))
    rw [pnormR_eq]
    exact ⟨h1.mono (Nat.mul_le_mul_right _ e) (Nat.le_refl _), by omega⟩
  refine fn_of_vc mixed Tryz.func46 rfl c46_ok (by simp [c46]) fun C hP => ?_; simp only [c46]
  simp +decide (disch := first | omega | rfl | (simp +decide only [go_sem, ↓reduceIte] <;> rfl) | fail) only [go_sem, ↓reduceIte, rem64K, quo64K, remI64K, quoI64K, mulK64, mk_empty, sl_3n, app_nil_map, mk_i64, max_nat]
  refine vc_nilD 3 4 (by simp +decide (disch := first | omega | rfl | (simp +decide only [go_sem, ↓reduceIte] <;> rfl) | fail) only [go_sem, ↓reduceIte, rem64K, quo64K, remI64K, quoI64K, mulK64, mk_empty, sl_3n, app_nil_map, mk_i64, max_nat]) ?_
  refine vc_loopF (by repeat (first | exact okSk_ret | exact okSk_retM | exact okSk_retO | apply okSk_back | apply okSk_out | apply okSk_eb | apply okSk_c | apply okSk_o | apply okSk_again | apply okSk_backW)) [(3, 32)] [] (fun n J hp => ∃ i, n = l.length - i ∧ i ≤ l.length ∧ J 3 = PV.poly (pnormR (l.take i)) ∧ J 4 = .int .i64 (i : Nat)) l.length ?_ ?_
  · refine ⟨0, rfl, by omega, ?_⟩
    simp +decide (disch := first | omega | rfl | (simp +decide only [go_sem, ↓reduceIte] <;> rfl) | fail) only [go_sem, ↓reduceIte, rem64K, quo64K, remI64K, quoI64K, mulK64, mk_empty, sl_3n, app_nil_map, mk_i64, max_nat]
    simp [pnormR, nterms]
  rintro _ J h ⟨i, rfl, hi, h3, h4⟩
  simp +decide (disch := first | omega | rfl | (simp +decide only [go_sem, ↓reduceIte, h3, h4] <;> rfl) | fail) only [go_sem, ↓reduceIte, rem64K, quo64K, remI64K, quoI64K, mulK64, mk_empty, sl_3n, app_nil_map, mk_i64, max_nat, h3, h4]
  refine cond_split (fun hg => ?_) (fun hg => ?_)
  · have hi' : i < l.length := by omega
    have hbt := hb _ (List.getElem_mem hi')
    have htk := pnormR_take hi'
    obtain ⟨hb1, hb2⟩ := hbnd i
    have hnr := pnormR_nrm (l.take i)
    have hik : i * (k + 1) ≤ 100 * (2 ^ 24 + 1) := Nat.mul_le_mul (by omega) (by omega)
    generalize hx : l[i] = x at *
    have hml := hbt.l
    have hz := zerosOk_norm x.m
    have htl := trimI_length x.m
    simp +decide (disch := first | omega | rfl | (simp +decide only [go_sem, ↓reduceIte, h3, h4, hx] <;> rfl) | fail) only [go_sem, ↓reduceIte, rem64K, quo64K, remI64K, quoI64K, mulK64, mk_empty, sl_3n, app_nil_map, mk_i64, max_nat, h3, h4, hx]
    refine call_eq0 hP (r5_Norm_spec (by omega)) rfl rfl rfl ?_
    simp +decide (disch := first | omega | rfl | (simp +decide only [go_sem, ↓reduceIte, h3, h4, hx] <;> rfl) | fail) only [go_sem, ↓reduceIte, rem64K, quo64K, remI64K, quoI64K, mulK64, mk_empty, sl_3n, app_nil_map, mk_i64, max_nat, h3, h4, hx]
    refine call_eq0 hP (r6_zeros_spec (m := if monoOk (trimI x.m) = true then trimI x.m else []) (by omega) (by split <;> simp <;> omega)) rfl rfl rfl ?_
    rw [hz]
    simp +decide (disch := first | omega | rfl | (simp +decide only [go_sem, ↓reduceIte, h3, h4, hx] <;> rfl) | fail) only [go_sem, ↓reduceIte, rem64K, quo64K, remI64K, quoI64K, mulK64, mk_empty, sl_3n, app_nil_map, mk_i64, max_nat, h3, h4, hx]
    cases hmo : monoOk (trimI x.m)
    · rw [nterm_none hmo] at htk
      simp +decide (disch := first | omega | rfl | (simp +decide only [go_sem, ↓reduceIte, h3, h4, hx] <;> rfl) | fail) only [go_sem, ↓reduceIte, rem64K, quo64K, remI64K, quoI64K, mulK64, mk_empty, sl_3n, app_nil_map, mk_i64, max_nat, h3, h4, hx]
      refine back_ovr (l.length - (i + 1)) (by omega) ⟨i + 1, rfl, by omega, ?_⟩
      rw [htk]
      simp +decide (disch := first | omega | rfl | (simp +decide only [go_sem, ↓reduceIte, h3] <;> rfl) | fail) only [go_sem, ↓reduceIte, rem64K, quo64K, remI64K, quoI64K, mulK64, mk_empty, sl_3n, app_nil_map, mk_i64, max_nat, h3]
      rfl
    · rw [nterm_some hmo] at htk
      simp +decide (disch := first | omega | rfl | (simp +decide only [go_sem, ↓reduceIte, h3, h4, hx] <;> rfl) | fail) only [go_sem, ↓reduceIte, rem64K, quo64K, remI64K, quoI64K, mulK64, mk_empty, sl_3n, app_nil_map, mk_i64, max_nat, h3, h4, hx]
      refine call_eq0 hP (r6_add_spec hb1 hnr.s hnr.z (RB.raw hbt hk1) (by omega) (MB.ofOk hmo) (monoOk_last hmo) (by omega) (by omega) (by omega)) rfl rfl rfl ?_
      simp +decide (disch := first | omega | rfl | (simp +decide only [go_sem, ↓reduceIte, h3, h4, hx] <;> rfl) | fail) only [go_sem, ↓reduceIte, rem64K, quo64K, remI64K, quoI64K, mulK64, mk_empty, sl_3n, app_nil_map, mk_i64, max_nat, h3, h4, hx]
      refine back_ovr (l.length - (i + 1)) (by omega) ⟨i + 1, rfl, by omega, ?_⟩
      rw [htk]
      simp +decide (disch := first | omega | rfl | (simp +decide only [go_sem, ↓reduceIte, h3] <;> rfl) | fail) only [go_sem, ↓reduceIte, rem64K, quo64K, remI64K, quoI64K, mulK64, mk_empty, sl_3n, app_nil_map, mk_i64, max_nat, h3]
      rfl
  · obtain rfl : i = l.length := by omega
    rw [List.take_length] at h3
    simp +decide (disch := first | omega | rfl | (simp +decide only [go_sem, ↓reduceIte, h3] <;> rfl) | fail) only [go_sem, ↓reduceIte, rem64K, quo64K, remI64K, quoI64K, mulK64, mk_empty, sl_3n, app_nil_map, mk_i64, max_nat, h3]
    exact retV_eq rfl rfl
end Go.Proofs.YtfhmockdgbkpnaaGreat
namespace Go.FW
open Go
theorem ratOk_of (q : Rat) : ratOk (decide (q.num < 0)) (dig q.num.natAbs) (dig q.den) = true := by
  simp only [ratOk, intOk, Bool.and_eq_true, decide_eq_true_eq]
  refine ⟨?_, ⟨?_, last_dig _⟩, ?_⟩
  · split
    · rename_i h
      rw [dig_eq_nil] at h
      have : ¬ q.num < 0 := by omega
      simp [this]
    · exact decide_eq_true (last_dig _)
  · rw [ne_eq, dig_eq_nil]; exact q.den_nz
  · rw [val_dig, val_dig]; exact q.reduced
def toR (t : Tm) : RTm := ⟨decide (t.1.num < 0), dig t.1.num.natAbs, dig t.1.den, t.2⟩
theorem toR_poly (p : List Tm) : PV.rpoly (p.map toR) = PV.poly p := by
  show PV.sl 4 ((p.map toR).map PV.rterm) = PV.sl 4 (p.map PV.term)
  rw [List.map_map]; rfl
theorem rOk_toR {t : Tm} (h : TV t) : rOk (toR t) = true := by
  have e : (toR t).q = t.1 := by show rv _ _ _ = _; rw [toR, rv_of]
  simp only [rOk, Bool.and_eq_true, decide_eq_true_eq]
  exact ⟨ratOk_of t.1, by rw [e]; exact h.c, h.m⟩
theorem prOk_toR : ∀ {p : List Tm}, PVd p → prOk (p.map toR) = true
  | [], _ => rfl
  | [t], h => by show rOk (toR t) = true; exact rOk_toR (h.t t (by simp))
  | s :: t :: p, h => by
    have h1 := rOk_toR (h.t s (by simp))
    have h2 : 0 < cmpM (toR s).m (toR t).m := h.s.1 t (by simp)
    have h3 := prOk_toR (p := t :: p) ⟨fun x hx => h.t x (by simp [hx]), h.s.2⟩
    show prOk (toR s :: toR t :: p.map toR) = true
    rw [prOk, h1, decide_eq_true h2]; exact h3
theorem RB_toR {t : Tm} {k : Nat} (h : rs t.1 ≤ k) (hm : t.2.length < 2 ^ 40) : RB k (toR t) := by
  have h1 : nl t.1.num.natAbs ≤ k := by unfold rs at h; omega
  have h2 : nl t.1.den ≤ k := by unfold rs at h; omega
  exact ⟨⟨limbs_dig _, limbs_dig _, h1, h2⟩, hm⟩
end Go.FW
