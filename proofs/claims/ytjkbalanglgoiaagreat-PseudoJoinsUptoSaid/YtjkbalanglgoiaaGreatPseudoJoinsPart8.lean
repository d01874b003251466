/- Part 8 of the proof of PseudoJoins: U3, CL, U4, U7, U8, U10, W4, W5, FwUD. Own lemmas; no conditions. -/
import Derived.Test.YtjkbalanglgoiaaGreatPseudoJoinsPart7
set_option linter.unusedSimpArgs false
set_option linter.unnecessarySimpa false
set_option linter.unusedVariables false
namespace Go.Proofs.YtjkbalanglgoiaaGreat
open Go Go.FW
set_option linter.unusedSimpArgs false
set_option linter.unusedVariables false
set_option maxRecDepth 100000
theorem r6_Right_raw {l : List RTm} {k : Nat} (hb : ∀ t ∈ l, RB k t) (hk1 : 1 ≤ k) (hk : k < 2 ^ 36) (hll : l.length < 2 ^ 40) : FnSpec Tryz.prog 39 [PV.rpoly l] (· = .bool (prOk l)) := by
  have hiff := prOk_iff l
  have bad : ∀ {b : Bool}, (b = true → False) → b = false := fun {b} h => by cases b <;> simp_all
  refine fn_of_vc mixed Tryz.func39 rfl c39_ok (by simp [c39]) fun C hP => ?_; simp only [c39]
  simp +decide (disch := first | omega | rfl | (simp +decide only [go_sem, ↓reduceIte] <;> rfl) | fail) only [go_sem, ↓reduceIte, rem64K, quo64K, remI64K, quoI64K, mulK64, mk_empty, sl_3n, app_nil_map, mk_i64, max_nat]
  refine vc_loopF (by repeat (first | exact okSk_ret | exact okSk_retM | exact okSk_retO | apply okSk_back | apply okSk_out | apply okSk_eb | apply okSk_c | apply okSk_o | apply okSk_again | apply okSk_backW)) [(2, 51)] [] (fun n J hp => ∃ i, n = l.length - i ∧ i ≤ l.length ∧ (∀ j (h : j < l.length), j < i → rOk l[j] = true) ∧ (∀ j (h : j + 1 < l.length), j + 1 < i → 0 < cmpM l[j].m l[j + 1].m) ∧ J 3 = .int .i64 (i : Nat)) l.length ?_ ?_
  · refine ⟨0, rfl, by omega, by omega, by omega, ?_⟩
    simp +decide (disch := first | omega | rfl | (simp +decide only [go_sem, ↓reduceIte] <;> rfl) | fail) only [go_sem, ↓reduceIte, rem64K, quo64K, remI64K, quoI64K, mulK64, mk_empty, sl_3n, app_nil_map, mk_i64, max_nat]
    rfl
  rintro _ J h ⟨i, rfl, hi, h1, h2, h7⟩
  simp +decide (disch := first | omega | rfl | (simp +decide only [go_sem, ↓reduceIte, h7] <;> rfl) | fail) only [go_sem, ↓reduceIte, rem64K, quo64K, remI64K, quoI64K, mulK64, mk_empty, sl_3n, app_nil_map, mk_i64, max_nat, h7]
  refine cond_split (fun hg => ?_) (fun hg => ?_)
  · have hi' : i < l.length := by omega
    have hbt := hb _ (List.getElem_mem hi')
    have hr := (RB.raw hbt hk1).rs
    have hml := hbt.l
    have hbadt : prOk l = true → rOk l[i] = true := fun h => (hiff.1 h).1 i hi'
    have hbadc : ∀ (j : Nat) (hj : j + 1 = i), prOk l = true → 0 < cmpM (l[j]'(by omega)).m l[i].m := fun j hj h => by subst hj; exact (hiff.1 h).2 j hi'
    have hadd1 : rOk l[i] = true → ∀ j (h : j < l.length), j < i + 1 → rOk l[j] = true := fun h j hj hji => by
      by_cases e : j = i
      · subst e; exact h
      · exact h1 j hj (by omega)
    have hprev : ∀ (j : Nat) (hj : j + 1 = i), MB 1048576 (l[j]'(by omega)).m := fun j hj => by
      have := h1 j (by omega) (by omega)
      simp only [rOk, Bool.and_eq_true] at this
      exact MB.ofOk this.2.2
    have hadd2 : (∀ (j : Nat) (hj : j + 1 = i), 0 < cmpM (l[j]'(by omega)).m l[i].m) → ∀ j (h : j + 1 < l.length), j + 1 < i + 1 → 0 < cmpM l[j].m l[j + 1].m := fun h j hj hji => by
      by_cases e : j + 1 = i
      · subst e; exact h j rfl
      · exact h2 j hj (by omega)
    generalize hx : l[i] = x at *
    have hr' : rs (rv x.n x.a x.d) < 2 ^ 36 := by omega
    simp +decide (disch := first | omega | rfl | (simp +decide only [go_sem, ↓reduceIte, h7, hx] <;> rfl) | fail) only [go_sem, ↓reduceIte, rem64K, quo64K, remI64K, quoI64K, mulK64, mk_empty, sl_3n, app_nil_map, mk_i64, max_nat, h7, hx]
    refine call_eq0 hP (r3_Right_spec (RB.raw hbt hk1) hk) rfl rfl rfl ?_
    simp +decide (disch := first | omega | rfl | (simp +decide only [go_sem, ↓reduceIte, h7] <;> rfl) | fail) only [go_sem, ↓reduceIte, rem64K, quo64K, remI64K, quoI64K, mulK64, mk_empty, sl_3n, app_nil_map, mk_i64, max_nat, h7]
    cases hok : ratOk x.n x.a x.d
    · have hf : prOk l = false := bad fun h => by have := hbadt h; simp [rOk, hok] at this
      simp +decide (disch := first | omega | rfl | (simp +decide only [go_sem, ↓reduceIte, h7, Bool.not_false] <;> rfl) | fail) only [go_sem, ↓reduceIte, rem64K, quo64K, remI64K, quoI64K, mulK64, mk_empty, sl_3n, app_nil_map, mk_i64, max_nat, h7, Bool.not_false]
      exact retV_eq (by rw [hf]) rfl
    simp +decide (disch := first | omega | rfl | (simp +decide only [go_sem, ↓reduceIte, h7, Bool.not_true, hx] <;> rfl) | fail) only [go_sem, ↓reduceIte, rem64K, quo64K, remI64K, quoI64K, mulK64, mk_empty, sl_3n, app_nil_map, mk_i64, max_nat, h7, Bool.not_true, hx]
    refine call_eq0 hP (r3_Sign_spec (RB.raw hbt hk1) hk) rfl rfl rfl ?_
    simp +decide (disch := first | omega | rfl | (simp +decide only [go_sem, ↓reduceIte, h7] <;> rfl) | fail) only [go_sem, ↓reduceIte, rem64K, quo64K, remI64K, quoI64K, mulK64, mk_empty, sl_3n, app_nil_map, mk_i64, max_nat, h7]
    refine guard_splitF (fun hz => ?_) (fun hz => ?_)
    · have hf : prOk l = false := bad fun h => by have := hbadt h; simp [rOk, RTm.q, sgnQ_zero.1 hz] at this
      simp +decide (disch := first | omega | rfl | (simp +decide only [go_sem, ↓reduceIte, h7] <;> rfl) | fail) only [go_sem, ↓reduceIte, rem64K, quo64K, remI64K, quoI64K, mulK64, mk_empty, sl_3n, app_nil_map, mk_i64, max_nat, h7]
      exact retV_eq (by rw [hf]) rfl
    simp +decide (disch := first | omega | rfl | (simp +decide only [go_sem, ↓reduceIte, h7, hx] <;> rfl) | fail) only [go_sem, ↓reduceIte, rem64K, quo64K, remI64K, quoI64K, mulK64, mk_empty, sl_3n, app_nil_map, mk_i64, max_nat, h7, hx]
    refine call_eq0 hP (r5_Right_spec (by omega)) rfl rfl rfl ?_
    simp +decide (disch := first | omega | rfl | (simp +decide only [go_sem, ↓reduceIte, h7] <;> rfl) | fail) only [go_sem, ↓reduceIte, rem64K, quo64K, remI64K, quoI64K, mulK64, mk_empty, sl_3n, app_nil_map, mk_i64, max_nat, h7]
    cases hmo : monoOk x.m
    · have hf : prOk l = false := bad fun h => by have := hbadt h; simp [rOk, hmo] at this
      simp +decide (disch := first | omega | rfl | (simp +decide only [go_sem, ↓reduceIte, h7, Bool.not_false] <;> rfl) | fail) only [go_sem, ↓reduceIte, rem64K, quo64K, remI64K, quoI64K, mulK64, mk_empty, sl_3n, app_nil_map, mk_i64, max_nat, h7, Bool.not_false]
      exact retV_eq (by rw [hf]) rfl
    have hrok : rOk x = true := by
      simp only [rOk, hok, hmo, Bool.true_and, Bool.and_true, decide_eq_true_eq]
      exact fun h => hz (sgnQ_zero.2 h)
    simp +decide (disch := first | omega | rfl | (simp +decide only [go_sem, ↓reduceIte, h7, Bool.not_true] <;> rfl) | fail) only [go_sem, ↓reduceIte, rem64K, quo64K, remI64K, quoI64K, mulK64, mk_empty, sl_3n, app_nil_map, mk_i64, max_nat, h7, Bool.not_true]
    refine guard_split (fun hi0 => ?_) (fun hi0 => ?_)
    · obtain ⟨j, rfl⟩ : ∃ j, i = j + 1 := ⟨i - 1, by omega⟩
      have e : ((j + 1 : Nat) : Int) - 1 = j := by omega
      have hjl : j < l.length := by omega
      have hpj := hprev j rfl
      have hbadj := hbadc j rfl
      have hadd2' : 0 < cmpM (l[j]'(by omega)).m x.m → ∀ j2 (h : j2 + 1 < l.length), j2 + 1 < j + 1 + 1 → 0 < cmpM l[j2].m l[j2 + 1].m := fun h => hadd2 (fun j' hj' => by
        obtain rfl : j' = j := by omega
        exact h)
      generalize hy : l[j]'(by omega) = y at *
      simp +decide (disch := first | omega | rfl | (simp +decide only [go_sem, ↓reduceIte, h7, e, hx, hy] <;> rfl) | fail) only [go_sem, ↓reduceIte, rem64K, quo64K, remI64K, quoI64K, mulK64, mk_empty, sl_3n, app_nil_map, mk_i64, max_nat, h7, e, hx, hy]
      refine call_eq0 hP (r5_lex hpj (MB.ofOk hmo) (by omega)) rfl rfl rfl ?_
      simp +decide (disch := first | omega | rfl | (simp +decide only [go_sem, ↓reduceIte, h7, e] <;> rfl) | fail) only [go_sem, ↓reduceIte, rem64K, quo64K, remI64K, quoI64K, mulK64, mk_empty, sl_3n, app_nil_map, mk_i64, max_nat, h7, e]
      refine cond_split (fun hc => ?_) (fun hc => ?_)
      · have hf : prOk l = false := bad fun h => by have := hbadj h; omega
        simp +decide (disch := first | omega | rfl | (simp +decide only [go_sem, ↓reduceIte, h7] <;> rfl) | fail) only [go_sem, ↓reduceIte, rem64K, quo64K, remI64K, quoI64K, mulK64, mk_empty, sl_3n, app_nil_map, mk_i64, max_nat, h7]
        exact retV_eq (by rw [hf]) rfl
      · simp +decide (disch := first | omega | rfl | (simp +decide only [go_sem, ↓reduceIte, h7] <;> rfl) | fail) only [go_sem, ↓reduceIte, rem64K, quo64K, remI64K, quoI64K, mulK64, mk_empty, sl_3n, app_nil_map, mk_i64, max_nat, h7]
        refine back_ovr (l.length - (j + 1 + 1)) (by omega) ⟨j + 1 + 1, rfl, by omega, hadd1 hrok, hadd2' (by omega), ?_⟩
        simp +decide (disch := first | omega | rfl | (simp +decide only [go_sem, ↓reduceIte] <;> rfl) | fail) only [go_sem, ↓reduceIte, rem64K, quo64K, remI64K, quoI64K, mulK64, mk_empty, sl_3n, app_nil_map, mk_i64, max_nat]
    · obtain rfl : i = 0 := by omega
      simp +decide (disch := first | omega | rfl | (simp +decide only [go_sem, ↓reduceIte, h7] <;> rfl) | fail) only [go_sem, ↓reduceIte, rem64K, quo64K, remI64K, quoI64K, mulK64, mk_empty, sl_3n, app_nil_map, mk_i64, max_nat, h7]
      refine back_ovr (l.length - 1) (by omega) ⟨1, rfl, by omega, hadd1 hrok, hadd2 (fun j hj => by omega), ?_⟩
      simp +decide (disch := first | omega | rfl | (simp +decide only [go_sem, ↓reduceIte] <;> rfl) | fail) only [go_sem, ↓reduceIte, rem64K, quo64K, remI64K, quoI64K, mulK64, mk_empty, sl_3n, app_nil_map, mk_i64, max_nat]
  · obtain rfl : i = l.length := by omega
    have hf : prOk l = true := hiff.2 ⟨fun j hj => h1 j hj hj, fun j hj => h2 j hj hj⟩
    simp +decide (disch := first | omega | rfl | (simp +decide only [go_sem, ↓reduceIte] <;> rfl) | fail) only [go_sem, ↓reduceIte, rem64K, quo64K, remI64K, quoI64K, mulK64, mk_empty, sl_3n, app_nil_map, mk_i64, max_nat]
    exact retV_eq (by rw [hf]) rfl
def smT (v : Nat) (e : Int) (t : RTm) : Bool := decide (t.m.length ≤ v) && (decide (t.a.length ≤ 4) && (decide (t.d.length ≤ 4) && t.m.all fun x => decide (x ≤ e)))
def small (n v : Nat) (e : Int) (l : List RTm) : Bool := decide (l.length ≤ n) && (l.all (smT v e) && prOk l)
theorem r6_Small_spec {l : List RTm} {k n v : Nat} {e : Int} (hb : ∀ t ∈ l, RB k t) (hk1 : 1 ≤ k) (hk : k < 2 ^ 36) (hll : l.length < 2 ^ 40) :
    FnSpec Tryz.prog 9 [PV.rpoly l, .int .i64 n, .int .i64 v, .int .i64 e] (· = .bool (small n v e l)) := by
  have bad : l.length ≤ n → ∀ i (h : i < l.length), smT v e l[i] = false → small n v e l = false := fun _ i hi h => by
    have : l.all (smT v e) = false := by
      rw [List.all_eq_false]; exact ⟨_, List.getElem_mem hi, by simp [h]⟩
    simp [small, this]
  refine fn_of_vc mixed Tryz.func9 rfl c9_ok (by simp [c9]) fun C hP => ?_; simp only [c9]
  simp +decide (disch := first | omega | rfl | (simp +decide only [go_sem, ↓reduceIte] <;> rfl) | fail) only [go_sem, ↓reduceIte, rem64K, quo64K, remI64K, quoI64K, mulK64, mk_empty, sl_3n, app_nil_map, mk_i64, max_nat]
  refine cond_split (fun hn => ?_) (fun hn => ?_)
  · simp +decide (disch := first | omega | rfl | (simp +decide only [go_sem, ↓reduceIte] <;> rfl) | fail) only [go_sem, ↓reduceIte, rem64K, quo64K, remI64K, quoI64K, mulK64, mk_empty, sl_3n, app_nil_map, mk_i64, max_nat]
    exact retV_eq (by simp [small, show ¬ l.length ≤ n by omega]) rfl
  have hn' : l.length ≤ n := by omega
  simp +decide (disch := first | omega | rfl | (simp +decide only [go_sem, ↓reduceIte] <;> rfl) | fail) only [go_sem, ↓reduceIte, rem64K, quo64K, remI64K, quoI64K, mulK64, mk_empty, sl_3n, app_nil_map, mk_i64, max_nat]
  refine vc_loopF (by repeat (first | exact okSk_ret | exact okSk_retM | exact okSk_retO | apply okSk_back | apply okSk_out | apply okSk_eb | apply okSk_c | apply okSk_o | apply okSk_again | apply okSk_backW)) [(8, 10), (15, 69)] [] (fun m J hp => ∃ i, m = l.length - i ∧ i ≤ l.length ∧ (∀ j (h : j < l.length), j < i → smT v e l[j] = true) ∧ J 9 = .int .i64 (i : Nat)) l.length ?_ ?_
  · refine ⟨0, rfl, by omega, by omega, ?_⟩
    simp +decide (disch := first | omega | rfl | (simp +decide only [go_sem, ↓reduceIte] <;> rfl) | fail) only [go_sem, ↓reduceIte, rem64K, quo64K, remI64K, quoI64K, mulK64, mk_empty, sl_3n, app_nil_map, mk_i64, max_nat]
    rfl
  rintro _ J h ⟨i, rfl, hi, h1, h9⟩
  simp +decide (disch := first | omega | rfl | (simp +decide only [go_sem, ↓reduceIte, h9] <;> rfl) | fail) only [go_sem, ↓reduceIte, rem64K, quo64K, remI64K, quoI64K, mulK64, mk_empty, sl_3n, app_nil_map, mk_i64, max_nat, h9]
  refine cond_split (fun hg => ?_) (fun hg => ?_)
  · have hi' : i < l.length := by omega
    have hbt := hb _ (List.getElem_mem hi')
    have hbad := bad hn' i hi'
    have hml := hbt.l
    have hadd : smT v e l[i] = true → ∀ j (h : j < l.length), j < i + 1 → smT v e l[j] = true := fun h j hj hji => by
      by_cases e : j = i
      · subst e; exact h
      · exact h1 j hj (by omega)
    generalize hx : l[i] = x at *
    simp +decide (disch := first | omega | rfl | (simp +decide only [go_sem, ↓reduceIte, h9, hx] <;> rfl) | fail) only [go_sem, ↓reduceIte, rem64K, quo64K, remI64K, quoI64K, mulK64, mk_empty, sl_3n, app_nil_map, mk_i64, max_nat, h9, hx]
    refine guard_splitF (fun h2 => ?_) (fun h2 => ?_)
    · simp +decide (disch := first | omega | rfl | (simp +decide only [go_sem, ↓reduceIte, h9, hx] <;> rfl) | fail) only [go_sem, ↓reduceIte, rem64K, quo64K, remI64K, quoI64K, mulK64, mk_empty, sl_3n, app_nil_map, mk_i64, max_nat, h9, hx]
      exact retV_eq (by rw [hbad (by simp [smT, show ¬ x.m.length ≤ v by omega])]) rfl
    simp +decide (disch := first | omega | rfl | (simp +decide only [go_sem, ↓reduceIte, h9, hx] <;> rfl) | fail) only [go_sem, ↓reduceIte, rem64K, quo64K, remI64K, quoI64K, mulK64, mk_empty, sl_3n, app_nil_map, mk_i64, max_nat, h9, hx]
    refine guard_splitF (fun h3 => ?_) (fun h3 => ?_)
    · simp +decide (disch := first | omega | rfl | (simp +decide only [go_sem, ↓reduceIte, h9, hx] <;> rfl) | fail) only [go_sem, ↓reduceIte, rem64K, quo64K, remI64K, quoI64K, mulK64, mk_empty, sl_3n, app_nil_map, mk_i64, max_nat, h9, hx]
      exact retV_eq (by rw [hbad (by simp [smT, show ¬ x.a.length ≤ 4 by omega])]) rfl
    simp +decide (disch := first | omega | rfl | (simp +decide only [go_sem, ↓reduceIte, h9, hx] <;> rfl) | fail) only [go_sem, ↓reduceIte, rem64K, quo64K, remI64K, quoI64K, mulK64, mk_empty, sl_3n, app_nil_map, mk_i64, max_nat, h9, hx]
    refine cond_split (fun h4 => ?_) (fun h4 => ?_)
    · simp +decide (disch := first | omega | rfl | (simp +decide only [go_sem, ↓reduceIte, h9, hx] <;> rfl) | fail) only [go_sem, ↓reduceIte, rem64K, quo64K, remI64K, quoI64K, mulK64, mk_empty, sl_3n, app_nil_map, mk_i64, max_nat, h9, hx]
      exact retV_eq (by rw [hbad (by simp [smT, show ¬ x.d.length ≤ 4 by omega])]) rfl
    simp +decide (disch := first | omega | rfl | (simp +decide only [go_sem, ↓reduceIte, h9, hx] <;> rfl) | fail) only [go_sem, ↓reduceIte, rem64K, quo64K, remI64K, quoI64K, mulK64, mk_empty, sl_3n, app_nil_map, mk_i64, max_nat, h9, hx]
    refine vc_loopF (by repeat (first | exact okSk_ret | exact okSk_retM | exact okSk_retO | apply okSk_back | apply okSk_out | apply okSk_eb | apply okSk_c | apply okSk_o | apply okSk_again | apply okSk_backW)) [(8, 8), (10, 10), (50, 69)] [] (fun m J hp => ∃ j, m = x.m.length - j ∧ j ≤ x.m.length ∧ (∀ y ∈ x.m.take j, y ≤ e) ∧ J 10 = .int .i64 (j : Nat)) x.m.length ?_ ?_
    · refine ⟨0, rfl, by omega, by simp, ?_⟩
      simp +decide (disch := first | omega | rfl | (simp +decide only [go_sem, ↓reduceIte] <;> rfl) | fail) only [go_sem, ↓reduceIte, rem64K, quo64K, remI64K, quoI64K, mulK64, mk_empty, sl_3n, app_nil_map, mk_i64, max_nat]
      rfl
    rintro _ J2 h2' ⟨j, rfl, hj, h5, h10⟩
    simp +decide (disch := first | omega | rfl | (simp +decide only [go_sem, ↓reduceIte, h9, h10, hx] <;> rfl) | fail) only [go_sem, ↓reduceIte, rem64K, quo64K, remI64K, quoI64K, mulK64, mk_empty, sl_3n, app_nil_map, mk_i64, max_nat, h9, h10, hx]
    refine cond_split (fun hg2 => ?_) (fun hg2 => ?_)
    · have hj' : j < x.m.length := by omega
      have hmem := List.getElem_mem hj'
      have htk : x.m.take (j + 1) = x.m.take j ++ [x.m[j]] := List.take_succ_eq_append_getElem hj'
      generalize hy : x.m[j] = y at *
      simp +decide (disch := first | omega | rfl | (simp +decide only [go_sem, ↓reduceIte, h9, h10, hx, hy] <;> rfl) | fail) only [go_sem, ↓reduceIte, rem64K, quo64K, remI64K, quoI64K, mulK64, mk_empty, sl_3n, app_nil_map, mk_i64, max_nat, h9, h10, hx, hy]
      refine cond_split (fun h6 => ?_) (fun h6 => ?_)
      · simp +decide (disch := first | omega | rfl | (simp +decide only [go_sem, ↓reduceIte, h9, h10, hx] <;> rfl) | fail) only [go_sem, ↓reduceIte, rem64K, quo64K, remI64K, quoI64K, mulK64, mk_empty, sl_3n, app_nil_map, mk_i64, max_nat, h9, h10, hx]
        refine retV_eq ?_ rfl
        rw [hbad]
        have : (x.m.all fun x => decide (x ≤ e)) = false := by
          rw [List.all_eq_false]; exact ⟨y, hmem, by simp; omega⟩
        simp [smT, this]
      · simp +decide (disch := first | omega | rfl | (simp +decide only [go_sem, ↓reduceIte, h9, h10, hx] <;> rfl) | fail) only [go_sem, ↓reduceIte, rem64K, quo64K, remI64K, quoI64K, mulK64, mk_empty, sl_3n, app_nil_map, mk_i64, max_nat, h9, h10, hx]
        refine back_ovr (x.m.length - (j + 1)) (by omega) ⟨j + 1, rfl, by omega, ?_, ?_⟩
        · rw [htk]
          intro z hz
          rcases List.mem_append.1 hz with hz | hz
          · exact h5 z hz
          · simp at hz; omega
        · simp +decide (disch := first | omega | rfl | (simp +decide only [go_sem, ↓reduceIte] <;> rfl) | fail) only [go_sem, ↓reduceIte, rem64K, quo64K, remI64K, quoI64K, mulK64, mk_empty, sl_3n, app_nil_map, mk_i64, max_nat]
    · rw [List.take_of_length_le (by omega)] at h5
      have hsm : smT v e x = true := by
        simp only [smT, Bool.and_eq_true, decide_eq_true_eq, List.all_eq_true]
        exact ⟨by omega, by omega, by omega, h5⟩
      simp +decide (disch := first | omega | rfl | (simp +decide only [go_sem, ↓reduceIte, h9, h10] <;> rfl) | fail) only [go_sem, ↓reduceIte, rem64K, quo64K, remI64K, quoI64K, mulK64, mk_empty, sl_3n, app_nil_map, mk_i64, max_nat, h9, h10]
      simp (disch := decide) only [killFs_nil, ovr_sub]
      refine back_ovr (l.length - (i + 1)) (by omega) ⟨i + 1, rfl, by omega, hadd hsm, ?_⟩
      simp +decide (disch := first | omega | rfl | (simp +decide only [go_sem, ↓reduceIte] <;> rfl) | fail) only [go_sem, ↓reduceIte, rem64K, quo64K, remI64K, quoI64K, mulK64, mk_empty, sl_3n, app_nil_map, mk_i64, max_nat]
  · obtain rfl : i = l.length := by omega
    have hall : l.all (smT v e) = true := by
      rw [List.all_eq_true]
      intro t ht
      obtain ⟨j, hj, rfl⟩ := List.getElem_of_mem ht
      exact h1 j hj hj
    simp +decide (disch := first | omega | rfl | (simp +decide only [go_sem, ↓reduceIte] <;> rfl) | fail) only [go_sem, ↓reduceIte, rem64K, quo64K, remI64K, quoI64K, mulK64, mk_empty, sl_3n, app_nil_map, mk_i64, max_nat]
    refine call_eq0 hP (r6_Right_raw hb hk1 hk hll) rfl rfl rfl ?_
    simp +decide (disch := first | omega | rfl | (simp +decide only [go_sem, ↓reduceIte] <;> rfl) | fail) only [go_sem, ↓reduceIte, rem64K, quo64K, remI64K, quoI64K, mulK64, mk_empty, sl_3n, app_nil_map, mk_i64, max_nat]
    exact retV_eq (by simp [small, hn', hall]) rfl
end Go.Proofs.YtjkbalanglgoiaaGreat
namespace Go.Proofs.YtjkbalanglgoiaaGreat
open Go Go.FW
set_option maxRecDepth 100000
end Go.Proofs.YtjkbalanglgoiaaGreat
namespace Go.Proofs.YtjkbalanglgoiaaGreat
open Go Go.FW
set_option linter.unusedSimpArgs false
set_option linter.unusedVariables false
set_option maxRecDepth 100000
theorem pvar_PB (v : Int) : PB 4 1 (pvar v) := by
  unfold pvar
  split
  · exact PB.nil _ _
  · rename_i h
    intro t ht
    simp only [List.mem_singleton] at ht
    subst ht
    refine ⟨by have := rs_1; show rs 1 + 1 ≤ 4; omega, ⟨?_, ?_, ?_⟩, ?_⟩
    · simp [varM]; omega
    · intro x hx; simp [varM] at hx; omega
    · intro x hx; simp [varM] at hx; omega
    · simp [varM]
theorem pvar_len (v : Int) : (pvar v).length ≤ 1 := by unfold pvar; split <;> simp
theorem r3_Equal_q {a b : Rat} {k : Nat} (ha : rs a ≤ k) (hb : rs b ≤ k) (hk : k < 2 ^ 34) : FnSpec Tryz.prog 35 [PV.rat a, PV.rat b] (· = .bool (decide (a = b))) := by
  have := r3_Equal_spec (raw_of ha) (raw_of hb) hk
  rwa [rv_of, rv_of] at this
end Go.Proofs.YtjkbalanglgoiaaGreat
namespace Go.Proofs.YtjkbalanglgoiaaGreat
open Go Go.FW
set_option linter.unusedSimpArgs false
set_option linter.unusedVariables false
set_option maxRecDepth 100000
theorem r6_add_spec {p : List Tm} {n : Bool} {a d : List Nat} {m : List Int} {K E k : Nat} (hp : PB K E p) (hs : PSorted p) (hnz : NZ p) (hr : Raw k n a d) (hk : k ≤ 2 ^ 32) (hm : MB E m) (hl : m.getLast? ≠ some 0) (hK : K ≤ 2 ^ 32) (hE : E ≤ 2 ^ 38) (hlp : p.length ≤ 2 ^ 36) :
    FnSpec Tryz.prog 101 [PV.poly p, PV.rr n a d, PV.mono m] (· = PV.poly (paddT p (rv n a d) m)) := by
  have hrr := hr.rs
  refine fn_of_vc mixed Tryz.func101 rfl c101_ok (by simp [c101]) fun C hP => ?_; simp only [c101]
  simp +decide (disch := first | omega | rfl | (simp +decide only [go_sem, ↓reduceIte] <;> rfl) | fail) only [go_sem, ↓reduceIte, rem64K, quo64K, remI64K, quoI64K, mulK64, mk_empty, sl_3n, app_nil_map, mk_i64, max_nat]
  refine vc_loopF (by repeat (first | exact okSk_ret | exact okSk_retM | exact okSk_retO | apply okSk_back | apply okSk_out | apply okSk_eb | apply okSk_c | apply okSk_o | apply okSk_again | apply okSk_backW)) [(7, 7), (12, 26)] [] (fun k J hp => k ≤ p.length ∧ (∀ t ∈ p.drop k, cmpM t.2 m < 0) ∧ J 7 = .int .i64 (k : Nat) ∧ hp 4 = some ⟨3, 33, [PV.rr n a d], false⟩) p.length ?_ ?_
  · refine ⟨by omega, by simp, ?_⟩
    simp +decide (disch := first | omega | rfl | (simp +decide only [go_sem, ↓reduceIte] <;> rfl) | fail) only [go_sem, ↓reduceIte, rem64K, quo64K, remI64K, quoI64K, mulK64, mk_empty, sl_3n, app_nil_map, mk_i64, max_nat]
  rintro j J h ⟨hj, hd, h7, hh4⟩
  simp +decide (disch := first | omega | rfl | (simp +decide only [go_sem, ↓reduceIte, h7] <;> rfl) | fail) only [go_sem, ↓reduceIte, rem64K, quo64K, remI64K, quoI64K, mulK64, mk_empty, sl_3n, app_nil_map, mk_i64, max_nat, h7]
  refine guard_split (fun hg => ?_) (fun hg => ?_)
  · obtain ⟨i, rfl⟩ : ∃ i, j = i + 1 := ⟨j - 1, by omega⟩
    have e : ((i + 1 : Nat) : Int) - 1 = i := by omega
    have hi : i < p.length := by omega
    have htp := hp.get hi
    have hdr : p.drop i = p[i] :: p.drop (i + 1) := List.drop_eq_getElem_cons hi
    have htk : p.take (i + 1) = p.take i ++ [p[i]] := List.take_succ_eq_append_getElem hi
    have hts := psorted_take hs hi
    have hall : p = p.take i ++ p[i] :: p.drop (i + 1) := by rw [← hdr, List.take_append_drop]
    have c1 := htp.c
    generalize hx : p[i] = x at *
    simp +decide (disch := first | omega | rfl | (simp +decide only [go_sem, ↓reduceIte, h7, e, hx] <;> rfl) | fail) only [go_sem, ↓reduceIte, rem64K, quo64K, remI64K, quoI64K, mulK64, mk_empty, sl_3n, app_nil_map, mk_i64, max_nat, h7, e, hx]
    refine call_eq0 hP (r5_lex htp.m hm (by omega)) rfl rfl rfl ?_
    simp +decide (disch := first | omega | rfl | (simp +decide only [go_sem, ↓reduceIte, h7, e, hx] <;> rfl) | fail) only [go_sem, ↓reduceIte, rem64K, quo64K, remI64K, quoI64K, mulK64, mk_empty, sl_3n, app_nil_map, mk_i64, max_nat, h7, e, hx]
    refine cond_split (fun hc => ?_) (fun hc => ?_)
    · simp +decide (disch := first | omega | rfl | (simp +decide only [go_sem, ↓reduceIte, h7, e, hx] <;> rfl) | fail) only [go_sem, ↓reduceIte, rem64K, quo64K, remI64K, quoI64K, mulK64, mk_empty, sl_3n, app_nil_map, mk_i64, max_nat, h7, e, hx]
      refine back_ovr i (by omega) ⟨by omega, ?_, ?_⟩
      · rw [hdr]
        intro t ht
        rcases List.mem_cons.1 ht with rfl | ht
        · exact hc
        · exact hd t ht
      · simp +decide (disch := first | omega | rfl | (simp +decide only [go_sem, ↓reduceIte, hh4] <;> rfl) | fail) only [go_sem, ↓reduceIte, rem64K, quo64K, remI64K, quoI64K, mulK64, mk_empty, sl_3n, app_nil_map, mk_i64, max_nat, hh4]
    · simp +decide (disch := first | omega | rfl | (simp +decide only [go_sem, ↓reduceIte, h7, e, hx] <;> rfl) | fail) only [go_sem, ↓reduceIte, rem64K, quo64K, remI64K, quoI64K, mulK64, mk_empty, sl_3n, app_nil_map, mk_i64, max_nat, h7, e, hx]
      refine guard_split (fun _ => ?_) (fun h => by omega)
      simp +decide (disch := first | omega | rfl | (simp +decide only [go_sem, ↓reduceIte, h7, e, hx] <;> rfl) | fail) only [go_sem, ↓reduceIte, rem64K, quo64K, remI64K, quoI64K, mulK64, mk_empty, sl_3n, app_nil_map, mk_i64, max_nat, h7, e, hx]
      refine call_eq0 hP (r5_lex htp.m hm (by omega)) rfl rfl rfl ?_
      simp +decide (disch := first | omega | rfl | (simp +decide only [go_sem, ↓reduceIte, h7, e, hx] <;> rfl) | fail) only [go_sem, ↓reduceIte, rem64K, quo64K, remI64K, quoI64K, mulK64, mk_empty, sl_3n, app_nil_map, mk_i64, max_nat, h7, e, hx]
      refine cond_split (fun hc2 => ?_) (fun hc2 => ?_)
      · have hxm : x.2 = m := (cmpM_eq htp.l hl).1 hc2
        have hx0 := hnz _ (List.getElem_mem hi)
        rw [hx] at hx0
        have hfin : paddT p (rv n a d) m = p.take i ++ (if x.1 + rv n a d = 0 then [] else [(x.1 + rv n a d, m)]) ++ p.drop (i + 1) := by
          have hall' : p = p.take i ++ (x.1, m) :: p.drop (i + 1) := by rw [← hxm]; exact hall
          rw [paddT]
          split
          · rename_i h0
            have e0 : x.1 + 0 = x.1 := Rat.add_zero _
            rw [h0, padd_nil, e0, if_neg hx0]
            simpa using hall'
          · conv => lhs; rw [hall']
            exact padd_at (fun t ht => by rw [← hxm]; exact hts t ht)
        have htl : (p.take i).length ≤ p.length := List.length_take_le' _ _
        have hdl : (p.drop (i + 1)).length ≤ p.length := by rw [List.length_drop]; omega
        have hra := rs_add x.1 (rv n a d)
        have hxr := raw_of (q := x.1) (k := 2 ^ 32) (by omega)
        have hadd := r3_Add_spec (k := 2 ^ 32) hxr (show Raw (2 ^ 32) n a d from ⟨hr.la, hr.ld, by have := hr.sa; omega, by have := hr.sd; omega, by omega⟩) (by omega)
        rw [rv_of] at hadd
        simp +decide (disch := first | omega | rfl | (simp +decide only [go_sem, ↓reduceIte, h7, e, hx, hh4] <;> rfl) | fail) only [go_sem, ↓reduceIte, rem64K, quo64K, remI64K, quoI64K, mulK64, mk_empty, sl_3n, app_nil_map, mk_i64, max_nat, h7, e, hx, hh4]
        refine br_intro ?_ ?_
        all_goals
          simp +decide (disch := first | omega | rfl | (simp +decide only [go_sem, ↓reduceIte, h7, e, hx, hh4] <;> rfl) | fail) only [go_sem, ↓reduceIte, rem64K, quo64K, remI64K, quoI64K, mulK64, mk_empty, sl_3n, app_nil_map, mk_i64, max_nat, h7, e, hx, hh4]
          refine call_eq0 hP hadd rfl rfl rfl ?_
          simp +decide (disch := first | omega | rfl | (simp +decide only [go_sem, ↓reduceIte, h7, e, hx, hh4] <;> rfl) | fail) only [go_sem, ↓reduceIte, rem64K, quo64K, remI64K, quoI64K, mulK64, mk_empty, sl_3n, app_nil_map, mk_i64, max_nat, h7, e, hx, hh4]
          refine call_eq0 hP (r3_Sign_q (a := x.1 + rv n a d) (by omega)) rfl rfl rfl ?_
          simp +decide (disch := first | omega | rfl | (simp +decide only [go_sem, ↓reduceIte, h7, e, hx, hh4] <;> rfl) | fail) only [go_sem, ↓reduceIte, rem64K, quo64K, remI64K, quoI64K, mulK64, mk_empty, sl_3n, app_nil_map, mk_i64, max_nat, h7, e, hx, hh4]
          refine cond_split (fun hz => ?_) (fun hz => ?_)
          · rw [if_neg (fun h => hz (sgnQ_zero.2 h))] at hfin
            simp +decide (disch := first | omega | rfl | (simp +decide only [go_sem, ↓reduceIte, h7, e, hx, hh4] <;> rfl) | fail) only [go_sem, ↓reduceIte, rem64K, quo64K, remI64K, quoI64K, mulK64, mk_empty, sl_3n, app_nil_map, mk_i64, max_nat, h7, e, hx, hh4]
            rw [app_push_map (f := PV.term) (y := (x.1 + rv n a d, m)) (xs := p.take i) (ty' := 61) (fz := false) (by simp +decide (disch := first | omega | rfl | (simp +decide only [go_sem, ↓reduceIte] <;> rfl) | fail) only [go_sem, ↓reduceIte, rem64K, quo64K, remI64K, quoI64K, mulK64, mk_empty, sl_3n, app_nil_map, mk_i64, max_nat]) (by simp +decide (disch := first | omega | rfl | (simp +decide only [go_sem, ↓reduceIte] <;> rfl) | fail) only [go_sem, ↓reduceIte, rem64K, quo64K, remI64K, quoI64K, mulK64, mk_empty, sl_3n, app_nil_map, mk_i64, max_nat] <;> rfl) (by omega) rfl (by omega) (by omega)]
            simp +decide (disch := first | omega | rfl | (simp +decide only [go_sem, ↓reduceIte, h7, e, hx, hh4] <;> rfl) | fail) only [go_sem, ↓reduceIte, rem64K, quo64K, remI64K, quoI64K, mulK64, mk_empty, sl_3n, app_nil_map, mk_i64, max_nat, h7, e, hx, hh4]
            rw [app_map (f := PV.term) (xs := p.take i ++ [(x.1 + rv n a d, m)]) (ys := p.drop (i + 1)) (by simp +decide (disch := first | omega | rfl | (simp +decide only [go_sem, ↓reduceIte] <;> rfl) | fail) only [go_sem, ↓reduceIte, rem64K, quo64K, remI64K, quoI64K, mulK64, mk_empty, sl_3n, app_nil_map, mk_i64, max_nat]) (by simp <;> omega) (by omega) (by omega) (by omega)]
            simp +decide (disch := first | omega | rfl | (simp +decide only [go_sem, ↓reduceIte, looks3, List.contains_cons, List.contains_nil, List.flatMap_cons, List.flatMap_nil, List.append_nil] <;> rfl) | fail) only [go_sem, ↓reduceIte, rem64K, quo64K, remI64K, quoI64K, mulK64, mk_empty, sl_3n, app_nil_map, mk_i64, max_nat, looks3, List.contains_cons, List.contains_nil, List.flatMap_cons, List.flatMap_nil, List.append_nil]
            refine retV_eq ?_ rfl
            rw [List.take_of_length_le (by simp <;> omega), hfin]
          · rw [if_pos (sgnQ_zero.1 (Decidable.not_not.1 hz)), List.append_nil] at hfin
            simp +decide (disch := first | omega | rfl | (simp +decide only [go_sem, ↓reduceIte, h7, e, hx, hh4] <;> rfl) | fail) only [go_sem, ↓reduceIte, rem64K, quo64K, remI64K, quoI64K, mulK64, mk_empty, sl_3n, app_nil_map, mk_i64, max_nat, h7, e, hx, hh4]
            rw [app_map (f := PV.term) (xs := p.take i) (ys := p.drop (i + 1)) (by simp +decide (disch := first | omega | rfl | (simp +decide only [go_sem, ↓reduceIte] <;> rfl) | fail) only [go_sem, ↓reduceIte, rem64K, quo64K, remI64K, quoI64K, mulK64, mk_empty, sl_3n, app_nil_map, mk_i64, max_nat]) (by simp <;> omega) (by omega) (by omega) (by omega)]
            simp +decide (disch := first | omega | rfl | (simp +decide only [go_sem, ↓reduceIte, looks3, List.contains_cons, List.contains_nil, List.flatMap_cons, List.flatMap_nil, List.append_nil] <;> rfl) | fail) only [go_sem, ↓reduceIte, rem64K, quo64K, remI64K, quoI64K, mulK64, mk_empty, sl_3n, app_nil_map, mk_i64, max_nat, looks3, List.contains_cons, List.contains_nil, List.flatMap_cons, List.flatMap_nil, List.append_nil]
            refine retV_eq ?_ rfl
            rw [List.take_of_length_le (by simp <;> omega), hfin]
      · have hgt : padd p [(rv n a d, m)] = p.take (i + 1) ++ (rv n a d, m) :: p.drop (i + 1) := by
          have := padd_gt (m := m) (c := rv n a d) (u := p.take (i + 1)) (v := p.drop (i + 1)) (fun t ht => by
            rw [htk] at ht
            rcases List.mem_append.1 ht with ht | ht
            · exact cmpM_gt_trans (hts t ht) (by omega)
            · simp only [List.mem_singleton] at ht; subst ht; omega) hd
          rwa [List.take_append_drop] at this
        have htl : (p.take (i + 1)).length ≤ p.length := List.length_take_le' _ _
        have hdl : (p.drop (i + 1)).length ≤ p.length := by rw [List.length_drop]; omega
        simp +decide (disch := first | omega | rfl | (simp +decide only [go_sem, ↓reduceIte, h7, hh4] <;> rfl) | fail) only [go_sem, ↓reduceIte, rem64K, quo64K, remI64K, quoI64K, mulK64, mk_empty, sl_3n, app_nil_map, mk_i64, max_nat, h7, hh4]
        refine call_eq0 hP (r3_Sign_spec hr (by omega)) rfl rfl rfl ?_
        simp +decide (disch := first | omega | rfl | (simp +decide only [go_sem, ↓reduceIte, h7, hh4] <;> rfl) | fail) only [go_sem, ↓reduceIte, rem64K, quo64K, remI64K, quoI64K, mulK64, mk_empty, sl_3n, app_nil_map, mk_i64, max_nat, h7, hh4]
        refine cond_split (fun hz => ?_) (fun hz => ?_)
        · have hz' : ¬ rv n a d = 0 := fun h => hz (sgnQ_zero.2 h)
          simp +decide (disch := first | omega | rfl | (simp +decide only [go_sem, ↓reduceIte, h7, hh4] <;> rfl) | fail) only [go_sem, ↓reduceIte, rem64K, quo64K, remI64K, quoI64K, mulK64, mk_empty, sl_3n, app_nil_map, mk_i64, max_nat, h7, hh4]
          refine call_eq0 hP (r3_Norm_spec hr (by omega)) rfl rfl rfl ?_
          simp +decide (disch := first | omega | rfl | (simp +decide only [go_sem, ↓reduceIte, h7, hh4] <;> rfl) | fail) only [go_sem, ↓reduceIte, rem64K, quo64K, remI64K, quoI64K, mulK64, mk_empty, sl_3n, app_nil_map, mk_i64, max_nat, h7, hh4]
          rw [app_push_map (f := PV.term) (y := (rv n a d, m)) (xs := p.take (i + 1)) (ty' := 61) (fz := false) (by simp +decide (disch := first | omega | rfl | (simp +decide only [go_sem, ↓reduceIte] <;> rfl) | fail) only [go_sem, ↓reduceIte, rem64K, quo64K, remI64K, quoI64K, mulK64, mk_empty, sl_3n, app_nil_map, mk_i64, max_nat]) (by simp +decide (disch := first | omega | rfl | (simp +decide only [go_sem, ↓reduceIte] <;> rfl) | fail) only [go_sem, ↓reduceIte, rem64K, quo64K, remI64K, quoI64K, mulK64, mk_empty, sl_3n, app_nil_map, mk_i64, max_nat] <;> rfl) (by omega) rfl (by omega) (by omega)]
          simp +decide (disch := first | omega | rfl | (simp +decide only [go_sem, ↓reduceIte, h7, hh4] <;> rfl) | fail) only [go_sem, ↓reduceIte, rem64K, quo64K, remI64K, quoI64K, mulK64, mk_empty, sl_3n, app_nil_map, mk_i64, max_nat, h7, hh4]
          rw [app_map (f := PV.term) (xs := p.take (i + 1) ++ [(rv n a d, m)]) (ys := p.drop (i + 1)) (by simp +decide (disch := first | omega | rfl | (simp +decide only [go_sem, ↓reduceIte] <;> rfl) | fail) only [go_sem, ↓reduceIte, rem64K, quo64K, remI64K, quoI64K, mulK64, mk_empty, sl_3n, app_nil_map, mk_i64, max_nat]) (by simp <;> omega) (by omega) (by omega) (by omega)]
          simp +decide (disch := first | omega | rfl | (simp +decide only [go_sem, ↓reduceIte, looks3, List.contains_cons, List.contains_nil, List.flatMap_cons, List.flatMap_nil, List.append_nil] <;> rfl) | fail) only [go_sem, ↓reduceIte, rem64K, quo64K, remI64K, quoI64K, mulK64, mk_empty, sl_3n, app_nil_map, mk_i64, max_nat, looks3, List.contains_cons, List.contains_nil, List.flatMap_cons, List.flatMap_nil, List.append_nil]
          refine retV_eq ?_ rfl
          rw [List.take_of_length_le (by simp <;> omega), paddT, if_neg hz', hgt]
          simp
        · have hz' : rv n a d = 0 := sgnQ_zero.1 (Decidable.not_not.1 hz)
          simp +decide (disch := first | omega | rfl | (simp +decide only [go_sem, ↓reduceIte, h7, hh4] <;> rfl) | fail) only [go_sem, ↓reduceIte, rem64K, quo64K, remI64K, quoI64K, mulK64, mk_empty, sl_3n, app_nil_map, mk_i64, max_nat, h7, hh4]
          rw [app_map (f := PV.term) (xs := p.take (i + 1)) (ys := p.drop (i + 1)) (by simp +decide (disch := first | omega | rfl | (simp +decide only [go_sem, ↓reduceIte] <;> rfl) | fail) only [go_sem, ↓reduceIte, rem64K, quo64K, remI64K, quoI64K, mulK64, mk_empty, sl_3n, app_nil_map, mk_i64, max_nat]) (by simp <;> omega) (by omega) (by omega) (by omega)]
          simp +decide (disch := first | omega | rfl | (simp +decide only [go_sem, ↓reduceIte, looks3, List.contains_cons, List.contains_nil, List.flatMap_cons, List.flatMap_nil, List.append_nil] <;> rfl) | fail) only [go_sem, ↓reduceIte, rem64K, quo64K, remI64K, quoI64K, mulK64, mk_empty, sl_3n, app_nil_map, mk_i64, max_nat, looks3, List.contains_cons, List.contains_nil, List.flatMap_cons, List.flatMap_nil, List.append_nil]
          refine retV_eq ?_ rfl
          rw [List.take_of_length_le (by simp <;> omega), paddT, if_pos hz', padd_nil, List.take_append_drop]
  · obtain rfl : j = 0 := by omega
    have hgt : padd p [(rv n a d, m)] = [] ++ (rv n a d, m) :: p := padd_gt (m := m) (c := rv n a d) (u := []) (v := p) (by simp) (by simpa using hd)
    simp +decide (disch := first | omega | rfl | (simp +decide only [go_sem, ↓reduceIte, h7] <;> rfl) | fail) only [go_sem, ↓reduceIte, rem64K, quo64K, remI64K, quoI64K, mulK64, mk_empty, sl_3n, app_nil_map, mk_i64, max_nat, h7]
    rw [app_nil_nil (by omega)]
    simp +decide (disch := first | omega | rfl | (simp +decide only [go_sem, ↓reduceIte, h7, hh4] <;> rfl) | fail) only [go_sem, ↓reduceIte, rem64K, quo64K, remI64K, quoI64K, mulK64, mk_empty, sl_3n, app_nil_map, mk_i64, max_nat, h7, hh4]
    refine call_eq0 hP (r3_Sign_spec hr (by omega)) rfl rfl rfl ?_
    simp +decide (disch := first | omega | rfl | (simp +decide only [go_sem, ↓reduceIte, h7, hh4] <;> rfl) | fail) only [go_sem, ↓reduceIte, rem64K, quo64K, remI64K, quoI64K, mulK64, mk_empty, sl_3n, app_nil_map, mk_i64, max_nat, h7, hh4]
    refine cond_split (fun hz => ?_) (fun hz => ?_)
    · have hz' : ¬ rv n a d = 0 := fun h => hz (sgnQ_zero.2 h)
      simp +decide (disch := first | omega | rfl | (simp +decide only [go_sem, ↓reduceIte, h7, hh4] <;> rfl) | fail) only [go_sem, ↓reduceIte, rem64K, quo64K, remI64K, quoI64K, mulK64, mk_empty, sl_3n, app_nil_map, mk_i64, max_nat, h7, hh4]
      refine call_eq0 hP (r3_Norm_spec hr (by omega)) rfl rfl rfl ?_
      simp +decide (disch := first | omega | rfl | (simp +decide only [go_sem, ↓reduceIte, h7, hh4] <;> rfl) | fail) only [go_sem, ↓reduceIte, rem64K, quo64K, remI64K, quoI64K, mulK64, mk_empty, sl_3n, app_nil_map, mk_i64, max_nat, h7, hh4]
      rw [app_push_map (f := PV.term) (y := (rv n a d, m)) (xs := ([] : List Tm)) (ty' := 61) (fz := false) (by simp +decide (disch := first | omega | rfl | (simp +decide only [go_sem, ↓reduceIte] <;> rfl) | fail) only [go_sem, ↓reduceIte, rem64K, quo64K, remI64K, quoI64K, mulK64, mk_empty, sl_3n, app_nil_map, mk_i64, max_nat]) (by simp +decide (disch := first | omega | rfl | (simp +decide only [go_sem, ↓reduceIte] <;> rfl) | fail) only [go_sem, ↓reduceIte, rem64K, quo64K, remI64K, quoI64K, mulK64, mk_empty, sl_3n, app_nil_map, mk_i64, max_nat] <;> rfl) (by omega) (n := 0) rfl (by omega) (by omega)]
      simp +decide (disch := first | omega | rfl | (simp +decide only [go_sem, ↓reduceIte, h7, hh4] <;> rfl) | fail) only [go_sem, ↓reduceIte, rem64K, quo64K, remI64K, quoI64K, mulK64, mk_empty, sl_3n, app_nil_map, mk_i64, max_nat, h7, hh4]
      rw [app_map (f := PV.term) (xs := ([] : List Tm) ++ [(rv n a d, m)]) (ys := p) (by simp +decide (disch := first | omega | rfl | (simp +decide only [go_sem, ↓reduceIte] <;> rfl) | fail) only [go_sem, ↓reduceIte, rem64K, quo64K, remI64K, quoI64K, mulK64, mk_empty, sl_3n, app_nil_map, mk_i64, max_nat]) (by simp <;> omega) (by omega) (by omega) (by omega)]
      simp +decide (disch := first | omega | rfl | (simp +decide only [go_sem, ↓reduceIte, looks3, List.contains_cons, List.contains_nil, List.flatMap_cons, List.flatMap_nil, List.append_nil] <;> rfl) | fail) only [go_sem, ↓reduceIte, rem64K, quo64K, remI64K, quoI64K, mulK64, mk_empty, sl_3n, app_nil_map, mk_i64, max_nat, looks3, List.contains_cons, List.contains_nil, List.flatMap_cons, List.flatMap_nil, List.append_nil]
      refine retV_eq ?_ rfl
      rw [List.take_of_length_le (by simp <;> omega), paddT, if_neg hz', hgt]
      simp
    · have hz' : rv n a d = 0 := sgnQ_zero.1 (Decidable.not_not.1 hz)
      simp +decide (disch := first | omega | rfl | (simp +decide only [go_sem, ↓reduceIte, h7, hh4] <;> rfl) | fail) only [go_sem, ↓reduceIte, rem64K, quo64K, remI64K, quoI64K, mulK64, mk_empty, sl_3n, app_nil_map, mk_i64, max_nat, h7, hh4]
      rw [app_map (f := PV.term) (xs := ([] : List Tm)) (ys := p) (by simp +decide (disch := first | omega | rfl | (simp +decide only [go_sem, ↓reduceIte] <;> rfl) | fail) only [go_sem, ↓reduceIte, rem64K, quo64K, remI64K, quoI64K, mulK64, mk_empty, sl_3n, app_nil_map, mk_i64, max_nat]) (by simp <;> omega) (by omega) (by omega) (by omega)]
      simp +decide (disch := first | omega | rfl | (simp +decide only [go_sem, ↓reduceIte, looks3, List.contains_cons, List.contains_nil, List.flatMap_cons, List.flatMap_nil, List.append_nil] <;> rfl) | fail) only [go_sem, ↓reduceIte, rem64K, quo64K, remI64K, quoI64K, mulK64, mk_empty, sl_3n, app_nil_map, mk_i64, max_nat, looks3, List.contains_cons, List.contains_nil, List.flatMap_cons, List.flatMap_nil, List.append_nil]
      refine retV_eq ?_ rfl
      rw [List.take_of_length_le (by simp <;> omega), paddT, if_pos hz', padd_nil]
end Go.Proofs.YtjkbalanglgoiaaGreat
namespace Go.Proofs.YtjkbalanglgoiaaGreat
open Go Go.FW
set_option linter.unusedSimpArgs false
set_option linter.unusedVariables false
set_option maxRecDepth 100000
theorem r6_Const_spec {n : Bool} {a d : List Nat} {k : Nat} (hr : Raw k n a d) (hk : k ≤ 2 ^ 32) : FnSpec Tryz.prog 137 [PV.rr n a d] (· = PV.poly (pconst (rv n a d))) := by
  have hadd := (r6_add_spec (p := []) (m := []) (K := 1) (E := 1) (PB.nil _ _) trivial (by simp [NZ]) hr hk ⟨by simp, by simp, by simp⟩ (by simp) (by omega) (by omega) (by simp)).le (args' := [.nilS, PV.rr n a d, .nilS]) ⟨trivial, le_refl _, trivial, trivial⟩
  have e : paddT [] (rv n a d) [] = pconst (rv n a d) := by rw [paddT, nil_padd]; rfl
  rw [e] at hadd
  refine fn_of_vc mixed Tryz.func137 rfl c137_ok (by simp [c137]) fun C hP => ?_; simp only [c137]
  simp +decide (disch := first | omega | rfl | (simp +decide only [go_sem, ↓reduceIte] <;> rfl) | fail) only [go_sem, ↓reduceIte, rem64K, quo64K, remI64K, quoI64K, mulK64, mk_empty, sl_3n, app_nil_map, mk_i64, max_nat]
  refine call_eq0 hP hadd rfl rfl rfl ?_
  simp +decide (disch := first | omega | rfl | (simp +decide only [go_sem, ↓reduceIte] <;> rfl) | fail) only [go_sem, ↓reduceIte, rem64K, quo64K, remI64K, quoI64K, mulK64, mk_empty, sl_3n, app_nil_map, mk_i64, max_nat]
  exact retV_eq rfl rfl
theorem r6_zeros_spec {a m : List Int} (hla : a.length < 2 ^ 42) (hlm : m.length < 2 ^ 42) : FnSpec Tryz.prog 100 [PV.mono a, PV.mono m] (· = .bool (zerosOk a m)) := by
  refine fn_of_vc mixed Tryz.func100 rfl c100_ok (by simp [c100]) fun C hP => ?_; simp only [c100]
  simp +decide (disch := first | omega | rfl | (simp +decide only [go_sem, ↓reduceIte] <;> rfl) | fail) only [go_sem, ↓reduceIte, rem64K, quo64K, remI64K, quoI64K, mulK64, mk_empty, sl_3n, app_nil_map, mk_i64, max_nat]
  refine vc_loopF (by repeat (first | exact okSk_ret | exact okSk_retM | exact okSk_retO | apply okSk_back | apply okSk_out | apply okSk_eb | apply okSk_c | apply okSk_o | apply okSk_again | apply okSk_backW)) [(4, 19)] [] (fun n J hp => ∃ i, n = a.length - i ∧ i ≤ a.length ∧ (∀ j, j < i → eN a j = eN m j) ∧ J 5 = .int .i64 (i : Nat)) a.length ?_ ?_
  · refine ⟨0, rfl, by omega, by omega, ?_⟩
    simp +decide (disch := first | omega | rfl | (simp +decide only [go_sem, ↓reduceIte] <;> rfl) | fail) only [go_sem, ↓reduceIte, rem64K, quo64K, remI64K, quoI64K, mulK64, mk_empty, sl_3n, app_nil_map, mk_i64, max_nat]
    rfl
  rintro _ J h ⟨i, rfl, hi, h1, h5⟩
  simp +decide (disch := first | omega | rfl | (simp +decide only [go_sem, ↓reduceIte, h5] <;> rfl) | fail) only [go_sem, ↓reduceIte, rem64K, quo64K, remI64K, quoI64K, mulK64, mk_empty, sl_3n, app_nil_map, mk_i64, max_nat, h5]
  refine cond_split (fun hg => ?_) (fun hg => ?_)
  · have hi' : i < a.length := by omega
    have he := eN_lt hi'
    generalize hx : a[i] = x at *
    simp +decide (disch := first | omega | rfl | (simp +decide only [go_sem, ↓reduceIte, h5, hx] <;> rfl) | fail) only [go_sem, ↓reduceIte, rem64K, quo64K, remI64K, quoI64K, mulK64, mk_empty, sl_3n, app_nil_map, mk_i64, max_nat, h5, hx]
    refine call_eq0 hP (r5_Exp_nat hlm) rfl rfl rfl ?_
    simp +decide (disch := first | omega | rfl | (simp +decide only [go_sem, ↓reduceIte, h5, hx] <;> rfl) | fail) only [go_sem, ↓reduceIte, rem64K, quo64K, remI64K, quoI64K, mulK64, mk_empty, sl_3n, app_nil_map, mk_i64, max_nat, h5, hx]
    refine cond_split (fun hc => ?_) (fun hc => ?_)
    · simp +decide (disch := first | omega | rfl | (simp +decide only [go_sem, ↓reduceIte] <;> rfl) | fail) only [go_sem, ↓reduceIte, rem64K, quo64K, remI64K, quoI64K, mulK64, mk_empty, sl_3n, app_nil_map, mk_i64, max_nat]
      refine retV_eq (congrArg PV.bool ?_) rfl
      cases hz : zerosOk a m with
      | false => rfl
      | true => rw [zerosOk_iff] at hz; have := hz i hi'; rw [he] at this; exact absurd this hc
    · simp +decide (disch := first | omega | rfl | (simp +decide only [go_sem, ↓reduceIte, h5] <;> rfl) | fail) only [go_sem, ↓reduceIte, rem64K, quo64K, remI64K, quoI64K, mulK64, mk_empty, sl_3n, app_nil_map, mk_i64, max_nat, h5]
      refine back_ovr (a.length - (i + 1)) (by omega) ⟨i + 1, rfl, by omega, fun j hj => ?_, ?_⟩
      · by_cases hji : j = i
        · subst hji; rw [he]; exact Decidable.not_not.1 hc
        · exact h1 j (by omega)
      · simp +decide (disch := first | omega | rfl | (simp +decide only [go_sem, ↓reduceIte] <;> rfl) | fail) only [go_sem, ↓reduceIte, rem64K, quo64K, remI64K, quoI64K, mulK64, mk_empty, sl_3n, app_nil_map, mk_i64, max_nat]
  · obtain rfl : i = a.length := by omega
    simp +decide (disch := first | omega | rfl | (simp +decide only [go_sem, ↓reduceIte] <;> rfl) | fail) only [go_sem, ↓reduceIte, rem64K, quo64K, remI64K, quoI64K, mulK64, mk_empty, sl_3n, app_nil_map, mk_i64, max_nat]
    exact retV_eq (congrArg PV.bool (zerosOk_iff.2 h1).symm) rfl
end Go.Proofs.YtjkbalanglgoiaaGreat
namespace Go.Proofs.YtjkbalanglgoiaaGreat
open Go Go.FW
set_option linter.unusedSimpArgs false
set_option linter.unusedVariables false
set_option maxRecDepth 100000
end Go.Proofs.YtjkbalanglgoiaaGreat
namespace Go.Proofs.YtjkbalanglgoiaaGreat
open Go Go.FW
set_option linter.unusedSimpArgs false
set_option linter.unusedVariables false
set_option maxRecDepth 100000
theorem r6_Norm_id {p : List Tm} {K E : Nat} (hp : PB K E p) (hn : Nrm p) (hK : K ≤ 2 ^ 32) (hE : E ≤ 1048576) (hl : p.length ≤ 2 ^ 36) : FnSpec Tryz.prog 43 [PV.poly p] (· = PV.poly p) := by
  refine fn_of_vc mixed Tryz.func43 rfl c43_ok (by simp [c43]) fun C hP => ?_; simp only [c43]
  simp +decide (disch := first | omega | rfl | (simp +decide only [go_sem, ↓reduceIte] <;> rfl) | fail) only [go_sem, ↓reduceIte, rem64K, quo64K, remI64K, quoI64K, mulK64, mk_empty, sl_3n, app_nil_map, mk_i64, max_nat]
  refine vc_nilD 3 4 (by simp +decide (disch := first | omega | rfl | (simp +decide only [go_sem, ↓reduceIte] <;> rfl) | fail) only [go_sem, ↓reduceIte, rem64K, quo64K, remI64K, quoI64K, mulK64, mk_empty, sl_3n, app_nil_map, mk_i64, max_nat]) ?_
  refine vc_loopF (by repeat (first | exact okSk_ret | exact okSk_retM | exact okSk_retO | apply okSk_back | apply okSk_out | apply okSk_eb | apply okSk_c | apply okSk_o | apply okSk_again | apply okSk_backW)) [(3, 32)] [] (fun n J hp => ∃ i, n = p.length - i ∧ i ≤ p.length ∧ J 3 = PV.poly (p.take i) ∧ J 4 = .int .i64 (i : Nat)) p.length ?_ ?_
  · refine ⟨0, rfl, by omega, ?_⟩
    simp +decide (disch := first | omega | rfl | (simp +decide only [go_sem, ↓reduceIte] <;> rfl) | fail) only [go_sem, ↓reduceIte, rem64K, quo64K, remI64K, quoI64K, mulK64, mk_empty, sl_3n, app_nil_map, mk_i64, max_nat]
    simp
  rintro _ J h ⟨i, rfl, hi, h3, h4⟩
  simp +decide (disch := first | omega | rfl | (simp +decide only [go_sem, ↓reduceIte, h3, h4] <;> rfl) | fail) only [go_sem, ↓reduceIte, rem64K, quo64K, remI64K, quoI64K, mulK64, mk_empty, sl_3n, app_nil_map, mk_i64, max_nat, h3, h4]
  refine cond_split (fun hg => ?_) (fun hg => ?_)
  · have hi' : i < p.length := by omega
    have htp := hp.get hi'
    have htk := paddT_take hn hi'
    have hni := hn.take i
    have hbi := hp.take i
    have hll : (p.take i).length ≤ p.length := List.length_take_le' _ _
    generalize hx : p[i] = x at *
    have hml := htp.m.len
    have hok : monoOk x.2 = true := monoOk_of htp.m hE htp.l
    have htr : trimI x.2 = x.2 := trimI_of htp.l
    have hz := zerosOk_norm x.2
    rw [htr, hok, if_pos rfl] at hz
    have hcx := htp.c
    simp +decide (disch := first | omega | rfl | (simp +decide only [go_sem, ↓reduceIte, h3, h4, hx] <;> rfl) | fail) only [go_sem, ↓reduceIte, rem64K, quo64K, remI64K, quoI64K, mulK64, mk_empty, sl_3n, app_nil_map, mk_i64, max_nat, h3, h4, hx]
    refine call_eq0 hP (r5_Norm_spec (by omega)) rfl rfl rfl ?_
    rw [htr, if_pos hok]
    simp +decide (disch := first | omega | rfl | (simp +decide only [go_sem, ↓reduceIte, h3, h4, hx] <;> rfl) | fail) only [go_sem, ↓reduceIte, rem64K, quo64K, remI64K, quoI64K, mulK64, mk_empty, sl_3n, app_nil_map, mk_i64, max_nat, h3, h4, hx]
    refine call_eq0 hP (r6_zeros_spec (m := x.2) (by omega) (by omega)) rfl rfl rfl ?_
    rw [hz]
    simp +decide (disch := first | omega | rfl | (simp +decide only [go_sem, ↓reduceIte, h3, h4, hx] <;> rfl) | fail) only [go_sem, ↓reduceIte, rem64K, quo64K, remI64K, quoI64K, mulK64, mk_empty, sl_3n, app_nil_map, mk_i64, max_nat, h3, h4, hx]
    have hadd := r6_add_spec (K := K) (E := E) (k := K) hbi hni.s hni.z (raw_of (q := x.1) (k := K) (by omega)) (by omega) htp.m htp.l (by omega) (by omega) (by omega)
    rw [rv_of, htk] at hadd
    refine call_eq0 hP hadd rfl rfl rfl ?_
    simp +decide (disch := first | omega | rfl | (simp +decide only [go_sem, ↓reduceIte, h3, h4, hx] <;> rfl) | fail) only [go_sem, ↓reduceIte, rem64K, quo64K, remI64K, quoI64K, mulK64, mk_empty, sl_3n, app_nil_map, mk_i64, max_nat, h3, h4, hx]
    refine back_ovr (p.length - (i + 1)) (by omega) ⟨i + 1, rfl, by omega, ?_⟩
    simp +decide (disch := first | omega | rfl | (simp +decide only [go_sem, ↓reduceIte] <;> rfl) | fail) only [go_sem, ↓reduceIte, rem64K, quo64K, remI64K, quoI64K, mulK64, mk_empty, sl_3n, app_nil_map, mk_i64, max_nat]
  · obtain rfl : i = p.length := by omega
    rw [List.take_length] at h3
    simp +decide (disch := first | omega | rfl | (simp +decide only [go_sem, ↓reduceIte, h3] <;> rfl) | fail) only [go_sem, ↓reduceIte, rem64K, quo64K, remI64K, quoI64K, mulK64, mk_empty, sl_3n, app_nil_map, mk_i64, max_nat, h3]
    exact retV_eq rfl rfl
theorem exi_iff {v : Int} {i : Nat} (h : i < 64) : ((i : Int) = v) ↔ exi v = i := by unfold exi; split <;> omega
theorem r8_without_spec {a : List Int} {v : Int} {E : Nat} (ha : MB E a) (hE : E ≤ 1048576) : FnSpec Tryz.prog 138 [PV.mono a, .int .i64 v] (· = PV.mono (dropM a (exi v))) := by
  have hml := ha.len
  have hok := dropM_ok ha hE (exi v)
  have hsl : (a.set (exi v) 0).length = a.length := by simp
  refine fn_of_vc mixed Tryz.func138 rfl c138_ok (by simp [c138]) fun C hP => ?_; simp only [c138]
  simp +decide (disch := first | omega | rfl | (simp +decide only [go_sem, ↓reduceIte] <;> rfl) | fail) only [go_sem, ↓reduceIte, rem64K, quo64K, remI64K, quoI64K, mulK64, mk_empty, sl_3n, app_nil_map, mk_i64, max_nat]
  refine vc_nilF 5 900 1 3 (by omega) (by simp +decide (disch := first | omega | rfl | (simp +decide only [go_sem, ↓reduceIte] <;> rfl) | fail) only [go_sem, ↓reduceIte, rem64K, quo64K, remI64K, quoI64K, mulK64, mk_empty, sl_3n, app_nil_map, mk_i64, max_nat]) ?_
  refine vc_loopF (by repeat (first | exact okSk_ret | exact okSk_retM | exact okSk_retO | apply okSk_back | apply okSk_out | apply okSk_eb | apply okSk_c | apply okSk_o | apply okSk_again | apply okSk_backW)) [(5, 25)] [17, 18, 24, 25, 900] (fun n J hp => ∃ i out, n = a.length - i ∧ i ≤ a.length ∧ out = (a.set (exi v) 0).take i ∧ J 5 = .ms 900 out.length ∧ J 6 = .int .i64 (i : Nat) ∧ hp 900 = some ⟨1, 3, i64s out, false⟩) a.length ?_ ?_
  · refine ⟨0, [], rfl, by omega, rfl, ?_⟩
    simp +decide (disch := first | omega | rfl | (simp +decide only [go_sem, ↓reduceIte] <;> rfl) | fail) only [go_sem, ↓reduceIte, rem64K, quo64K, remI64K, quoI64K, mulK64, mk_empty, sl_3n, app_nil_map, mk_i64, max_nat]
    rfl
  rintro _ J h ⟨i, out, rfl, hi, hout, h5, h6, hh⟩
  have hol : out.length = i := by rw [hout, List.length_take]; omega
  simp +decide (disch := first | omega | rfl | (simp +decide only [go_sem, ↓reduceIte, h5, h6] <;> rfl) | fail) only [go_sem, ↓reduceIte, rem64K, quo64K, remI64K, quoI64K, mulK64, mk_empty, sl_3n, app_nil_map, mk_i64, max_nat, h5, h6]
  refine cond_split (fun hg => ?_) (fun hg => ?_)
  · have hi' : i < a.length := by omega
    have htk : (a.set (exi v) 0).take (i + 1) = (a.set (exi v) 0).take i ++ [if exi v = i then 0 else a[i]] := by
      rw [List.take_succ_eq_append_getElem (by omega), List.getElem_set]
    have hiff := exi_iff (v := v) (i := i) (by omega)
    generalize hx : a[i] = x at *
    simp +decide (disch := first | omega | rfl | (simp +decide only [go_sem, ↓reduceIte, h5, h6, hx] <;> rfl) | fail) only [go_sem, ↓reduceIte, rem64K, quo64K, remI64K, quoI64K, mulK64, mk_empty, sl_3n, app_nil_map, mk_i64, max_nat, h5, h6, hx]
    refine cond_split (fun hc => ?_) (fun hc => ?_)
    · rw [if_pos (hiff.1 hc)] at htk
      simp +decide (disch := first | omega | rfl | (simp +decide only [go_sem, ↓reduceIte, h5, h6, hx] <;> rfl) | fail) only [go_sem, ↓reduceIte, rem64K, quo64K, remI64K, quoI64K, mulK64, mk_empty, sl_3n, app_nil_map, mk_i64, max_nat, h5, h6, hx]
      rw [app_push_map (f := fun (x : Int) => .int .i64 x) (y := (0 : Int)) (xs := out) (ty' := 3) (fz := false) (by simp +decide (disch := first | omega | rfl | (simp +decide only [go_sem, ↓reduceIte, hh] <;> rfl) | fail) only [go_sem, ↓reduceIte, rem64K, quo64K, remI64K, quoI64K, mulK64, mk_empty, sl_3n, app_nil_map, mk_i64, max_nat, hh]) (by simp +decide (disch := first | omega | rfl | (simp +decide only [go_sem, ↓reduceIte] <;> rfl) | fail) only [go_sem, ↓reduceIte, rem64K, quo64K, remI64K, quoI64K, mulK64, mk_empty, sl_3n, app_nil_map, mk_i64, max_nat] <;> rfl) (by omega) rfl (by omega) (by omega)]
      simp +decide (disch := first | omega | rfl | (simp +decide only [go_sem, ↓reduceIte, h5, h6, hx] <;> rfl) | fail) only [go_sem, ↓reduceIte, rem64K, quo64K, remI64K, quoI64K, mulK64, mk_empty, sl_3n, app_nil_map, mk_i64, max_nat, h5, h6, hx]
      refine back_ovr (a.length - (i + 1)) (by omega) ⟨i + 1, out ++ [(0 : Int)], rfl, by omega, by rw [htk, hout], ?_⟩
      simp +decide (disch := first | omega | rfl | (simp +decide only [go_sem, ↓reduceIte, List.length_append] <;> rfl) | fail) only [go_sem, ↓reduceIte, rem64K, quo64K, remI64K, quoI64K, mulK64, mk_empty, sl_3n, app_nil_map, mk_i64, max_nat, List.length_append]
    · rw [if_neg (fun h => hc (hiff.2 h))] at htk
      simp +decide (disch := first | omega | rfl | (simp +decide only [go_sem, ↓reduceIte, h5, h6, hx] <;> rfl) | fail) only [go_sem, ↓reduceIte, rem64K, quo64K, remI64K, quoI64K, mulK64, mk_empty, sl_3n, app_nil_map, mk_i64, max_nat, h5, h6, hx]
      rw [app_push_map (f := fun (x : Int) => .int .i64 x) (y := x) (xs := out) (ty' := 3) (fz := false) (by simp +decide (disch := first | omega | rfl | (simp +decide only [go_sem, ↓reduceIte, hh] <;> rfl) | fail) only [go_sem, ↓reduceIte, rem64K, quo64K, remI64K, quoI64K, mulK64, mk_empty, sl_3n, app_nil_map, mk_i64, max_nat, hh]) (by simp +decide (disch := first | omega | rfl | (simp +decide only [go_sem, ↓reduceIte] <;> rfl) | fail) only [go_sem, ↓reduceIte, rem64K, quo64K, remI64K, quoI64K, mulK64, mk_empty, sl_3n, app_nil_map, mk_i64, max_nat] <;> rfl) (by omega) rfl (by omega) (by omega)]
      simp +decide (disch := first | omega | rfl | (simp +decide only [go_sem, ↓reduceIte, h5, h6, hx] <;> rfl) | fail) only [go_sem, ↓reduceIte, rem64K, quo64K, remI64K, quoI64K, mulK64, mk_empty, sl_3n, app_nil_map, mk_i64, max_nat, h5, h6, hx]
      refine back_ovr (a.length - (i + 1)) (by omega) ⟨i + 1, out ++ [x], rfl, by omega, by rw [htk, hout], ?_⟩
      simp +decide (disch := first | omega | rfl | (simp +decide only [go_sem, ↓reduceIte, List.length_append] <;> rfl) | fail) only [go_sem, ↓reduceIte, rem64K, quo64K, remI64K, quoI64K, mulK64, mk_empty, sl_3n, app_nil_map, mk_i64, max_nat, List.length_append]
  · obtain rfl : i = a.length := by omega
    rw [List.take_of_length_le (by omega)] at hout
    subst hout
    simp +decide (disch := first | omega | rfl | (simp +decide only [go_sem, ↓reduceIte, h5, hh] <;> rfl) | fail) only [go_sem, ↓reduceIte, rem64K, quo64K, remI64K, quoI64K, mulK64, mk_empty, sl_3n, app_nil_map, mk_i64, max_nat, h5, hh]
    refine call_eq hP (r5_Norm_spec (a := a.set (exi v) 0) (by omega)) (by simp +decide (disch := first | omega | rfl | (simp +decide only [go_sem, ↓reduceIte, hh, looks3, List.contains_cons, List.contains_nil, List.flatMap_cons, List.flatMap_nil, List.append_nil] <;> rfl) | fail) only [go_sem, ↓reduceIte, rem64K, quo64K, remI64K, quoI64K, mulK64, mk_empty, sl_3n, app_nil_map, mk_i64, max_nat, hh, looks3, List.contains_cons, List.contains_nil, List.flatMap_cons, List.flatMap_nil, List.append_nil]; simp [List.take_of_length_le]) rfl ?_
    rw [show trimI (a.set (exi v) 0) = dropM a (exi v) from rfl, if_pos hok]
    simp +decide (disch := first | omega | rfl | (simp +decide only [go_sem, ↓reduceIte] <;> rfl) | fail) only [go_sem, ↓reduceIte, rem64K, quo64K, remI64K, quoI64K, mulK64, mk_empty, sl_3n, app_nil_map, mk_i64, max_nat]
    exact retV_eq rfl rfl
theorem r8_power_spec {v n : Nat} (hv : v < 64) (hn : n ≤ 1048576) : FnSpec Tryz.prog 72 [.int .i64 v, .int .i64 n] (· = PV.poly (ppx v n)) := by
  have hlr : v < (List.replicate (v + 1) (0 : Int)).length := by simp
  have hone := rs_1
  refine fn_of_vc mixed Tryz.func72 rfl c72_ok (by simp [c72]) fun C hP => ?_; simp only [c72]
  simp +decide (disch := first | omega | rfl | (simp +decide only [go_sem, ↓reduceIte] <;> rfl) | fail) only [go_sem, ↓reduceIte, rem64K, quo64K, remI64K, quoI64K, mulK64, mk_empty, sl_3n, app_nil_map, mk_i64, max_nat]
  refine guard_splitF (fun h0 => ?_) (fun h0 => ?_)
  · obtain rfl : n = 0 := by omega
    simp +decide (disch := first | omega | rfl | (simp +decide only [go_sem, ↓reduceIte] <;> rfl) | fail) only [go_sem, ↓reduceIte, rem64K, quo64K, remI64K, quoI64K, mulK64, mk_empty, sl_3n, app_nil_map, mk_i64, max_nat]
    refine call_eq0 hP (r3_Of_spec (by omega) (by omega)) rfl rfl rfl ?_
    have hC := r6_Const_spec (k := 4) (raw_of (q := ((1 : Int) : Rat)) (k := 4) (by rw [show ((1 : Int) : Rat) = 1 from rfl]; omega)) (by omega)
    rw [rv_of] at hC
    simp +decide (disch := first | omega | rfl | (simp +decide only [go_sem, ↓reduceIte] <;> rfl) | fail) only [go_sem, ↓reduceIte, rem64K, quo64K, remI64K, quoI64K, mulK64, mk_empty, sl_3n, app_nil_map, mk_i64, max_nat]
    refine call_eq0 hP hC rfl rfl rfl ?_
    simp +decide (disch := first | omega | rfl | (simp +decide only [go_sem, ↓reduceIte] <;> rfl) | fail) only [go_sem, ↓reduceIte, rem64K, quo64K, remI64K, quoI64K, mulK64, mk_empty, sl_3n, app_nil_map, mk_i64, max_nat]
    exact retV_eq rfl rfl
  simp +decide (disch := first | omega | rfl | (simp +decide only [go_sem, ↓reduceIte] <;> rfl) | fail) only [go_sem, ↓reduceIte, rem64K, quo64K, remI64K, quoI64K, mulK64, mk_empty, sl_3n, app_nil_map, mk_i64, max_nat]
  refine cond_split (fun h1 => by omega) (fun _ => ?_)
  simp +decide (disch := first | omega | rfl | (simp +decide only [go_sem, ↓reduceIte] <;> rfl) | fail) only [go_sem, ↓reduceIte, rem64K, quo64K, remI64K, quoI64K, mulK64, mk_empty, sl_3n, app_nil_map, mk_i64, max_nat]
  rw [xpow_set v n (by omega), Int.toNat_natCast]
  have hxl : (xpow v n).length = v + 1 := by simp [xpow]
  refine call_eq0 hP (r3_Of_spec (by omega) (by omega)) rfl rfl rfl ?_
  generalize hc : ((1 : Int) : Rat) = c
  have hc1 : c = 1 := hc.symm
  simp +decide (disch := first | omega | rfl | (simp +decide only [go_sem, ↓reduceIte] <;> rfl) | fail) only [go_sem, ↓reduceIte, rem64K, quo64K, remI64K, quoI64K, mulK64, mk_empty, sl_3n, app_nil_map, mk_i64, max_nat]
  rw [bld2o (p := PV.rat c) (e := 1) (ty := 3) (fz := false) (xs := i64s (xpow v n)) rfl (by simp +decide (disch := first | omega | rfl | (simp +decide only [go_sem, ↓reduceIte] <;> rfl) | fail) only [go_sem, ↓reduceIte, rem64K, quo64K, remI64K, quoI64K, mulK64, mk_empty, sl_3n, app_nil_map, mk_i64, max_nat]) (by simp [hxl, i64s])]
  have hp1 : ppx v n = [(c, xpow v n)] := by rw [ppx, if_neg (by omega), hc1]
  have hb1 := ppx_PB (v := v) (n := n) hv
  have hn1 := ppx_nrm v n
  rw [hp1] at hb1 hn1 ⊢
  simp +decide (disch := first | omega | rfl | (simp +decide only [go_sem, ↓reduceIte] <;> rfl) | fail) only [go_sem, ↓reduceIte, rem64K, quo64K, remI64K, quoI64K, mulK64, mk_empty, sl_3n, app_nil_map, mk_i64, max_nat]
  refine call_eq hP (r6_Norm_id hb1 hn1 (by omega) hn (by simp)) (by simp +decide (disch := first | omega | rfl | (simp +decide only [go_sem, ↓reduceIte, looks3, List.contains_cons, List.contains_nil, List.flatMap_cons, List.flatMap_nil, List.append_nil] <;> rfl) | fail) only [go_sem, ↓reduceIte, rem64K, quo64K, remI64K, quoI64K, mulK64, mk_empty, sl_3n, app_nil_map, mk_i64, max_nat, looks3, List.contains_cons, List.contains_nil, List.flatMap_cons, List.flatMap_nil, List.append_nil] <;> rfl) rfl ?_
  simp +decide (disch := first | omega | rfl | (simp +decide only [go_sem, ↓reduceIte] <;> rfl) | fail) only [go_sem, ↓reduceIte, rem64K, quo64K, remI64K, quoI64K, mulK64, mk_empty, sl_3n, app_nil_map, mk_i64, max_nat]
  exact retV_eq rfl rfl
end Go.Proofs.YtjkbalanglgoiaaGreat
namespace Go.Proofs.YtjkbalanglgoiaaGreat
open Go Go.FW
set_option linter.unusedSimpArgs false
set_option linter.unusedVariables false
set_option maxRecDepth 100000
theorem r8_Join_spec {l : List (List Tm)} {v K E L : Nat} (hl : ∀ c ∈ l, PB K E c ∧ c.length ≤ L) (hn : ∀ c ∈ l, Nrm c) (hv : v < 64) (hll : l.length ≤ E) (hK2 : 2 ≤ K) (hE : E ≤ 1048576) (hK : l.length * (K + K) + (K + K) ≤ 2 ^ 30) (hL : l.length * L + L ≤ 2 ^ 30) :
    FnSpec Tryz.prog 19 [PV.polys l, .int .i64 v] (· = PV.poly (pjoinN l v l.length)) := by
  refine fn_of_vc mixed Tryz.func19 rfl c19_ok (by simp [c19]) fun C hP => ?_; simp only [c19]
  simp +decide (disch := first | omega | rfl | (simp +decide only [go_sem, ↓reduceIte] <;> rfl) | fail) only [go_sem, ↓reduceIte, retK_4, rem64K, quo64K, remI64K, quoI64K, mulK64, mk_empty, sl_3n, app_nil_map, mk_i64, max_nat]
  refine vc_nilD 5 4 (by simp +decide (disch := first | omega | rfl | (simp +decide only [go_sem, ↓reduceIte] <;> rfl) | fail) only [go_sem, ↓reduceIte, retK_4, rem64K, quo64K, remI64K, quoI64K, mulK64, mk_empty, sl_3n, app_nil_map, mk_i64, max_nat]) ?_
  refine vc_loopF (by repeat (first | exact okSk_ret | exact okSk_retM | exact okSk_retO | apply okSk_back | apply okSk_out | apply okSk_eb | apply okSk_c | apply okSk_o | apply okSk_again | apply okSk_backW)) [(5, 22)] [] (fun m J hp => ∃ i, m = l.length - i ∧ i ≤ l.length ∧ J 5 = PV.poly (pjoinN l v i) ∧ J 6 = .int .i64 (i : Nat)) l.length ?_ ?_
  · refine ⟨0, rfl, by omega, ?_⟩
    simp +decide (disch := first | omega | rfl | (simp +decide only [go_sem, ↓reduceIte] <;> rfl) | fail) only [go_sem, ↓reduceIte, retK_4, rem64K, quo64K, remI64K, quoI64K, mulK64, mk_empty, sl_3n, app_nil_map, mk_i64, max_nat]
    exact ⟨rfl, rfl⟩
  rintro _ J h ⟨i, rfl, hi, h5, h6⟩
  simp +decide (disch := first | omega | rfl | (simp +decide only [go_sem, ↓reduceIte, h5, h6] <;> rfl) | fail) only [go_sem, ↓reduceIte, retK_4, rem64K, quo64K, remI64K, quoI64K, mulK64, mk_empty, sl_3n, app_nil_map, mk_i64, max_nat, h5, h6]
  refine cond_split (fun hg => ?_) (fun hg => ?_)
  · have hi' : i < l.length := by omega
    obtain ⟨hc1, hc2⟩ := hl _ (List.getElem_mem hi')
    have hcn := hn _ (List.getElem_mem hi')
    have hst := pjoinN_succ (v := v) hi'
    obtain ⟨b1, b2⟩ := pjoin_bound hl hv (n := i) hi hll hK2
    generalize hx : l[i] = x at *
    obtain ⟨b3, b4⟩ := praise_bound hc1 hv (n := i) (by omega) hK2
    have m1 : i * (K + K) + (K + K) ≤ l.length * (K + K) + (K + K) := by have := Nat.mul_le_mul_right (K + K) hi; omega
    have m2 : i * L ≤ l.length * L := Nat.mul_le_mul_right _ hi
    have m3 : 0 < l.length := by omega
    have m4 : K + K ≤ l.length * (K + K) := Nat.le_mul_of_pos_left _ m3
    have pl := ppx_len v i
    have pb := ppx_PB (v := v) (n := i) hv
    have pn := ppx_nrm v i
    have hpe := praise_eq hcn v i
    have hpow := r8_power_spec hv (n := i) (by omega)
    generalize ppx v i = y at *
    simp +decide (disch := first | omega | rfl | (simp +decide only [go_sem, ↓reduceIte, h5, h6, hx] <;> rfl) | fail) only [go_sem, ↓reduceIte, retK_4, rem64K, quo64K, remI64K, quoI64K, mulK64, mk_empty, sl_3n, app_nil_map, mk_i64, max_nat, h5, h6, hx]
    refine call_eq0 hP hpow rfl rfl rfl ?_
    simp +decide (disch := first | omega | rfl | (simp +decide only [go_sem, ↓reduceIte, h5, h6, hx] <;> rfl) | fail) only [go_sem, ↓reduceIte, retK_4, rem64K, quo64K, remI64K, quoI64K, mulK64, mk_empty, sl_3n, app_nil_map, mk_i64, max_nat, h5, h6, hx]
    refine call_eq0 hP (r6_Mul_spec hc1 (pb.mono hK2 (by omega)) hcn.z pn.z (by omega) (by omega) (by omega) (by rw [pl]; omega) (by rw [pl]; omega)) rfl rfl rfl ?_
    rw [pmulR_eq hcn pn, hpe]
    simp +decide (disch := first | omega | rfl | (simp +decide only [go_sem, ↓reduceIte, h5, h6, hx] <;> rfl) | fail) only [go_sem, ↓reduceIte, retK_4, rem64K, quo64K, remI64K, quoI64K, mulK64, mk_empty, sl_3n, app_nil_map, mk_i64, max_nat, h5, h6, hx]
    refine call_eq0 hP (r6_Add_spec (K := i * (K + K) + (K + K)) (E := E + E) (b1.mono (by omega) (Nat.le_refl _)) (b3.mono (by omega) (Nat.le_refl _)) (by omega) (by omega) (by omega) (by omega)) rfl rfl rfl ?_
    simp +decide (disch := first | omega | rfl | (simp +decide only [go_sem, ↓reduceIte, h5, h6, hx] <;> rfl) | fail) only [go_sem, ↓reduceIte, retK_4, rem64K, quo64K, remI64K, quoI64K, mulK64, mk_empty, sl_3n, app_nil_map, mk_i64, max_nat, h5, h6, hx]
    refine back_ovr (l.length - (i + 1)) (by omega) ⟨i + 1, rfl, by omega, ?_⟩
    rw [hst]
    simp +decide (disch := first | omega | rfl | (simp +decide only [go_sem, ↓reduceIte] <;> rfl) | fail) only [go_sem, ↓reduceIte, retK_4, rem64K, quo64K, remI64K, quoI64K, mulK64, mk_empty, sl_3n, app_nil_map, mk_i64, max_nat]
  · obtain rfl : i = l.length := by omega
    simp +decide (disch := first | omega | rfl | (simp +decide only [go_sem, ↓reduceIte, h5] <;> rfl) | fail) only [go_sem, ↓reduceIte, retK_4, rem64K, quo64K, remI64K, quoI64K, mulK64, mk_empty, sl_3n, app_nil_map, mk_i64, max_nat, h5]
    exact retV_eq rfl rfl
end Go.Proofs.YtjkbalanglgoiaaGreat
namespace Go.FW
open Go
def divM (a b : List Int) : Bool := (List.range a.length).all fun i => decide (eN a i ≤ eN b i)
theorem divM_iff {k : Nat} {a b : List Int} (hb : MB k b) : divM a b = true ↔ ∀ i, eN a i ≤ eN b i := by
  unfold divM
  rw [List.all_eq_true]
  constructor
  · intro h i
    by_cases hi : i < a.length
    · exact of_decide_eq_true (h i (List.mem_range.2 hi))
    · rw [eN_ge (by omega)]; exact (hb.eN i).1
  · intro h i _
    exact decide_eq_true (h i)
theorem divM_false {a b : List Int} {i : Nat} (hi : i < a.length) (h : ¬ eN a i ≤ eN b i) : divM a b = false := by
  unfold divM
  rw [List.all_eq_false]
  exact ⟨i, List.mem_range.2 hi, by simpa using h⟩
theorem divM_true {a b : List Int} (h : ∀ i, i < a.length → eN a i ≤ eN b i) : divM a b = true := by
  unfold divM
  rw [List.all_eq_true]
  intro i hi
  exact decide_eq_true (h i (List.mem_range.1 hi))
def quoM (a b : List Int) : List Int := trimI (zipI (· - ·) a b)
theorem quoM_eN (a b : List Int) (i : Nat) : eN (quoM a b) i = eN a i - eN b i := by rw [quoM, trimI_eN, zipI_eN (by simp)]
theorem quoM_last (a b : List Int) : (quoM a b).getLast? ≠ some 0 := trimI_last _
theorem quoM_MB {k : Nat} {a b : List Int} {l : Nat} (ha : MB k a) (hb : MB l b) (h : divM b a = true) : MB k (quoM a b) := by
  have hd := (divM_iff ha).1 h
  have hl : (quoM a b).length ≤ 64 := by
    have h1 := trimI_length (zipI (· - ·) a b)
    rw [zipI_length] at h1
    have := ha.len
    have := hb.len
    unfold quoM; omega
  have key : ∀ x ∈ quoM a b, ∃ i, x = eN a i - eN b i := fun x hx => by
    obtain ⟨i, hi, rfl⟩ := List.getElem_of_mem hx
    exact ⟨i, by rw [← quoM_eN, eN_lt hi]⟩
  refine ⟨hl, fun x hx => ?_, fun x hx => ?_⟩
  all_goals
    obtain ⟨i, rfl⟩ := key x hx
    have := hd i
    have := ha.eN i
    have := hb.eN i
    omega
theorem quoM_mul {k l : Nat} {a b : List Int} (ha : MB k a) (hb : MB l b) (hl : a.getLast? ≠ some 0) (h : divM b a = true) : mulM (quoM a b) b = a :=
  mono_ext (mulM_last _ _) hl fun i => by rw [mulM_eN, quoM_eN]; omega
theorem rat_div_zz (x y : Int) (hy : y ≠ 0) : mkRat (zv (decide (x < 0) != decide (y < 0)) (dig x.natAbs)) y.natAbs = (x : Rat) / (y : Rat) := by
  rw [Rat.mkRat_eq_div, zv_num, ← Rat.intCast_natCast]
  have h3 : (y : Rat) ≠ 0 := by rw [Ne, Rat.intCast_eq_zero_iff]; exact hy
  by_cases hy0 : y < 0
  · have e2 : (((y.natAbs : Nat) : Int) : Rat) = - (y : Rat) := by rw [← Rat.intCast_neg]; congr 1; omega
    have e1 : (if (decide (x < 0) != decide (y < 0)) = true then -(x.natAbs : Int) else x.natAbs) = -x := by
      by_cases hx : x < 0 <;> simp [hx, hy0] <;> omega
    rw [e1, e2, Rat.intCast_neg]
    grind
  · have e2 : (((y.natAbs : Nat) : Int) : Rat) = (y : Rat) := by congr 1; omega
    have e1 : (if (decide (x < 0) != decide (y < 0)) = true then -(x.natAbs : Int) else x.natAbs) = x := by
      by_cases hx : x < 0 <;> simp [hx, hy0] <;> omega
    rw [e1, e2]
theorem rv_div {n m : Bool} {a d b c : List Nat} (hd : val d ≠ 0) (hc : val c ≠ 0) (hb : zv m b ≠ 0) : ((zv n a * (val c : Int) : Int) : Rat) / ((zv m b * (val d : Int) : Int) : Rat) = rv n a d / rv m b c := by
  have h1 : ((val d : Int) : Rat) ≠ 0 := by rw [Ne, Rat.intCast_eq_zero_iff]; omega
  have h2 : ((val c : Int) : Rat) ≠ 0 := by rw [Ne, Rat.intCast_eq_zero_iff]; omega
  have h3 : ((zv m b : Int) : Rat) ≠ 0 := by rw [Ne, Rat.intCast_eq_zero_iff]; exact hb
  unfold rv
  rw [Rat.mkRat_eq_div, Rat.mkRat_eq_div, Rat.intCast_mul, Rat.intCast_mul]
  rw [← Rat.intCast_natCast, ← Rat.intCast_natCast]
  grind
end Go.FW
