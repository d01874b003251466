/- PolyValues holds, for arguments of bulk at most 1048576. -/
import Derived.Test.YtfhmockdgbkpnaaGreatPolyValuesPart10
set_option linter.unusedSimpArgs false
set_option linter.unnecessarySimpa false
set_option linter.unusedVariables false
namespace Go.Proofs.YtfhmockdgbkpnaaGreat
open Go Go.FW
set_option linter.unusedSimpArgs false
set_option linter.unusedVariables false
set_option maxRecDepth 100000
def gK5 : Nat → Nat
  | 0 => 5
  | k + 1 => 5 * (gK5 k + 5) + 5
def gL5 : Nat → Nat
  | 0 => 5
  | k + 1 => gL5 k * 5 + 5
theorem hor_small5 {p q : List Tm} {v top : Nat} (hp : PB 5 4 p) (hq : PB 5 4 q) (hlp : p.length ≤ 5) (hlq : q.length ≤ 5) : ∀ k, PB (gK5 k) (4 * (k + 1)) (hor p v q top k) ∧ (hor p v q top k).length ≤ gL5 k
  | 0 => ⟨coefN_PB hp v _, Nat.le_trans (coefN_length _ _ _) hlp⟩
  | k + 1 => by
    obtain ⟨h1, h2⟩ := hor_small5 (v := v) (top := top) hp hq hlp hlq k
    obtain ⟨h3, h4⟩ := pmul_bound h1 hq
    have hc := coefN_PB hp v ((top : Int) - (k + 1))
    have hcl := coefN_length p v ((top : Int) - (k + 1))
    have h5 : (hor p v q top k).length * q.length ≤ gL5 k * 5 := Nat.mul_le_mul h2 hlq
    refine ⟨padd_PB _ _ (h3.mono (Nat.mul_le_mul_right _ (by omega)) (by omega)) (hc.mono (Nat.le_refl _) (by omega)), Nat.le_trans (padd_length _ _) ?_⟩
    show _ ≤ gL5 k * 5 + 5
    omega
theorem g5_le {k : Nat} (h : k ≤ 4) : gK5 k ≤ 20000 ∧ gL5 k ≤ 4000 := by
  have : k = 0 ∨ k = 1 ∨ k = 2 ∨ k = 3 ∨ k = 4 := by omega
  rcases this with rfl | rfl | rfl | rfl | rfl <;> decide
theorem eval_ok {p : List Tm} {vs : List Rat} {K E W n : Nat} (hp : PB K E p) (hv : ∀ v ∈ vs, rs v ≤ W) (hW : 1 ≤ W) (hB : 1 + p.length * (K + 64 * (1 + W * E)) + (K + 64 * (1 + W * E)) ≤ 2 ^ 33) (hE : E ≤ 2 ^ 38) (hlp : p.length ≤ 2 ^ 36) (hlv : vs.length ≤ 2 ^ 36) (hm : ML n p) (hn : n ≤ vs.length) :
    FnSpec Tryz.prog 19 [PV.poly p, PV.rats vs] (· = .tup [PV.rat (peval vs p), .int .i64 0]) := by
  have := p_Eval_spec hp hv hW hB hE hlp hlv
  rwa [evR, if_neg (by simp [hm.pout hn])] at this
theorem subst_val {p q : List Tm} {vs : List Rat} (bp : PB 5 4 p) (bq : PB 5 4 q) (np : Nrm p) (nq : Nrm q) (lp : p.length ≤ 5) (lq : q.length ≤ 5) (mp : ML 4 p) (mq : ML 4 q) (hv : 4 ≤ vs.length) :
    ∃ s, FnSpec Tryz.prog 47 [PV.poly p, .int .i64 1, PV.poly q] (· = .tup [PV.poly s, .int .i64 0]) ∧ PB 20000 20 s ∧ s.length ≤ 4000 ∧ ML 4 s ∧ peval vs s = peval (vs.set 1 (peval vs q)) p := by
  by_cases h0 : p = []
  · subst h0
    exact ⟨[], p_Subst_nil (v := 1) (by omega), PB.nil _ _, by simp, (fun t ht => by cases ht), rfl⟩
  have h0' := List.length_pos_iff.2 h0
  obtain ⟨top, ht, htl⟩ := ptop_small (v := 1) bp
  have hb : ∀ k, k ≤ top → PB 20000 20 (hor p 1 q top k) ∧ (hor p 1 q top k).length ≤ 4000 := fun k hk => by
    have key : ∀ k, PB (gK5 k) (4 * (k + 1)) (hor p 1 q top k) ∧ (hor p 1 q top k).length ≤ gL5 k := hor_small5 bp bq lp lq
    obtain ⟨h1, h2⟩ := key k
    obtain ⟨h3, h4⟩ := g5_le (k := k) (by omega)
    exact ⟨h1.mono h3 (by omega), by omega⟩
  have s1 := p_Subst_spec (K := 20000) (E := 20) (L := 4000) (top := top) (v := 1) (bp.mono (by omega) (by omega)) (bq.mono (by omega) (by omega)) (by omega) h0' (by omega) (by omega) (by omega) (by omega) (by omega) (by omega) ht (by omega) hb
  have hno : horL p 1 q top (top + 1) = false := by
    unfold horL; rw [List.any_eq_false]; intro k hk
    have := hb k (by have := List.mem_range.1 hk; omega)
    rw [plarge_small this.1 (by omega) this.2]; simp
  rw [subR, if_neg (by simp [hno])] at s1
  obtain ⟨b1, b2⟩ := hb top (Nat.le_refl _)
  exact ⟨_, s1, b1, b2, mp.hor mq 1 top top, peval_subst (K := 20000) (E := 20) (fun k hk => (hb k hk).1) np (bp.mono (by omega) (by omega)) (bq.mono (by omega) (by omega)) nq ht (by omega)⟩
theorem lead_ok {p : List Tm} {o : Int} {K E : Nat} (hp : PB K E p) (h0 : p ≠ []) (hE : E ≤ 2 ^ 38) (hlp : p.length ≤ 2 ^ 36) : FnSpec Tryz.prog 25 [PV.poly p, .int .i64 o] (· = .tup [PV.term (plt o p), .bool true]) := by
  have h := p_Lead_spec (o := o) hp (List.length_pos_iff.2 h0) hE hlp
  rwa [plt_get] at h
theorem pmul_nil {p q : List Tm} (h : p = [] ∨ q = []) : pmul p q = [] := by
  rw [List.eq_nil_iff_forall_not_mem]
  intro t ht
  obtain ⟨a, ha, b, hb, _⟩ := mem_pmul ht
  rcases h with rfl | rfl
  · cases ha
  · cases hb
theorem PolyValues_walk {p q : List RTm} {l : List RQ} {k : Nat} (hb : ∀ t ∈ p, RB k t) (hb2 : ∀ t ∈ q, RB k t) (hq : ∀ q ∈ l, Raw k q.n q.a q.d) (hk1 : 1 ≤ k) (hk : k < 2 ^ 36) (hl : p.length < 2 ^ 40) (hl2 : q.length < 2 ^ 40) (hl3 : l.length < 2 ^ 40) :
    FnSpec Tryz.prog 10 [PV.rpoly p, PV.rpoly q, PV.rqs l] (· = .bool true) := by
  refine fn_of_vc mixed Tryz.func10 rfl c10_ok (by simp [c10]) fun C hP => ?_; simp only [c10]
  simp +decide (disch := first | omega | rfl | (simp +decide only [go_sem, ↓reduceIte] <;> rfl) | fail) only [go_sem, ↓reduceIte, rem64K, quo64K, remI64K, quoI64K, mulK64, mk_empty, sl_3n, app_nil_map, mk_i64, max_nat]
  refine call_eq0 hP (r6_Small_spec (n := 5) (v := 4) (e := (4 : Nat)) hb hk1 hk hl) rfl rfl rfl ?_
  simp +decide (disch := first | omega | rfl | (simp +decide only [go_sem, ↓reduceIte] <;> rfl) | fail) only [go_sem, ↓reduceIte, rem64K, quo64K, remI64K, quoI64K, mulK64, mk_empty, sl_3n, app_nil_map, mk_i64, max_nat]
  cases hs1 : small 5 4 (4 : Nat) p
  · simp +decide (disch := first | omega | rfl | (simp +decide only [go_sem, ↓reduceIte] <;> rfl) | fail) only [go_sem, ↓reduceIte, rem64K, quo64K, remI64K, quoI64K, mulK64, mk_empty, sl_3n, app_nil_map, mk_i64, max_nat]
    refine call_eq0 hP alive_spec rfl rfl rfl ?_
    simp +decide (disch := first | omega | rfl | (simp +decide only [go_sem, ↓reduceIte] <;> rfl) | fail) only [go_sem, ↓reduceIte, rem64K, quo64K, remI64K, quoI64K, mulK64, mk_empty, sl_3n, app_nil_map, mk_i64, max_nat]
    exact retV_eq rfl rfl
  simp +decide (disch := first | omega | rfl | (simp +decide only [go_sem, ↓reduceIte] <;> rfl) | fail) only [go_sem, ↓reduceIte, rem64K, quo64K, remI64K, quoI64K, mulK64, mk_empty, sl_3n, app_nil_map, mk_i64, max_nat]
  refine call_eq0 hP (r6_Small_spec (n := 5) (v := 4) (e := (4 : Nat)) hb2 hk1 hk hl2) rfl rfl rfl ?_
  simp +decide (disch := first | omega | rfl | (simp +decide only [go_sem, ↓reduceIte] <;> rfl) | fail) only [go_sem, ↓reduceIte, rem64K, quo64K, remI64K, quoI64K, mulK64, mk_empty, sl_3n, app_nil_map, mk_i64, max_nat]
  cases hs2 : small 5 4 (4 : Nat) q
  · simp +decide (disch := first | omega | rfl | (simp +decide only [go_sem, ↓reduceIte] <;> rfl) | fail) only [go_sem, ↓reduceIte, rem64K, quo64K, remI64K, quoI64K, mulK64, mk_empty, sl_3n, app_nil_map, mk_i64, max_nat]
    refine call_eq0 hP alive_spec rfl rfl rfl ?_
    simp +decide (disch := first | omega | rfl | (simp +decide only [go_sem, ↓reduceIte] <;> rfl) | fail) only [go_sem, ↓reduceIte, rem64K, quo64K, remI64K, quoI64K, mulK64, mk_empty, sl_3n, app_nil_map, mk_i64, max_nat]
    exact retV_eq rfl rfl
  simp +decide (disch := first | omega | rfl | (simp +decide only [go_sem, ↓reduceIte] <;> rfl) | fail) only [go_sem, ↓reduceIte, rem64K, quo64K, remI64K, quoI64K, mulK64, mk_empty, sl_3n, app_nil_map, mk_i64, max_nat]
  refine call_eq0 hP (values_spec hq hk hl3) rfl rfl rfl ?_
  simp +decide (disch := first | omega | rfl | (simp +decide only [go_sem, ↓reduceIte] <;> rfl) | fail) only [go_sem, ↓reduceIte, rem64K, quo64K, remI64K, quoI64K, mulK64, mk_empty, sl_3n, app_nil_map, mk_i64, max_nat]
  cases hvo : (l.all valOk && decide (l.length ≤ 6))
  · simp +decide (disch := first | omega | rfl | (simp +decide only [go_sem, ↓reduceIte] <;> rfl) | fail) only [go_sem, ↓reduceIte, rem64K, quo64K, remI64K, quoI64K, mulK64, mk_empty, sl_3n, app_nil_map, mk_i64, max_nat]
    refine call_eq0 hP alive_spec rfl rfl rfl ?_
    simp +decide (disch := first | omega | rfl | (simp +decide only [go_sem, ↓reduceIte] <;> rfl) | fail) only [go_sem, ↓reduceIte, rem64K, quo64K, remI64K, quoI64K, mulK64, mk_empty, sl_3n, app_nil_map, mk_i64, max_nat]
    exact retV_eq rfl rfl
  simp +decide (disch := first | omega | rfl | (simp +decide only [go_sem, ↓reduceIte] <;> rfl) | fail) only [go_sem, ↓reduceIte, rem64K, quo64K, remI64K, quoI64K, mulK64, mk_empty, sl_3n, app_nil_map, mk_i64, max_nat]
  refine cond_split (fun h4 => ?_) (fun h4 => ?_)
  · simp +decide (disch := first | omega | rfl | (simp +decide only [go_sem, ↓reduceIte] <;> rfl) | fail) only [go_sem, ↓reduceIte, rem64K, quo64K, remI64K, quoI64K, mulK64, mk_empty, sl_3n, app_nil_map, mk_i64, max_nat]
    refine call_eq0 hP alive_spec rfl rfl rfl ?_
    simp +decide (disch := first | omega | rfl | (simp +decide only [go_sem, ↓reduceIte] <;> rfl) | fail) only [go_sem, ↓reduceIte, rem64K, quo64K, remI64K, quoI64K, mulK64, mk_empty, sl_3n, app_nil_map, mk_i64, max_nat]
    exact retV_eq rfl rfl
  obtain ⟨_, e1, mP, v1, b1, l1⟩ := small_spec hb hs1
  obtain ⟨_, e2, mQ, v2, b2, l2⟩ := small_spec hb2 hs2
  obtain ⟨e3, rv, lv⟩ := values_ok hq hvo
  have hv4 : 4 ≤ (l.map RQ.q).length := by rw [List.length_map]; omega
  rw [e1, e2, e3]
  clear e1 e2 e3
  generalize p.map RTm.tm = P at *
  generalize q.map RTm.tm = Q at *
  generalize l.map RQ.q = V at *
  have nP := v1.nrm
  have nQ := v2.nrm
  have hP1 : P.length * (5 + 64 * (1 + 2 * 4)) ≤ 5 * (5 + 64 * (1 + 2 * 4)) := Nat.mul_le_mul_right _ l1
  have hQ1 : Q.length * (5 + 64 * (1 + 2 * 4)) ≤ 5 * (5 + 64 * (1 + 2 * 4)) := Nat.mul_le_mul_right _ l2
  have rA := rs_peval b1 rv (by omega) P.length (Nat.le_refl _)
  have rB := rs_peval b2 rv (by omega) Q.length (Nat.le_refl _)
  rw [List.take_length] at rA rB
  have bS := padd_PB _ _ b1 b2
  have lS := padd_length P Q
  have mS : ML 4 (padd P Q) := ML.padd mP mQ
  obtain ⟨bM, lM⟩ := pmul_bound b1 b2
  have lM2 : P.length * Q.length ≤ 5 * 5 := Nat.mul_le_mul l1 l2
  have bM2 : PB 50 8 (pmul P Q) := bM.mono (by
    have : min P.length Q.length * (5 + 5) ≤ 5 * (5 + 5) := Nat.mul_le_mul_right _ (by omega)
    omega) (by omega)
  have mM : ML 4 (pmul P Q) := ML.pmul mP mQ
  have hS1 : (padd P Q).length * (10 + 64 * (1 + 2 * 4)) ≤ 10 * (10 + 64 * (1 + 2 * 4)) := Nat.mul_le_mul_right _ (by omega)
  have hM1 : (pmul P Q).length * (50 + 64 * (1 + 2 * 8)) ≤ 25 * (50 + 64 * (1 + 2 * 8)) := Nat.mul_le_mul_right _ (by omega)
  have sA := eval_ok b1 rv (by omega) (by omega) (by omega) (by omega) (by omega) mP hv4
  have sB := eval_ok b2 rv (by omega) (by omega) (by omega) (by omega) (by omega) mQ hv4
  have sS := eval_ok (K := 10) (bS.mono (by omega) (Nat.le_refl _)) rv (by omega) (by omega) (by omega) (by omega) (by omega) mS hv4
  have sM := eval_ok bM2 rv (by omega) (by omega) (by omega) (by omega) (by omega) mM hv4
  rw [peval_padd nP.c nQ.c] at sS
  rw [peval_pmul b1 b2] at sM
  obtain ⟨S, sSub, bSub, lSub, mSub, eSub⟩ := subst_val (vs := V) b1 b2 nP nQ l1 l2 mP mQ hv4
  have hSub1 : S.length * (20000 + 64 * (1 + 2 * 20)) ≤ 4000 * (20000 + 64 * (1 + 2 * 20)) := Nat.mul_le_mul_right _ lSub
  have sX := eval_ok bSub rv (by omega) (by omega) (by omega) (by omega) (by omega) mSub hv4
  rw [eSub] at sX
  have rvm : ∀ v ∈ V.set 1 (peval V Q), rs v ≤ 3000 := fun v hv => by
    rcases List.mem_or_eq_of_mem_set hv with h | h
    · have := rv v h; omega
    · rw [h]; omega
  have hY1 : P.length * (5 + 64 * (1 + 3000 * 4)) ≤ 5 * (5 + 64 * (1 + 3000 * 4)) := Nat.mul_le_mul_right _ l1
  have hsl : (V.set 1 (peval V Q)).length = V.length := by simp
  have sY := eval_ok b1 rvm (by omega) (by omega) (by omega) (by omega) (by omega) mP (by omega)
  have rY := rs_peval b1 rvm (by omega) P.length (Nat.le_refl _)
  rw [List.take_length] at rY
  generalize hAA : peval V P = A at *
  generalize hBB : peval V Q = B at *
  have rAB := rs_add A B
  have rAM := rs_mul A B
  have mulS : FnSpec Tryz.prog 39 [PV.poly P, PV.poly Q] (· = PV.poly (pmul P Q)) := by
    have : min P.length Q.length * (5 + 5) ≤ 5 * (5 + 5) := Nat.mul_le_mul_right _ (by omega)
    exact p_Mul_spec b1 b2 (by omega) (by omega) (by omega) (by omega) (by omega) (by omega)
  simp +decide (disch := first | omega | rfl | (simp +decide only [go_sem, ↓reduceIte] <;> rfl) | fail) only [go_sem, ↓reduceIte, rem64K, quo64K, remI64K, quoI64K, mulK64, mk_empty, sl_3n, app_nil_map, mk_i64, max_nat]
  refine call_eq0 hP sA rfl rfl rfl ?_
  simp +decide (disch := first | omega | rfl | (simp +decide only [go_sem, ↓reduceIte] <;> rfl) | fail) only [go_sem, ↓reduceIte, rem64K, quo64K, remI64K, quoI64K, mulK64, mk_empty, sl_3n, app_nil_map, mk_i64, max_nat]
  refine call_eq0 hP sB rfl rfl rfl ?_
  simp +decide (disch := first | omega | rfl | (simp +decide only [go_sem, ↓reduceIte] <;> rfl) | fail) only [go_sem, ↓reduceIte, rem64K, quo64K, remI64K, quoI64K, mulK64, mk_empty, sl_3n, app_nil_map, mk_i64, max_nat]
  refine call_eq0 hP (p_Add_spec b1 b2 (by omega) (by omega) (by omega) (by omega)) rfl rfl rfl ?_
  simp +decide (disch := first | omega | rfl | (simp +decide only [go_sem, ↓reduceIte] <;> rfl) | fail) only [go_sem, ↓reduceIte, rem64K, quo64K, remI64K, quoI64K, mulK64, mk_empty, sl_3n, app_nil_map, mk_i64, max_nat]
  refine call_eq0 hP sS rfl rfl rfl ?_
  simp +decide (disch := first | omega | rfl | (simp +decide only [go_sem, ↓reduceIte] <;> rfl) | fail) only [go_sem, ↓reduceIte, rem64K, quo64K, remI64K, quoI64K, mulK64, mk_empty, sl_3n, app_nil_map, mk_i64, max_nat]
  refine call_eq0 hP mulS rfl rfl rfl ?_
  simp +decide (disch := first | omega | rfl | (simp +decide only [go_sem, ↓reduceIte] <;> rfl) | fail) only [go_sem, ↓reduceIte, rem64K, quo64K, remI64K, quoI64K, mulK64, mk_empty, sl_3n, app_nil_map, mk_i64, max_nat]
  refine call_eq0 hP sM rfl rfl rfl ?_
  simp +decide (disch := first | omega | rfl | (simp +decide only [go_sem, ↓reduceIte] <;> rfl) | fail) only [go_sem, ↓reduceIte, rem64K, quo64K, remI64K, quoI64K, mulK64, mk_empty, sl_3n, app_nil_map, mk_i64, max_nat]
  refine call_eq0 hP (q_Add (a := A) (b := B) (k := 20000) (by omega) (by omega) (by omega)) rfl rfl rfl ?_
  simp +decide (disch := first | omega | rfl | (simp +decide only [go_sem, ↓reduceIte] <;> rfl) | fail) only [go_sem, ↓reduceIte, rem64K, quo64K, remI64K, quoI64K, mulK64, mk_empty, sl_3n, app_nil_map, mk_i64, max_nat]
  refine call_eq0 hP (q_Equal (a := A + B) (b := A + B) (k := 20000) (by omega) (by omega) (by omega)) rfl rfl rfl ?_
  rw [decide_eq_true (p := A + B = A + B) rfl]
  simp +decide (disch := first | omega | rfl | (simp +decide only [go_sem, ↓reduceIte] <;> rfl) | fail) only [go_sem, ↓reduceIte, rem64K, quo64K, remI64K, quoI64K, mulK64, mk_empty, sl_3n, app_nil_map, mk_i64, max_nat]
  refine call_eq0 hP (q_Mul (a := A) (b := B) (k := 20000) (by omega) (by omega) (by omega)) rfl rfl rfl ?_
  simp +decide (disch := first | omega | rfl | (simp +decide only [go_sem, ↓reduceIte] <;> rfl) | fail) only [go_sem, ↓reduceIte, rem64K, quo64K, remI64K, quoI64K, mulK64, mk_empty, sl_3n, app_nil_map, mk_i64, max_nat]
  refine call_eq0 hP (q_Equal (a := A * B) (b := A * B) (k := 20000) (by omega) (by omega) (by omega)) rfl rfl rfl ?_
  rw [decide_eq_true (p := A * B = A * B) rfl]
  simp +decide (disch := first | omega | rfl | (simp +decide only [go_sem, ↓reduceIte] <;> rfl) | fail) only [go_sem, ↓reduceIte, rem64K, quo64K, remI64K, quoI64K, mulK64, mk_empty, sl_3n, app_nil_map, mk_i64, max_nat]
  refine call_eq0 hP sSub rfl rfl rfl ?_
  simp +decide (disch := first | omega | rfl | (simp +decide only [go_sem, ↓reduceIte, bs0] <;> rfl) | fail) only [go_sem, ↓reduceIte, rem64K, quo64K, remI64K, quoI64K, mulK64, mk_empty, sl_3n, app_nil_map, mk_i64, max_nat, bs0]
  rw [app_map (f := PV.rat) (xs := []) (ys := V) (n := 0) (by simp +decide (disch := first | omega | rfl | (simp +decide only [go_sem, ↓reduceIte] <;> rfl) | fail) only [go_sem, ↓reduceIte, rem64K, quo64K, remI64K, quoI64K, mulK64, mk_empty, sl_3n, app_nil_map, mk_i64, max_nat]) rfl (by omega) (by omega) (by omega)]
  have hV1 : 1 < V.length := by omega
  simp +decide (disch := first | omega | rfl | (simp +decide only [go_sem, ↓reduceIte, idx_ms1, st_rat, hV1] <;> rfl) | fail) only [go_sem, ↓reduceIte, rem64K, quo64K, remI64K, quoI64K, mulK64, mk_empty, sl_3n, app_nil_map, mk_i64, max_nat, idx_ms1, st_rat, hV1]
  refine call_eq0 hP sX rfl rfl rfl ?_
  simp +decide (disch := first | omega | rfl | (simp +decide only [go_sem, ↓reduceIte] <;> rfl) | fail) only [go_sem, ↓reduceIte, rem64K, quo64K, remI64K, quoI64K, mulK64, mk_empty, sl_3n, app_nil_map, mk_i64, max_nat]
  refine call_eq hP sY (by simp +decide (disch := first | omega | rfl | (simp +decide only [go_sem, ↓reduceIte, looks3, List.contains_cons, List.contains_nil, List.flatMap_cons, List.flatMap_nil, List.append_nil] <;> rfl) | fail) only [go_sem, ↓reduceIte, rem64K, quo64K, remI64K, quoI64K, mulK64, mk_empty, sl_3n, app_nil_map, mk_i64, max_nat, looks3, List.contains_cons, List.contains_nil, List.flatMap_cons, List.flatMap_nil, List.append_nil]; simp [List.take_of_length_le]) rfl ?_
  simp +decide (disch := first | omega | rfl | (simp +decide only [go_sem, ↓reduceIte, looks3, List.contains_cons, List.contains_nil, List.flatMap_cons, List.flatMap_nil, List.append_nil] <;> rfl) | fail) only [go_sem, ↓reduceIte, rem64K, quo64K, remI64K, quoI64K, mulK64, mk_empty, sl_3n, app_nil_map, mk_i64, max_nat, looks3, List.contains_cons, List.contains_nil, List.flatMap_cons, List.flatMap_nil, List.append_nil]
  generalize peval (V.set 1 B) P = Y at *
  refine call_eq0 hP (q_Equal (a := Y) (b := Y) (k := 2 ^ 30) (by omega) (by omega) (by omega)) rfl rfl rfl ?_
  rw [decide_eq_true (p := Y = Y) rfl]
  simp +decide (disch := first | omega | rfl | (simp +decide only [go_sem, ↓reduceIte, looks3, List.contains_cons, List.contains_nil, List.flatMap_cons, List.flatMap_nil, List.append_nil] <;> rfl) | fail) only [go_sem, ↓reduceIte, rem64K, quo64K, remI64K, quoI64K, mulK64, mk_empty, sl_3n, app_nil_map, mk_i64, max_nat, looks3, List.contains_cons, List.contains_nil, List.flatMap_cons, List.flatMap_nil, List.append_nil]
  refine guard_splitF (fun h0 => ?_) (fun h0 => ?_)
  · have hnil : P = [] ∨ Q = [] := .inl (List.length_eq_zero_iff.1 (by omega))
    simp +decide (disch := first | omega | rfl | (simp +decide only [go_sem, ↓reduceIte, looks3, List.contains_cons, List.contains_nil, List.flatMap_cons, List.flatMap_nil, List.append_nil] <;> rfl) | fail) only [go_sem, ↓reduceIte, rem64K, quo64K, remI64K, quoI64K, mulK64, mk_empty, sl_3n, app_nil_map, mk_i64, max_nat, looks3, List.contains_cons, List.contains_nil, List.flatMap_cons, List.flatMap_nil, List.append_nil]
    refine call_eq0 hP mulS rfl rfl rfl ?_
    rw [pmul_nil hnil]
    simp +decide (disch := first | omega | rfl | (simp +decide only [go_sem, ↓reduceIte, looks3, List.contains_cons, List.contains_nil, List.flatMap_cons, List.flatMap_nil, List.append_nil] <;> rfl) | fail) only [go_sem, ↓reduceIte, rem64K, quo64K, remI64K, quoI64K, mulK64, mk_empty, sl_3n, app_nil_map, mk_i64, max_nat, looks3, List.contains_cons, List.contains_nil, List.flatMap_cons, List.flatMap_nil, List.append_nil]
    refine call_eq0 hP (p_Degree_spec (p := []) (K := 1) (E := 1) (PB.nil _ _) (by omega) (by simp)) rfl rfl rfl ?_
    rw [show pdeg [] = -1 from rfl]
    simp +decide (disch := first | omega | rfl | (simp +decide only [go_sem, ↓reduceIte, looks3, List.contains_cons, List.contains_nil, List.flatMap_cons, List.flatMap_nil, List.append_nil] <;> rfl) | fail) only [go_sem, ↓reduceIte, rem64K, quo64K, remI64K, quoI64K, mulK64, mk_empty, sl_3n, app_nil_map, mk_i64, max_nat, looks3, List.contains_cons, List.contains_nil, List.flatMap_cons, List.flatMap_nil, List.append_nil]
    refine call_eq0 hP alive_spec rfl rfl rfl ?_
    simp +decide (disch := first | omega | rfl | (simp +decide only [go_sem, ↓reduceIte] <;> rfl) | fail) only [go_sem, ↓reduceIte, rem64K, quo64K, remI64K, quoI64K, mulK64, mk_empty, sl_3n, app_nil_map, mk_i64, max_nat]
    exact retV_eq rfl rfl
  simp +decide (disch := first | omega | rfl | (simp +decide only [go_sem, ↓reduceIte, looks3, List.contains_cons, List.contains_nil, List.flatMap_cons, List.flatMap_nil, List.append_nil] <;> rfl) | fail) only [go_sem, ↓reduceIte, rem64K, quo64K, remI64K, quoI64K, mulK64, mk_empty, sl_3n, app_nil_map, mk_i64, max_nat, looks3, List.contains_cons, List.contains_nil, List.flatMap_cons, List.flatMap_nil, List.append_nil]
  refine cond_split (fun h0' => ?_) (fun h0' => ?_)
  · have hnil : P = [] ∨ Q = [] := .inr (List.length_eq_zero_iff.1 (by omega))
    simp +decide (disch := first | omega | rfl | (simp +decide only [go_sem, ↓reduceIte, looks3, List.contains_cons, List.contains_nil, List.flatMap_cons, List.flatMap_nil, List.append_nil] <;> rfl) | fail) only [go_sem, ↓reduceIte, rem64K, quo64K, remI64K, quoI64K, mulK64, mk_empty, sl_3n, app_nil_map, mk_i64, max_nat, looks3, List.contains_cons, List.contains_nil, List.flatMap_cons, List.flatMap_nil, List.append_nil]
    refine call_eq0 hP mulS rfl rfl rfl ?_
    rw [pmul_nil hnil]
    simp +decide (disch := first | omega | rfl | (simp +decide only [go_sem, ↓reduceIte, looks3, List.contains_cons, List.contains_nil, List.flatMap_cons, List.flatMap_nil, List.append_nil] <;> rfl) | fail) only [go_sem, ↓reduceIte, rem64K, quo64K, remI64K, quoI64K, mulK64, mk_empty, sl_3n, app_nil_map, mk_i64, max_nat, looks3, List.contains_cons, List.contains_nil, List.flatMap_cons, List.flatMap_nil, List.append_nil]
    refine call_eq0 hP (p_Degree_spec (p := []) (K := 1) (E := 1) (PB.nil _ _) (by omega) (by simp)) rfl rfl rfl ?_
    rw [show pdeg [] = -1 from rfl]
    simp +decide (disch := first | omega | rfl | (simp +decide only [go_sem, ↓reduceIte, looks3, List.contains_cons, List.contains_nil, List.flatMap_cons, List.flatMap_nil, List.append_nil] <;> rfl) | fail) only [go_sem, ↓reduceIte, rem64K, quo64K, remI64K, quoI64K, mulK64, mk_empty, sl_3n, app_nil_map, mk_i64, max_nat, looks3, List.contains_cons, List.contains_nil, List.flatMap_cons, List.flatMap_nil, List.append_nil]
    refine call_eq0 hP alive_spec rfl rfl rfl ?_
    simp +decide (disch := first | omega | rfl | (simp +decide only [go_sem, ↓reduceIte] <;> rfl) | fail) only [go_sem, ↓reduceIte, rem64K, quo64K, remI64K, quoI64K, mulK64, mk_empty, sl_3n, app_nil_map, mk_i64, max_nat]
    exact retV_eq rfl rfl
  have hPn : P ≠ [] := fun h => h0 (by rw [h]; rfl)
  have hQn : Q ≠ [] := fun h => h0' (by rw [h]; rfl)
  simp +decide (disch := first | omega | rfl | (simp +decide only [go_sem, ↓reduceIte, looks3, List.contains_cons, List.contains_nil, List.flatMap_cons, List.flatMap_nil, List.append_nil] <;> rfl) | fail) only [go_sem, ↓reduceIte, rem64K, quo64K, remI64K, quoI64K, mulK64, mk_empty, sl_3n, app_nil_map, mk_i64, max_nat, looks3, List.contains_cons, List.contains_nil, List.flatMap_cons, List.flatMap_nil, List.append_nil]
  refine vc_loopF (by repeat (first | exact okSk_ret | exact okSk_retM | exact okSk_retO | apply okSk_back | apply okSk_out | apply okSk_eb | apply okSk_c | apply okSk_o | apply okSk_again | apply okSk_backW)) [(6, 6), (19, 25), (157, 204)] [20, 22, 24] (fun m J hp => ∃ i : Nat, m = 2 - i ∧ i ≤ 2 ∧ J 19 = .int .i64 i) 2 ?_ ?_
  · refine ⟨0, rfl, by omega, ?_⟩
    simp +decide (disch := first | omega | rfl | (simp +decide only [go_sem, ↓reduceIte] <;> rfl) | fail) only [go_sem, ↓reduceIte, rem64K, quo64K, remI64K, quoI64K, mulK64, mk_empty, sl_3n, app_nil_map, mk_i64, max_nat]
    rfl
  rintro _ J h ⟨i, rfl, hi, h19⟩
  simp +decide (disch := first | omega | rfl | (simp +decide only [go_sem, ↓reduceIte, h19] <;> rfl) | fail) only [go_sem, ↓reduceIte, rem64K, quo64K, remI64K, quoI64K, mulK64, mk_empty, sl_3n, app_nil_map, mk_i64, max_nat, h19]
  refine cond_split (fun hg => ?_) (fun hg => ?_)
  · obtain ⟨hMn, hM⟩ := plt_mul (o := i) nP nQ hPn hQn
    obtain ⟨tP, _⟩ := plt_spec (o := i) nP hPn
    obtain ⟨tQ, _⟩ := plt_spec (o := i) nQ hQn
    have bTP := b1 _ tP
    have bTQ := b2 _ tQ
    have k1 := lead_ok (o := i) b1 hPn (by omega) (by omega)
    have k2 := lead_ok (o := i) b2 hQn (by omega) (by omega)
    have k3 := lead_ok (o := i) bM2 hMn (by omega) (by omega)
    rw [hM] at k3
    generalize plt (i : Int) P = T at *
    generalize plt (i : Int) Q = U at *
    have c1 := bTP.c
    have c2 := bTQ.c
    have hrm := rs_mul T.1 U.1
    have hzz := zipI_mulM bTP.m bTQ.m bTP.l bTQ.l
    have hml : (mulM T.2 U.2).length < 2 ^ 43 := by have := mulM_len T.2 U.2; have := bTP.m.len; have := bTQ.m.len; omega
    simp +decide (disch := first | omega | rfl | (simp +decide only [go_sem, ↓reduceIte, h19] <;> rfl) | fail) only [go_sem, ↓reduceIte, rem64K, quo64K, remI64K, quoI64K, mulK64, mk_empty, sl_3n, app_nil_map, mk_i64, max_nat, h19]
    refine call_eq0 hP k1 rfl rfl rfl ?_
    simp +decide (disch := first | omega | rfl | (simp +decide only [go_sem, ↓reduceIte, h19] <;> rfl) | fail) only [go_sem, ↓reduceIte, rem64K, quo64K, remI64K, quoI64K, mulK64, mk_empty, sl_3n, app_nil_map, mk_i64, max_nat, h19]
    refine call_eq0 hP k2 rfl rfl rfl ?_
    simp +decide (disch := first | omega | rfl | (simp +decide only [go_sem, ↓reduceIte, h19] <;> rfl) | fail) only [go_sem, ↓reduceIte, rem64K, quo64K, remI64K, quoI64K, mulK64, mk_empty, sl_3n, app_nil_map, mk_i64, max_nat, h19]
    refine call_eq0 hP mulS rfl rfl rfl ?_
    simp +decide (disch := first | omega | rfl | (simp +decide only [go_sem, ↓reduceIte, h19] <;> rfl) | fail) only [go_sem, ↓reduceIte, rem64K, quo64K, remI64K, quoI64K, mulK64, mk_empty, sl_3n, app_nil_map, mk_i64, max_nat, h19]
    refine call_eq0 hP k3 rfl rfl rfl ?_
    simp +decide (disch := first | omega | rfl | (simp +decide only [go_sem, ↓reduceIte, h19] <;> rfl) | fail) only [go_sem, ↓reduceIte, rem64K, quo64K, remI64K, quoI64K, mulK64, mk_empty, sl_3n, app_nil_map, mk_i64, max_nat, h19]
    refine call_eq0 hP (q_Mul (a := T.1) (b := U.1) (k := 100) (by omega) (by omega) (by omega)) rfl rfl rfl ?_
    simp +decide (disch := first | omega | rfl | (simp +decide only [go_sem, ↓reduceIte, h19] <;> rfl) | fail) only [go_sem, ↓reduceIte, rem64K, quo64K, remI64K, quoI64K, mulK64, mk_empty, sl_3n, app_nil_map, mk_i64, max_nat, h19]
    refine call_eq0 hP (q_Equal (a := T.1 * U.1) (b := T.1 * U.1) (k := 100) (by omega) (by omega) (by omega)) rfl rfl rfl ?_
    rw [decide_eq_true (p := T.1 * U.1 = T.1 * U.1) rfl]
    simp +decide (disch := first | omega | rfl | (simp +decide only [go_sem, ↓reduceIte, h19] <;> rfl) | fail) only [go_sem, ↓reduceIte, rem64K, quo64K, remI64K, quoI64K, mulK64, mk_empty, sl_3n, app_nil_map, mk_i64, max_nat, h19]
    refine call_eq0 hP (r5_Mul_spec bTP.m bTQ.m (by omega)) rfl rfl rfl ?_
    rw [hzz]
    simp +decide (disch := first | omega | rfl | (simp +decide only [go_sem, ↓reduceIte, h19] <;> rfl) | fail) only [go_sem, ↓reduceIte, rem64K, quo64K, remI64K, quoI64K, mulK64, mk_empty, sl_3n, app_nil_map, mk_i64, max_nat, h19]
    refine call_eq0 hP (r5_Same_self hml) rfl rfl rfl ?_
    simp +decide (disch := first | omega | rfl | (simp +decide only [go_sem, ↓reduceIte, h19] <;> rfl) | fail) only [go_sem, ↓reduceIte, rem64K, quo64K, remI64K, quoI64K, mulK64, mk_empty, sl_3n, app_nil_map, mk_i64, max_nat, h19]
    refine back_ovr (2 - (i + 1)) (by omega) ⟨i + 1, rfl, by omega, ?_⟩
    simp +decide (disch := first | omega | rfl | (simp +decide only [go_sem, ↓reduceIte] <;> rfl) | fail) only [go_sem, ↓reduceIte, rem64K, quo64K, remI64K, quoI64K, mulK64, mk_empty, sl_3n, app_nil_map, mk_i64, max_nat]
  · obtain ⟨hMn, hM⟩ := plt_mul (o := 1) nP nQ hPn hQn
    have d1 := pdeg_lead b1 nP hPn
    have d2 := pdeg_lead b2 nQ hQn
    have d3 := pdeg_lead bM2 (pmul_nrm nP.s nQ.s) hMn
    rw [hM, degM_mul] at d3
    have g1 := pdeg_range b1
    have g2 := pdeg_range b2
    have hdd : pdeg (pmul P Q) = pdeg P + pdeg Q := by omega
    simp +decide (disch := first | omega | rfl | (simp +decide only [go_sem, ↓reduceIte] <;> rfl) | fail) only [go_sem, ↓reduceIte, rem64K, quo64K, remI64K, quoI64K, mulK64, mk_empty, sl_3n, app_nil_map, mk_i64, max_nat]
    refine call_eq0 hP mulS rfl rfl rfl ?_
    simp +decide (disch := first | omega | rfl | (simp +decide only [go_sem, ↓reduceIte] <;> rfl) | fail) only [go_sem, ↓reduceIte, rem64K, quo64K, remI64K, quoI64K, mulK64, mk_empty, sl_3n, app_nil_map, mk_i64, max_nat]
    refine call_eq0 hP (p_Degree_spec bM2 (by omega) (by omega)) rfl rfl rfl ?_
    rw [hdd]
    simp +decide (disch := first | omega | rfl | (simp +decide only [go_sem, ↓reduceIte] <;> rfl) | fail) only [go_sem, ↓reduceIte, rem64K, quo64K, remI64K, quoI64K, mulK64, mk_empty, sl_3n, app_nil_map, mk_i64, max_nat]
    refine call_eq0 hP (p_Degree_spec b1 (by omega) (by omega)) rfl rfl rfl ?_
    simp +decide (disch := first | omega | rfl | (simp +decide only [go_sem, ↓reduceIte] <;> rfl) | fail) only [go_sem, ↓reduceIte, rem64K, quo64K, remI64K, quoI64K, mulK64, mk_empty, sl_3n, app_nil_map, mk_i64, max_nat]
    refine call_eq0 hP (p_Degree_spec b2 (by omega) (by omega)) rfl rfl rfl ?_
    simp +decide (disch := first | omega | rfl | (simp +decide only [go_sem, ↓reduceIte, decide_true] <;> rfl) | fail) only [go_sem, ↓reduceIte, rem64K, quo64K, remI64K, quoI64K, mulK64, mk_empty, sl_3n, app_nil_map, mk_i64, max_nat, decide_true]
    refine call_eq0 hP alive_spec rfl rfl rfl ?_
    simp +decide (disch := first | omega | rfl | (simp +decide only [go_sem, ↓reduceIte] <;> rfl) | fail) only [go_sem, ↓reduceIte, rem64K, quo64K, remI64K, quoI64K, mulK64, mk_empty, sl_3n, app_nil_map, mk_i64, max_nat]
    exact retV_eq rfl rfl
theorem PolyValues_all {p q : List RTm} {l : List RQ} (hp : RPoly p) (hq : RPoly q) (hl : RRats l) : FnSpec Tryz.prog 10 [PV.rpoly p, PV.rpoly q, PV.rqs l] (· = .bool true) :=
  PolyValues_walk (k := 1048576) (fun t ht => (hp.2 t ht).1) (fun t ht => (hq.2 t ht).1) hl.2 (by omega) (by omega) (by have := hp.1; omega) (by have := hq.1; omega) (by have := hl.1; omega)
end Go.Proofs.YtfhmockdgbkpnaaGreat
namespace Go.Proofs.YtfhmockdgbkpnaaGreat
open Go Go.FW Go.ChangeShapes Go.WideShapes Go.ChangeAt Go.RowKit
set_option linter.unusedSimpArgs false
set_option linter.unusedVariables false
set_option maxRecDepth 100000
theorem polyValues_contract (H : Type) (enc : TypeId × Value → H) (W : World) (base : Nat) (args : Array Value) (ds gs : List (DataW H)) (before : List MemPlace)
    (hval : ∀ (j : Nat) t v, Tryz.f10.params[j]? = some t → args[j]? = some v → Value.okWide Tryz.prog W .any base t v)
    (hW : DataW.Whole enc Tryz.prog Tryz.f10.params.toList Rows.polyValuesSpec.vars false W args.toList ds gs before) (hk : Rows.uptoSmall H (ds ++ gs) = true) :
    Calls Tryz.prog 10 args W fun e W' => ∃ v, e = .returned v ∧ Rows.polyValuesSpec.post enc Tryz.prog Tryz.f10 false true false false W args v W' := by
  have hW' := hW
  obtain ⟨p, q, hA0, hV, rfl, hfz, hnd⟩ := hW
  have hA : DataW.TrodAll enc Tryz.prog W 0 (fun _ => true) true Tryz.f10.params.toList args.toList ds p := hA0
  rw [Tryz.params10] at hA hval
  obtain ⟨v0, vs0, e0, ds0, p0, q0, hargs, rfl, rfl, h0, r0⟩ := trodAll_cons hA
  obtain ⟨v1, vs1, e1, ds1, p1, q1, rfl, rfl, rfl, h1, r1⟩ := trodAll_cons r0
  obtain ⟨v2, vs2, e2, ds2, p2, q2, rfl, rfl, rfl, h2, r2⟩ := trodAll_cons r1
  obtain ⟨rfl, rfl, rfl⟩ := trodAll_nil r2
  obtain rfl : args = #[v0, v1, v2] := by cases args; simp_all
  obtain ⟨rfl, rfl⟩ := trodVars_none hV
  have hb := bulk_all hk
  simp only [List.append_nil, Rows.uptoBulkAll] at hb
  obtain ⟨a0, g0, b0⟩ := arg_poly (hval 0 _ v0 rfl rfl) h0 (by omega)
  obtain ⟨a1, g1, b1⟩ := arg_poly (hval 1 _ v1 rfl rfl) h1 (by omega)
  obtain ⟨a2, g2, b2⟩ := arg_rats (hval 2 _ v2 rfl rfl) h2 (by omega)
  exact post_true hW' rfl (by kernel_rfl) (by kernel_rfl) rfl (PolyValues_all b0 b1 b2) rfl
    (rep_list (vs := [v0, v1, v2]) (by
      intro i x hx v hv
      match i, hx, hv with
      | 0, hx, hv => simp at hx hv; subst hx hv; exact g0
      | 1, hx, hv => simp at hx hv; subst hx hv; exact g1
      | 2, hx, hv => simp at hx hv; subst hx hv; exact g2
      | i + 3, hx, hv => simp at hx) rfl)
theorem polyValues_lifted (os : Os) (started : os.Started) (H : Type) (enc : TypeId × Value → H) (F : Stop.Interp) :
    ReturnsInHanded {} Tryz.checked os 10 .any ((Rows.OpenSpec.upto Rows.polyValuesSpec).pre6 enc Tryz.prog Tryz.f10 Rows.polyValuesUptoRow.domain false) (((Rows.OpenSpec.upto Rows.polyValuesSpec).at F).post enc Tryz.prog Tryz.f10 false true false false) := by
  refine returnsInHanded_of_cond (C := Tryz.checked) (s := Rows.OpenSpec.upto Rows.polyValuesSpec) (k := Rows.uptoSmall) rfl own started (by kernel_rfl) Tryz.func10
    (OpenSpec.witness (enc := enc) (C := Tryz.checked) (s := Rows.OpenSpec.upto Rows.polyValuesSpec) (k := Rows.uptoSmall) rfl false ⟨#[], #[.slice none 0 0, .slice none 0 0, .slice none 0 0], []⟩ 8 (by kernel_rfl) (by kernel_rfl) (by kernel_rfl)
      (x := ([.nil, .nil, .nil], [], [])) (by kernel_rfl) rfl (by kernel_rfl)) ?_
  intro W base args ds gs before hval hW _ hk _
  exact polyValues_contract H enc W base args ds gs before hval hW hk
theorem polyValues_proved : Rows.PolyValuesUptoSaid :=
  OpenClaim.holds_of_cond 10 Tryz.f10 rfl rfl rfl rfl rfl rfl rfl ⟨rfl, rfl, rfl, rfl, rfl⟩ rfl rfl rfl rfl rfl (by kernel_rfl) Tryz.func10 (by kernel_rfl)
    (of_decide_eq_true (by kernel_rfl)) (by unfold Func.isWrapper; first | (rw [if_pos (by decide +kernel)]; kernel_rfl) | (rw [if_neg (by decide +kernel)]; exact ⟨rfl, rfl⟩))
    (fun os started H enc _ F => polyValues_lifted os started H enc F)
end Go.Proofs.YtfhmockdgbkpnaaGreat
