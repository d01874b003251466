/- Part 10 of the proof of PseudoJoins: W7, FwUF. Own lemmas; no conditions. -/
import Derived.Test.YtjkbalanglgoiaaGreatPseudoJoinsPart9
set_option linter.unusedSimpArgs false
set_option linter.unnecessarySimpa false
set_option linter.unusedVariables false
namespace Go.Proofs.YtjkbalanglgoiaaGreat
open Go Go.FW
set_option linter.unusedSimpArgs false
set_option linter.unusedVariables false
set_option maxRecDepth 100000
theorem zz_sgn {c : Rat} {L : Nat} (hL : 0 < L) : PV.agg [.bool (decide (sgnQ c < 0)), PV.num L] = PV.zz (if c < 0 then -(L : Int) else (L : Int)) := by
  by_cases h : c < 0
  · rw [if_pos h, PV.zz, decide_eq_true (sgnQ_neg.2 h), decide_eq_true (by omega), Int.natAbs_neg, Int.natAbs_natCast]
  · rw [if_neg h, PV.zz, decide_eq_false (fun x => h (sgnQ_neg.1 x)), decide_eq_false (by omega), Int.natAbs_natCast]
theorem zz_num (L : Nat) : PV.agg [.bool false, PV.num L] = PV.zz (L : Int) := by
  rw [PV.zz, decide_eq_false (by omega), Int.natAbs_natCast]
theorem Mul_num {x y : Nat} (hx : nl x < 2 ^ 40) (hy : nl y < 2 ^ 40) : FnSpec Tryz.prog 57 [PV.num x, PV.num y] (· = PV.num (x * y)) := by
  have := Mul_spec (limbs_dig x) (limbs_dig y) hx hy
  rwa [val_dig, val_dig] at this
theorem ps_Primitive_spec {p : List Tm} {K E : Nat} (hp : PB K E p) (np : Nrm p) (h0 : p ≠ []) (hl : p.length ≤ 2 ^ 20) (hK : p.length * K + (K + K) ≤ 2 ^ 32) (hE : E ≤ 2 ^ 38) :
    FnSpec Tryz.prog 13 [PV.poly p] (· = .tup [PV.poly (pscale p (pfac p)), PV.rat (pfac p)]) := by
  have h0l : 0 < p.length := List.length_pos_iff.2 h0
  have hpr := pfac_rs hp np.z h0
  have hge := pgcd_ne np.z h0
  have hl0 := (pcont p p.length (Nat.le_refl _)).l0
  have hn1 := plcm_nl hp p.length (Nat.le_refl _)
  have hn2 := pgcd_nl hp p.length (Nat.le_refl _)
  have hpk : K ≤ p.length * K := Nat.le_mul_of_pos_left _ h0l
  have hK1 : 1 ≤ K := by have := (hp.get h0l).c; omega
  have hmk := q_Make_zz (x := if (p[0]).1 < 0 then -(plcm p : Int) else (plcm p : Int)) (y := (pgcd p : Int)) (by
    split <;> simp only [Int.natAbs_neg, Int.natAbs_natCast] <;> rw [List.take_length] at hn1 <;> omega) (by rw [Int.natAbs_natCast]; rw [List.take_length] at hn2; omega) (by omega)
  rw [← zz_sgn (by rw [List.take_length] at hl0; exact hl0), ← zz_num] at hmk
  have hfe : (((if (p[0]).1 < 0 then -(plcm p : Int) else (plcm p : Int) : Int) : Rat) / ((pgcd p : Int) : Rat)) = pfac p := by
    unfold pfac
    cases p with
    | nil => cases h0 rfl
    | cons t p => rfl
  rw [hfe] at hmk
  have hc0 := (hp.get h0l).c
  have hx0 : p[0] = p[0] := rfl
  refine fn_of_vc mixed Tryz.func13 rfl c13_ok (by simp [c13]) fun C hP => ?_; simp only [c13]
  simp +decide (disch := first | omega | rfl | (simp +decide only [go_sem, ↓reduceIte] <;> rfl) | fail) only [go_sem, ↓reduceIte, rem64K, quo64K, remI64K, quoI64K, mulK64, mk_empty, sl_3n, app_nil_map, mk_i64, max_nat]
  refine cond_split (fun h => absurd h (by omega)) (fun _ => ?_)
  simp +decide (disch := first | omega | rfl | (simp +decide only [go_sem, ↓reduceIte] <;> rfl) | fail) only [go_sem, ↓reduceIte, rem64K, quo64K, remI64K, quoI64K, mulK64, mk_empty, sl_3n, app_nil_map, mk_i64, max_nat]
  refine call_eq0 hP (Of_spec (n := 1) (by omega)) rfl rfl rfl ?_
  simp +decide (disch := first | omega | rfl | (simp +decide only [go_sem, ↓reduceIte] <;> rfl) | fail) only [go_sem, ↓reduceIte, rem64K, quo64K, remI64K, quoI64K, mulK64, mk_empty, sl_3n, app_nil_map, mk_i64, max_nat]
  refine vc_nilD 4 1 (by simp +decide (disch := first | omega | rfl | (simp +decide only [go_sem, ↓reduceIte] <;> rfl) | fail) only [go_sem, ↓reduceIte, rem64K, quo64K, remI64K, quoI64K, mulK64, mk_empty, sl_3n, app_nil_map, mk_i64, max_nat]) ?_
  refine vc_loopF (by repeat (first | exact okSk_ret | exact okSk_retM | exact okSk_retO | apply okSk_back | apply okSk_out | apply okSk_eb | apply okSk_c | apply okSk_o | apply okSk_again | apply okSk_backW)) [(4, 5), (7, 11), (21, 48)] [7] (fun n J hp => ∃ i, n = p.length - i ∧ i ≤ p.length ∧ J 4 = PV.num (pgcd (p.take i)) ∧ J 5 = PV.num (plcm (p.take i)) ∧ J 21 = .int .i64 (i : Nat) ∧ hp 3 = some ⟨3, 33, [.agg [.bool false, .nilS, .nilS]], false⟩) p.length ?_ ?_
  · refine ⟨0, rfl, by omega, ?_⟩
    simp +decide (disch := first | omega | rfl | (simp +decide only [go_sem, ↓reduceIte] <;> rfl) | fail) only [go_sem, ↓reduceIte, rem64K, quo64K, remI64K, quoI64K, mulK64, mk_empty, sl_3n, app_nil_map, mk_i64, max_nat]
    refine ⟨?_, rfl, rfl⟩
    simp [pgcd, dig_zero]
  rintro _ J h ⟨i, rfl, hi, h4, h5, h21, hh3⟩
  simp +decide (disch := first | omega | rfl | (simp +decide only [go_sem, ↓reduceIte, h4, h5, h21] <;> rfl) | fail) only [go_sem, ↓reduceIte, rem64K, quo64K, remI64K, quoI64K, mulK64, mk_empty, sl_3n, app_nil_map, mk_i64, max_nat, h4, h5, h21]
  refine cond_split (fun hg => ?_) (fun hg => ?_)
  · have hi' : i < p.length := by omega
    have htp := (hp.get hi').c
    have hg1 := pgcd_nl hp i hi
    have hg2 := plcm_nl hp i hi
    have hik : i * K ≤ p.length * K := Nat.mul_le_mul_right _ hi
    have hs1 := pgcd_take hi'
    have hs2 := plcm_take hi'
    unfold rs at htp
    generalize hx : p[i] = x at *
    have hd0 := x.1.den_nz
    have hgd : Nat.gcd (plcm (p.take i)) x.1.den ≠ 0 := fun h => hd0 (Nat.eq_zero_of_gcd_eq_zero_right h)
    have hgn := nl_gcd (plcm (p.take i)) x.1.den
    have hqd := nl_div x.1.den (Nat.gcd (plcm (p.take i)) x.1.den)
    generalize pgcd (p.take i) = G at *
    generalize plcm (p.take i) = L at *
    simp +decide (disch := first | omega | rfl | (simp +decide only [go_sem, ↓reduceIte, h4, h5, h21, hx] <;> rfl) | fail) only [go_sem, ↓reduceIte, rem64K, quo64K, remI64K, quoI64K, mulK64, mk_empty, sl_3n, app_nil_map, mk_i64, max_nat, h4, h5, h21, hx]
    refine call_eq0 hP (Gcd_num (x := G) (y := x.1.num.natAbs) (by show nl _ < _; omega) (by show nl _ < _; omega)) rfl rfl rfl ?_
    simp +decide (disch := first | omega | rfl | (simp +decide only [go_sem, ↓reduceIte, h4, h5, h21, hx] <;> rfl) | fail) only [go_sem, ↓reduceIte, rem64K, quo64K, remI64K, quoI64K, mulK64, mk_empty, sl_3n, app_nil_map, mk_i64, max_nat, h4, h5, h21, hx]
    refine call_eq0 hP (Gcd_num (x := L) (y := x.1.den) (by show nl _ < _; omega) (by show nl _ < _; omega)) rfl rfl rfl ?_
    simp +decide (disch := first | omega | rfl | (simp +decide only [go_sem, ↓reduceIte, h4, h5, h21, hx] <;> rfl) | fail) only [go_sem, ↓reduceIte, rem64K, quo64K, remI64K, quoI64K, mulK64, mk_empty, sl_3n, app_nil_map, mk_i64, max_nat, h4, h5, h21, hx]
    refine call_eq0 hP (DivMod_num (x := x.1.den) (y := Nat.gcd L x.1.den) (by show nl _ < _; omega) (by show nl _ < _; omega) hgd) rfl rfl rfl ?_
    simp +decide (disch := first | omega | rfl | (simp +decide only [go_sem, ↓reduceIte, h4, h5, h21, hx] <;> rfl) | fail) only [go_sem, ↓reduceIte, rem64K, quo64K, remI64K, quoI64K, mulK64, mk_empty, sl_3n, app_nil_map, mk_i64, max_nat, h4, h5, h21, hx]
    refine call_eq0 hP (Mul_num (x := L) (y := x.1.den / Nat.gcd L x.1.den) (by omega) (by omega)) rfl rfl rfl ?_
    simp +decide (disch := first | omega | rfl | (simp +decide only [go_sem, ↓reduceIte, h4, h5, h21, hx, hh3] <;> rfl) | fail) only [go_sem, ↓reduceIte, rem64K, quo64K, remI64K, quoI64K, mulK64, mk_empty, sl_3n, app_nil_map, mk_i64, max_nat, h4, h5, h21, hx, hh3]
    refine back_ovr (p.length - (i + 1)) (by omega) ⟨i + 1, rfl, by omega, ?_⟩
    rw [hs1, hs2]
    simp +decide (disch := first | omega | rfl | (simp +decide only [go_sem, ↓reduceIte, hh3] <;> rfl) | fail) only [go_sem, ↓reduceIte, rem64K, quo64K, remI64K, quoI64K, mulK64, mk_empty, sl_3n, app_nil_map, mk_i64, max_nat, hh3]
  · obtain rfl : i = p.length := by omega
    rw [List.take_length] at h4 h5 hn1 hn2
    generalize hx : p[0] = x at *
    have hlL := hl0
    simp +decide (disch := first | omega | rfl | (simp +decide only [go_sem, ↓reduceIte, h4, h5, hx] <;> rfl) | fail) only [go_sem, ↓reduceIte, rem64K, quo64K, remI64K, quoI64K, mulK64, mk_empty, sl_3n, app_nil_map, mk_i64, max_nat, h4, h5, hx]
    refine call_eq0 hP (q_Sign (a := x.1) (by omega)) rfl rfl rfl ?_
    simp +decide (disch := first | omega | rfl | (simp +decide only [go_sem, ↓reduceIte, h4, h5, hx] <;> rfl) | fail) only [go_sem, ↓reduceIte, rem64K, quo64K, remI64K, quoI64K, mulK64, mk_empty, sl_3n, app_nil_map, mk_i64, max_nat, h4, h5, hx]
    refine call_eq0 hP hmk rfl rfl rfl ?_
    generalize pfac p = a at *
    simp +decide (disch := first | omega | rfl | (simp +decide only [go_sem, ↓reduceIte, h4, h5, hx] <;> rfl) | fail) only [go_sem, ↓reduceIte, rem64K, quo64K, remI64K, quoI64K, mulK64, mk_empty, sl_3n, app_nil_map, mk_i64, max_nat, h4, h5, hx]
    refine call_eq0 hP (p_Scale_spec (K := 2 + p.length * K + K) (hp.mono (by omega) (Nat.le_refl _)) (by omega) (by omega) hE (by omega)) rfl rfl rfl ?_
    simp +decide (disch := first | omega | rfl | (simp +decide only [go_sem, ↓reduceIte, hh3] <;> rfl) | fail) only [go_sem, ↓reduceIte, rem64K, quo64K, remI64K, quoI64K, mulK64, mk_empty, sl_3n, app_nil_map, mk_i64, max_nat, hh3]
    refine ret_2 ?_
    simp +decide (disch := first | omega | rfl | (simp +decide only [go_sem, ↓reduceIte] <;> rfl) | fail) only [go_sem, ↓reduceIte, rem64K, quo64K, remI64K, quoI64K, mulK64, mk_empty, sl_3n, app_nil_map, mk_i64, max_nat]
    exact ret2 rfl rfl rfl (le_refl _) (le_refl _)
end Go.Proofs.YtjkbalanglgoiaaGreat
namespace Go.FW
open Go
def hdT (p : List Tm) : Tm := p.headD (0, [])
theorem hdT_get {p : List Tm} (h : 0 < p.length) : p[0] = hdT p := by cases p with
  | nil => simp at h
  | cons t p => rfl
theorem hdT_mem {p : List Tm} (h : p ≠ []) : hdT p ∈ p := by cases p with
  | nil => exact absurd rfl h
  | cons t p => simp [hdT]
def exT (q p : List Tm) : Tm := ((hdT p).1 / (hdT q).1, quoM (hdT p).2 (hdT q).2)
def exN (q p : List Tm) : List Tm := psub p (pmul [exT q p] q)
def exP (q p : List Tm) : Nat → List Tm
  | 0 => p
  | k + 1 => exN q (exP q p k)
def exQ (q p : List Tm) : Nat → List Tm
  | 0 => []
  | k + 1 => exQ q p k ++ [exT q (exP q p k)]
def exGo (q p : List Tm) : Prop := p ≠ [] ∧ divM (hdT q).2 (hdT p).2 = true
def exR (q p : List Tm) (k : Nat) : PV := if exP q p k = [] then .tup [PV.poly (exQ q p k), .bool true] else .tup [PV.poly [], .bool false]
theorem exQ_len (q p : List Tm) : ∀ k, (exQ q p k).length = k
  | 0 => rfl
  | k + 1 => by rw [exQ, List.length_append, exQ_len q p k]; rfl
theorem psorted_hd {p : List Tm} (hs : PSorted p) : ∀ t ∈ p, t = hdT p ∨ cmpM t.2 (hdT p).2 < 0 := by
  cases p with
  | nil => intro t ht; cases ht
  | cons x p =>
    intro t ht
    rcases List.mem_cons.1 ht with rfl | ht
    · exact .inl rfl
    · right
      have := hs.1 t ht
      have e := cmpM_neg x.2 t.2
      show cmpM t.2 x.2 < 0
      omega
theorem exT_nrm {q p : List Tm} (np : Nrm p) (nq : Nrm q) (hp : p ≠ []) (hq : q ≠ []) : Nrm [exT q p] := by
  refine Nrm.one ?_ (quoM_last _ _)
  have h1 := np.z _ (hdT_mem hp)
  have h2 := nq.z _ (hdT_mem hq)
  show (hdT p).1 / (hdT q).1 ≠ 0
  grind
theorem psorted_one (t : Tm) : PSorted [t] := ⟨by simp, trivial⟩
theorem exN_nrm {q p : List Tm} (np : Nrm p) (nq : Nrm q) : Nrm (exN q p) :=
  psub_nrm np (pmul_nrm (psorted_one _) nq.s)
theorem exP_nrm {q p : List Tm} (np : Nrm p) (nq : Nrm q) : ∀ k, Nrm (exP q p k)
  | 0 => np
  | k + 1 => exN_nrm (exP_nrm np nq k) nq
theorem pmul_one_term {t : Tm} {q : List Tm} (φ : List Int → Rat) : pev φ (pmul [t] q) = t.1 * pev (fun m => φ (mulM t.2 m)) q := by
  rw [pmul_pev, pev_cons, pev_nil, Rat.add_zero]
theorem mem_pmul_one {t x : Tm} {q : List Tm} (h : x ∈ pmul [t] q) : ∃ s ∈ q, x.2 = mulM t.2 s.2 := by
  obtain ⟨a, ha, b, hb, e⟩ := mem_pmul h
  obtain rfl : a = t := by simpa using ha
  exact ⟨b, hb, e⟩
theorem exN_pev {q p : List Tm} (np : Nrm p) (nq : Nrm q) (φ : List Int → Rat) : pev φ (exN q p) = pev φ p - (exT q p).1 * pev (fun m => φ (mulM (exT q p).2 m)) q := by
  rw [exN, psub_pev φ np.c (pmul_nrm (psorted_one _) nq.s), pmul_one_term]
theorem exN_lt {q p : List Tm} {K E : Nat} (bp : PB K E p) (bq : PB K E q) (np : Nrm p) (nq : Nrm q) (hq : q ≠ []) (hg : exGo q p) : ∀ t ∈ exN q p, cmpM t.2 (hdT p).2 < 0 := by
  intro t ht
  obtain ⟨hp, hd⟩ := hg
  have hpm := hdT_mem hp
  have hqm := hdT_mem hq
  have hmul : mulM (exT q p).2 (hdT q).2 = (hdT p).2 := quoM_mul (bp _ hpm).m (bq _ hqm).m (bp _ hpm).l hd
  have nt := exT_nrm np nq hp hq
  have hnN : Nrm (exN q p) := exN_nrm np nq
  have hle : t.2 = (hdT p).2 ∨ cmpM t.2 (hdT p).2 < 0 := by
    rcases mem_psub (pmul_nrm nt.s nq.s).c ht with ⟨s, hs, e⟩ | ⟨s, hs, e⟩
    · rw [← e]
      rcases psorted_hd np.s s hs with rfl | h
      · exact .inl rfl
      · exact .inr h
    · obtain ⟨b, hb, e2⟩ := mem_pmul_one hs
      rw [← e, e2, ← hmul]
      rcases psorted_hd nq.s b hb with rfl | h
      · exact .inl rfl
      · right; rw [mulM_comm _ b.2, mulM_comm _ (hdT q).2, cmpM_mul]; exact h
  rcases hle with he | h
  · exfalso
    have h1 := exN_pev np nq (fun m => if m = t.2 then 1 else 0)
    have h2 := pev_only (φ := fun m => if m = t.2 then 1 else 0) hnN.s ht (fun s hs hne => by
      rw [if_neg]; intro e; exact hne (mono_inj hnN.s hs ht e))
    have h3 := pev_only (φ := fun m => if m = t.2 then 1 else 0) np.s hpm (fun s hs hne => by
      rw [if_neg]; intro e; exact hne (mono_inj np.s hs hpm (e.trans he)))
    have h4 := pev_only (φ := fun m => if mulM (exT q p).2 m = t.2 then 1 else 0) nq.s hqm (fun s hs hne => by
      rw [if_neg]; intro e
      rcases psorted_hd nq.s s hs with h | h
      · exact hne h
      · rw [he, ← hmul] at e
        have := cmpM_mul s.2 (hdT q).2 (exT q p).2
        rw [mulM_comm s.2, mulM_comm (hdT q).2, e, cmpM_self] at this
        omega)
    rw [h2, h3, h4] at h1
    rw [if_pos rfl, if_pos he.symm, if_pos (hmul.trans he.symm)] at h1
    have h5 : t.1 = 0 := by
      have e : (exT q p).1 * (hdT q).1 = (hdT p).1 := by
        have := nq.z _ hqm
        show (hdT p).1 / (hdT q).1 * (hdT q).1 = _
        grind
      grind
    exact hnN.z t ht h5
  · exact h
theorem exT_TB {q p : List Tm} {K E : Nat} (bp : PB K E p) (bq : PB K E q) (nq : Nrm q) (hq : q ≠ []) (hg : exGo q p) : TB (K + K) E (exT q p) := by
  have h1 := bp _ (hdT_mem hg.1)
  have h2 := bq _ (hdT_mem hq)
  refine ⟨?_, quoM_MB h1.m h2.m hg.2, quoM_last _ _⟩
  have h3 := rs_mul (hdT p).1 (hdT q).1⁻¹
  have h4 := rs_inv (hdT q).1 (nq.z _ (hdT_mem hq))
  have c1 := h1.c
  have c2 := h2.c
  show rs ((hdT p).1 / (hdT q).1) + 1 ≤ K + K
  rw [Rat.div_def]
  omega
end Go.FW
