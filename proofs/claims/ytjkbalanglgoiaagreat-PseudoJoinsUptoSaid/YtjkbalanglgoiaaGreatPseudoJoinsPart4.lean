/- Part 4 of the proof of PseudoJoins: R3, R4, M1, M2, P1, P2, P3, FwQA, FwSD. Own lemmas; no conditions. -/
import Derived.Test.YtjkbalanglgoiaaGreatPseudoJoinsPart3
set_option linter.unusedSimpArgs false
set_option linter.unnecessarySimpa false
set_option linter.unusedVariables false
namespace Go.Proofs.YtjkbalanglgoiaaGreat
open Go Go.FW
set_option linter.unusedSimpArgs false
set_option linter.unusedVariables false
set_option maxRecDepth 100000
theorem q_Mul_raw {n m : Bool} {a d b c : List Nat} {k : Nat} (hp : Raw k n a d) (hq : Raw k m b c) (hk : k < 2 ^ 36) : FnSpec Tryz.prog 142 [PV.rr n a d, PV.rr m b c] (· = PV.rat (rv n a d * rv m b c)) := by
  refine fn_of_vc mixed Tryz.func142 rfl c142_ok (by simp [c142]) fun C hP => ?_; simp only [c142]
  simp +decide (disch := first | omega | rfl | (simp +decide only [go_sem, ↓reduceIte] <;> rfl) | fail) only [go_sem, ↓reduceIte]
  refine call_spec0 hP (parts_spec hp.la hp.ld hp.k1 hp.sa hp.sd (by omega)) rfl rfl rfl ?_
  rintro _ ⟨n', a', d', rfl, g1, g2, g3, g4, g5, g6⟩
  simp +decide (disch := first | omega | rfl | (simp +decide only [go_sem, ↓reduceIte] <;> rfl) | fail) only [go_sem, ↓reduceIte]
  refine call_spec0 hP (parts_spec hq.la hq.ld hq.k1 hq.sa hq.sd (by omega)) rfl rfl rfl ?_
  rintro _ ⟨m', b', c', rfl, e1, e2, e3, e4, e5, e6⟩
  simp +decide (disch := first | omega | rfl | (simp +decide only [go_sem, ↓reduceIte] <;> rfl) | fail) only [go_sem, ↓reduceIte]
  have hza : nl (zv n' a').natAbs ≤ k := by rw [zv_natAbs]; exact Nat.le_trans (nl_le g1) g3
  have hzb : nl (zv m' b').natAbs ≤ k := by rw [zv_natAbs]; exact Nat.le_trans (nl_le e1) e3
  have hvd : nl (val d') ≤ k := Nat.le_trans (nl_le g2) g4
  have hvc : nl (val c') ≤ k := Nat.le_trans (nl_le e2) e4
  have h3 := nl_natAbs_mul (zv n' a') (zv m' b')
  have h6 := nl_mul (val d') (val c')
  refine call_eq0 hP (i_Mul_spec (n := n') (m := m') g1 e1 (by omega) (by omega)) rfl rfl rfl ?_
  simp +decide (disch := first | omega | rfl | (simp +decide only [go_sem, ↓reduceIte] <;> rfl) | fail) only [go_sem, ↓reduceIte]
  refine call_eq0 hP (Mul_spec g2 e2 (by omega) (by omega)) rfl rfl rfl ?_
  simp +decide (disch := first | omega | rfl | (simp +decide only [go_sem, ↓reduceIte] <;> rfl) | fail) only [go_sem, ↓reduceIte]
  refine call_eq0 hP (reduced_zz (z := zv n' a' * zv m' b') (limbs_dig _) (by omega) (by show nl _ < _; omega)) rfl rfl rfl ?_
  simp +decide (disch := first | omega | rfl | (simp +decide only [go_sem, ↓reduceIte] <;> rfl) | fail) only [go_sem, ↓reduceIte]
  refine ret_1 ?_
  simp +decide (disch := first | omega | rfl | (simp +decide only [go_sem, ↓reduceIte] <;> rfl) | fail) only [go_sem, ↓reduceIte]
  refine retV_eq ?_ rfl
  rw [val_dig, ← g6, ← e6]
  unfold rv
  rw [Rat.mkRat_mul_mkRat]
theorem q_Sign_raw {n : Bool} {a d : List Nat} {k : Nat} (hp : Raw k n a d) (hk : k < 2 ^ 36) : FnSpec Tryz.prog 59 [PV.rr n a d] (· = .int .i64 (sgnQ (rv n a d))) := by
  refine fn_of_vc mixed Tryz.func59 rfl c59_ok (by simp [c59]) fun C hP => ?_; simp only [c59]
  simp +decide (disch := first | omega | rfl | (simp +decide only [go_sem, ↓reduceIte] <;> rfl) | fail) only [go_sem, ↓reduceIte]
  refine call_spec0 hP (parts_spec hp.la hp.ld hp.k1 hp.sa hp.sd (by omega)) rfl rfl rfl ?_
  rintro _ ⟨n', a', d', rfl, g1, g2, g3, g4, g5, g6⟩
  simp +decide (disch := first | omega | rfl | (simp +decide only [go_sem, ↓reduceIte] <;> rfl) | fail) only [go_sem, ↓reduceIte]
  refine call_eq0 hP (i_Sign_spec g1 (by omega)) rfl rfl rfl ?_
  simp +decide (disch := first | omega | rfl | (simp +decide only [go_sem, ↓reduceIte] <;> rfl) | fail) only [go_sem, ↓reduceIte]
  exact retV_eq (by rw [← g6]; unfold rv; rw [sgn_mkRat g5]) rfl
theorem i_Of_spec {x : Int} (h1 : -9223372036854775808 ≤ x) (h2 : x ≤ 9223372036854775807) : FnSpec Tryz.prog 118 [.int .i64 x] (· = PV.zz x) := by
  refine fn_of_vc mixed Tryz.func118 rfl c118_ok (by simp [c118]) fun C hP => ?_; simp only [c118]
  simp +decide (disch := first | omega | rfl | (simp +decide only [go_sem, ↓reduceIte] <;> rfl) | fail) only [go_sem, ↓reduceIte]
  refine cond_split (fun hc => ?_) (fun hc => ?_)
  · obtain ⟨y, hy⟩ : ∃ y : Nat, x = -((y : Int) + 1) := ⟨(-(x + 1)).toNat, by omega⟩
    have e1 : IntKind.i64.wrap (x + 1) = -(y : Int) := by rw [wrap_i64 (by omega) (by omega)]; omega
    have e2 : IntKind.i64.wrap (0 - -(y : Int)) = (y : Int) := by rw [wrap_i64 (by omega) (by omega)]; omega
    have e3 : IntKind.u64.wrap (y : Int) = (y : Int) := wrap_u64 (by omega) (by omega)
    have e4 : IntKind.u64.wrap ((y + 1 : Nat) : Int) = ((y + 1 : Nat) : Int) := wrap_u64 (by omega) (by omega)
    simp +decide (disch := first | omega | rfl | (simp +decide only [go_sem, ↓reduceIte, e1, e2, e3, e4] <;> rfl) | fail) only [go_sem, ↓reduceIte, e1, e2, e3, e4]
    refine call_eq0 hP (Of_spec (by omega)) rfl rfl rfl ?_
    simp +decide (disch := first | omega | rfl | (simp +decide only [go_sem, ↓reduceIte] <;> rfl) | fail) only [go_sem, ↓reduceIte]
    refine call_eq0 hP (i_made_spec true (y + 1)) rfl rfl rfl ?_
    simp +decide (disch := first | omega | rfl | (simp +decide only [go_sem, ↓reduceIte] <;> rfl) | fail) only [go_sem, ↓reduceIte]
    refine ret_1 ?_
    simp +decide (disch := first | omega | rfl | (simp +decide only [go_sem, ↓reduceIte] <;> rfl) | fail) only [go_sem, ↓reduceIte]
    exact retV_eq (congrArg PV.zz (by simp; omega)) rfl
  · obtain ⟨y, rfl⟩ : ∃ y : Nat, x = y := ⟨x.toNat, by omega⟩
    simp +decide (disch := first | omega | rfl | (simp +decide only [go_sem, ↓reduceIte] <;> rfl) | fail) only [go_sem, ↓reduceIte]
    refine call_eq0 hP (Of_spec (by omega)) rfl rfl rfl ?_
    simp +decide (disch := first | omega | rfl | (simp +decide only [go_sem, ↓reduceIte] <;> rfl) | fail) only [go_sem, ↓reduceIte]
    refine call_eq0 hP (i_made_spec false y) rfl rfl rfl ?_
    simp +decide (disch := first | omega | rfl | (simp +decide only [go_sem, ↓reduceIte] <;> rfl) | fail) only [go_sem, ↓reduceIte]
    refine ret_1 ?_
    simp +decide (disch := first | omega | rfl | (simp +decide only [go_sem, ↓reduceIte] <;> rfl) | fail) only [go_sem, ↓reduceIte]
    exact retV_eq (congrArg PV.zz (by simp)) rfl
theorem q_Of_spec {x : Int} (h1 : -9223372036854775808 ≤ x) (h2 : x ≤ 9223372036854775807) : FnSpec Tryz.prog 53 [.int .i64 x] (· = PV.rat (x : Rat)) := by
  refine fn_of_vc mixed Tryz.func53 rfl c53_ok (by simp [c53]) fun C hP => ?_; simp only [c53]
  simp +decide (disch := first | omega | rfl | (simp +decide only [go_sem, ↓reduceIte] <;> rfl) | fail) only [go_sem, ↓reduceIte]
  refine call_eq0 hP (i_Of_spec h1 h2) rfl rfl rfl ?_
  simp +decide (disch := first | omega | rfl | (simp +decide only [go_sem, ↓reduceIte] <;> rfl) | fail) only [go_sem, ↓reduceIte]
  refine call_eq0 hP unit_spec rfl rfl rfl ?_
  simp +decide (disch := first | omega | rfl | (simp +decide only [go_sem, ↓reduceIte] <;> rfl) | fail) only [go_sem, ↓reduceIte]
  refine ret_1 ?_
  simp +decide (disch := first | omega | rfl | (simp +decide only [go_sem, ↓reduceIte] <;> rfl) | fail) only [go_sem, ↓reduceIte]
  exact retV_eq (by rw [PV.rat, Rat.num_intCast, Rat.den_intCast, PV.num, PV.num, dig_one]; rfl) rfl
end Go.Proofs.YtjkbalanglgoiaaGreat
namespace Go.Proofs.YtjkbalanglgoiaaGreat
open Go Go.FW
set_option linter.unusedSimpArgs false
set_option linter.unusedVariables false
set_option maxRecDepth 100000
end Go.Proofs.YtjkbalanglgoiaaGreat
namespace Go.Proofs.YtjkbalanglgoiaaGreat
open Go Go.FW
set_option linter.unusedSimpArgs false
set_option linter.unusedVariables false
set_option maxRecDepth 100000
theorem m_trim_spec {a : List Int} (hl : a.length < 2 ^ 42) : FnSpec Tryz.prog 104 [PV.mono a] (· = PV.mono (trimI a)) := by
  refine fn_of_vc mixed Tryz.func104 rfl c104_ok (by simp [c104]) fun C hP => ?_; simp only [c104]
  simp +decide (disch := first | omega | rfl | (simp +decide only [go_sem, ↓reduceIte] <;> rfl) | fail) only [go_sem, ↓reduceIte, sl_3n, app_nil_map, mk_i64, max_nat]
  refine vc_loopF (by repeat (first | exact okSk_ret | exact okSk_retM | exact okSk_retO | apply okSk_back | apply okSk_out | apply okSk_eb | apply okSk_c | apply okSk_o | apply okSk_again)) [(3, 3), (6, 17)] [] (fun n J hp => n ≤ a.length ∧ cutI a n = trimI a ∧ J 3 = .int .i64 n ∧ hp = hp0) a.length ?_ ?_
  · refine ⟨Nat.le_refl _, rfl, ?_⟩
    simp +decide (disch := first | omega | rfl | (simp +decide only [go_sem, ↓reduceIte] <;> rfl) | fail) only [go_sem, ↓reduceIte, sl_3n, app_nil_map, mk_i64, max_nat]
  rintro n J _ ⟨hn, hc, h3, rfl⟩
  simp +decide (disch := first | omega | rfl | (simp +decide only [go_sem, ↓reduceIte, h3] <;> rfl) | fail) only [go_sem, ↓reduceIte, sl_3n, app_nil_map, mk_i64, max_nat, h3]
  refine guard_split (fun hg => ?_) (fun hg => ?_)
  · obtain _ | n := n
    · omega
    have e : ((n + 1 : Nat) : Int) - 1 = n := by omega
    simp only [cutI] at hc
    simp +decide (disch := first | omega | rfl | (simp +decide only [go_sem, ↓reduceIte, h3, e] <;> rfl) | fail) only [go_sem, ↓reduceIte, sl_3n, app_nil_map, mk_i64, max_nat, h3, e]
    refine cond_split (fun hz => ?_) (fun hz => ?_)
    · rw [if_pos (by simp [hz, show n < a.length by omega])] at hc
      simp +decide (disch := first | omega | rfl | (simp +decide only [go_sem, ↓reduceIte, h3, e] <;> rfl) | fail) only [go_sem, ↓reduceIte, sl_3n, app_nil_map, mk_i64, max_nat, h3, e]
      refine back_ovr n (by omega) ⟨by omega, hc, ?_⟩
      simp +decide (disch := first | omega | rfl | (simp +decide only [go_sem, ↓reduceIte] <;> rfl) | fail) only [go_sem, ↓reduceIte, sl_3n, app_nil_map, mk_i64, max_nat]
    · rw [if_neg (by simpa [show n < a.length by omega] using hz)] at hc
      simp +decide (disch := first | omega | rfl | (simp +decide only [go_sem, ↓reduceIte, h3, e] <;> rfl) | fail) only [go_sem, ↓reduceIte, sl_3n, app_nil_map, mk_i64, max_nat, h3, e]
      refine cond_split (fun h => by omega) (fun h => ?_)
      simp +decide (disch := first | omega | rfl | (simp +decide only [go_sem, ↓reduceIte, h3, e] <;> rfl) | fail) only [go_sem, ↓reduceIte, sl_3n, app_nil_map, mk_i64, max_nat, h3, e]
      exact retV_eq (congrArg PV.mono hc) rfl
  · obtain rfl : n = 0 := by omega
    simp +decide (disch := first | omega | rfl | (simp +decide only [go_sem, ↓reduceIte, h3] <;> rfl) | fail) only [go_sem, ↓reduceIte, sl_3n, app_nil_map, mk_i64, max_nat, h3]
    exact retV_le (nil_mono' (by rw [← hc]; rfl)) rfl
theorem m_Degree_spec {a : List Int} (hl : a.length ≤ 1048576) (hb : ∀ x ∈ a, 0 ≤ x ∧ x ≤ 1099511627776) : FnSpec Tryz.prog 110 [PV.mono a] (· = .int .i64 (degM a)) := by
  refine fn_of_vc mixed Tryz.func110 rfl c110_ok (by simp [c110]) fun C hP => ?_; simp only [c110]
  simp +decide (disch := first | omega | rfl | (simp +decide only [go_sem, ↓reduceIte] <;> rfl) | fail) only [go_sem, ↓reduceIte, sl_3n, app_nil_map, mk_i64, max_nat]
  refine vc_loopF (by repeat (first | exact okSk_ret | exact okSk_retM | exact okSk_retO | apply okSk_back | apply okSk_out | apply okSk_eb | apply okSk_c | apply okSk_o | apply okSk_again)) [(3, 3), (5, 5), (8, 15)] [] (fun k J hp => ∃ (i : Nat) (s : Int), k = a.length - i ∧ i ≤ a.length ∧ 0 ≤ s ∧ s ≤ 1099511627776 * i ∧ s + (a.drop i).sum = degM a ∧ J 8 = .int .i64 (i : Nat) ∧ J 3 = .int .i64 s ∧ hp = hp0) a.length ?_ ?_
  · refine ⟨0, 0, rfl, by omega, by omega, by omega, by simp [degM], ?_⟩
    simp +decide (disch := first | omega | rfl | (simp +decide only [go_sem, ↓reduceIte] <;> rfl) | fail) only [go_sem, ↓reduceIte, sl_3n, app_nil_map, mk_i64, max_nat]
    simp
  rintro _ J _ ⟨i, s, rfl, hi, hs0, hs1, hsum, h8, h3, rfl⟩
  simp +decide (disch := first | omega | rfl | (simp +decide only [go_sem, ↓reduceIte, h8, h3] <;> rfl) | fail) only [go_sem, ↓reduceIte, sl_3n, app_nil_map, mk_i64, max_nat, h8, h3]
  refine cond_split (fun hg => ?_) (fun hg => ?_)
  · have hi' : i < a.length := by omega
    have hx := hb _ (List.getElem_mem hi')
    rw [List.drop_eq_getElem_cons hi', List.sum_cons] at hsum
    generalize hxx : a[i] = x at *
    simp +decide (disch := first | omega | rfl | (simp +decide only [go_sem, ↓reduceIte, h8, h3, hxx] <;> rfl) | fail) only [go_sem, ↓reduceIte, sl_3n, app_nil_map, mk_i64, max_nat, h8, h3, hxx]
    refine back_ovr (a.length - (i + 1)) (by omega) ⟨i + 1, s + x, rfl, by omega, by omega, by push_cast; omega, by omega, ?_⟩
    simp +decide (disch := first | omega | rfl | (simp +decide only [go_sem, ↓reduceIte] <;> rfl) | fail) only [go_sem, ↓reduceIte, sl_3n, app_nil_map, mk_i64, max_nat]
  · rw [List.drop_of_length_le (by omega), List.sum_nil, Int.add_zero] at hsum
    simp +decide (disch := first | omega | rfl | (simp +decide only [go_sem, ↓reduceIte, h3] <;> rfl) | fail) only [go_sem, ↓reduceIte, sl_3n, app_nil_map, mk_i64, max_nat, h3]
    exact retV_eq (by rw [hsum]) rfl
theorem m_Exp_spec {a : List Int} {v : Int} (hl : a.length < 2 ^ 42) : FnSpec Tryz.prog 75 [PV.mono a, .int .i64 v] (· = .int .i64 (if v < 0 then 0 else eN a v.toNat)) := by
  refine fn_of_vc mixed Tryz.func75 rfl c75_ok (by simp [c75]) fun C hP => ?_; simp only [c75]
  simp +decide (disch := first | omega | rfl | (simp +decide only [go_sem, ↓reduceIte] <;> rfl) | fail) only [go_sem, ↓reduceIte, sl_3n, app_nil_map, mk_i64, max_nat]
  refine guard_splitF (fun h1 => ?_) (fun h1 => ?_)
  · simp +decide (disch := first | omega | rfl | (simp +decide only [go_sem, ↓reduceIte] <;> rfl) | fail) only [go_sem, ↓reduceIte, sl_3n, app_nil_map, mk_i64, max_nat]
    exact retV_eq (by rw [if_pos h1]) rfl
  · obtain ⟨n, rfl⟩ : ∃ n : Nat, v = n := ⟨v.toNat, by omega⟩
    rw [if_neg h1]
    simp +decide (disch := first | omega | rfl | (simp +decide only [go_sem, ↓reduceIte] <;> rfl) | fail) only [go_sem, ↓reduceIte, sl_3n, app_nil_map, mk_i64, max_nat]
    refine cond_split (fun h2 => ?_) (fun h2 => ?_)
    · simp +decide (disch := first | omega | rfl | (simp +decide only [go_sem, ↓reduceIte] <;> rfl) | fail) only [go_sem, ↓reduceIte, sl_3n, app_nil_map, mk_i64, max_nat]
      exact retV_eq (by rw [eN_ge (by omega)]) rfl
    · have hn : n < a.length := by omega
      simp +decide (disch := first | omega | rfl | (simp +decide only [go_sem, ↓reduceIte] <;> rfl) | fail) only [go_sem, ↓reduceIte, sl_3n, app_nil_map, mk_i64, max_nat]
      exact retV_eq (by rw [eN_lt hn]) rfl
theorem m_Exp_nat {a : List Int} {i : Nat} (hl : a.length < 2 ^ 42) : FnSpec Tryz.prog 75 [PV.mono a, .int .i64 i] (· = .int .i64 (eN a i)) := by
  have := m_Exp_spec (v := i) hl
  rwa [if_neg (by omega), Int.toNat_natCast] at this
end Go.Proofs.YtjkbalanglgoiaaGreat
namespace Go.Proofs.YtjkbalanglgoiaaGreat
open Go Go.FW
set_option linter.unusedSimpArgs false
set_option linter.unusedVariables false
set_option maxRecDepth 100000
theorem m_combine_spec {a b : List Int} {f : Nat} {g : Int → Int → Int} (hla : a.length < 2 ^ 40) (hlb : b.length < 2 ^ 40) (hf : ∀ i, FnSpec Tryz.prog f [.int .i64 (eN a i), .int .i64 (eN b i)] (· = .int .i64 (g (eN a i) (eN b i)))) :
    FnSpec Tryz.prog 105 [PV.mono a, PV.mono b, .fn f [] []] (· = PV.mono (zipI g a b)) := by
  refine fn_of_vc mixed Tryz.func105 rfl c105_ok (by simp [c105]) fun C hP => ?_; simp only [c105]
  simp +decide (disch := first | omega | rfl | (simp +decide only [go_sem, ↓reduceIte] <;> rfl) | fail) only [go_sem, ↓reduceIte, sl_3n, app_nil_map, mk_i64, max_nat]
  refine vc_loopF (by repeat (first | exact okSk_ret | exact okSk_retM | exact okSk_retO | apply okSk_back | apply okSk_out | apply okSk_eb | apply okSk_c | apply okSk_o | apply okSk_again)) [(8, 10), (19, 45)] [] (fun k J hp => ∃ i, k = max a.length b.length - i ∧ i ≤ max a.length b.length ∧ J 19 = .int .i64 (i : Nat) ∧ hp = updH hp0 16 ⟨1, 3, i64s ((zipI g a b).take i ++ List.replicate (max a.length b.length - i) 0), false⟩) (max a.length b.length) ?_ ?_
  · refine ⟨0, rfl, by omega, ?_⟩
    simp +decide (disch := first | omega | rfl | (simp +decide only [go_sem, ↓reduceIte] <;> rfl) | fail) only [go_sem, ↓reduceIte, sl_3n, app_nil_map, mk_i64, max_nat]
    simp
  rintro _ J _ ⟨i, rfl, hi, h19, rfl⟩
  simp +decide (disch := first | omega | rfl | (simp +decide only [go_sem, ↓reduceIte, h19] <;> rfl) | fail) only [go_sem, ↓reduceIte, sl_3n, app_nil_map, mk_i64, max_nat, h19]
  refine cond_split (fun hg => ?_) (fun hg => ?_)
  · have hi' : i < max a.length b.length := by omega
    have hfi := hf i
    have htl : ((zipI g a b).take i).length = i := by rw [List.length_take, zipI_length]; omega
    have hset := fun v => set_doneA (v := v) (z := (0 : Int)) htl (show 0 < max a.length b.length - i by omega)
    have hlen : i < ((zipI g a b).take i ++ List.replicate (max a.length b.length - i) (0 : Int)).length := by rw [List.length_append, htl, List.length_replicate]; omega
    have htk := zipI_take (g := g) hi'
    have fin : ∀ x y, x = eN a i → y = eN b i → FnSpec Tryz.prog f [.int .i64 x, .int .i64 y] (· = .int .i64 (g (eN a i) (eN b i))) := by rintro _ _ rfl rfl; exact hfi
    simp +decide (disch := first | omega | rfl | (simp +decide only [go_sem, ↓reduceIte, h19] <;> rfl) | fail) only [go_sem, ↓reduceIte, sl_3n, app_nil_map, mk_i64, max_nat, h19]
    refine cond_split (fun h1 => ?_) (fun h1 => ?_)
    · have h1' : i < a.length := by omega
      simp +decide (disch := first | omega | rfl | (simp +decide only [go_sem, ↓reduceIte, h19] <;> rfl) | fail) only [go_sem, ↓reduceIte, sl_3n, app_nil_map, mk_i64, max_nat, h19]
      refine cond_split (fun h2 => ?_) (fun h2 => ?_)
      · have h2' : i < b.length := by omega
        simp +decide (disch := first | omega | rfl | (simp +decide only [go_sem, ↓reduceIte, h19] <;> rfl) | fail) only [go_sem, ↓reduceIte, sl_3n, app_nil_map, mk_i64, max_nat, h19]
        refine call_eq0 hP (fin _ _ (eN_lt h1').symm (eN_lt h2').symm) rfl rfl rfl ?_
        simp +decide (disch := first | omega | rfl | (simp +decide only [go_sem, ↓reduceIte, h19, hset, ← htk] <;> rfl) | fail) only [go_sem, ↓reduceIte, sl_3n, app_nil_map, mk_i64, max_nat, h19, hset, ← htk]
        refine back_ovr (max a.length b.length - (i + 1)) (by omega) ⟨i + 1, rfl, by omega, ?_⟩
        simp +decide (disch := first | omega | rfl | (simp +decide only [go_sem, ↓reduceIte, Nat.sub_sub] <;> rfl) | fail) only [go_sem, ↓reduceIte, sl_3n, app_nil_map, mk_i64, max_nat, Nat.sub_sub]
      · simp +decide (disch := first | omega | rfl | (simp +decide only [go_sem, ↓reduceIte, h19] <;> rfl) | fail) only [go_sem, ↓reduceIte, sl_3n, app_nil_map, mk_i64, max_nat, h19]
        refine call_eq0 hP (fin _ _ (eN_lt h1').symm (eN_ge (by omega)).symm) rfl rfl rfl ?_
        simp +decide (disch := first | omega | rfl | (simp +decide only [go_sem, ↓reduceIte, h19, hset, ← htk] <;> rfl) | fail) only [go_sem, ↓reduceIte, sl_3n, app_nil_map, mk_i64, max_nat, h19, hset, ← htk]
        refine back_ovr (max a.length b.length - (i + 1)) (by omega) ⟨i + 1, rfl, by omega, ?_⟩
        simp +decide (disch := first | omega | rfl | (simp +decide only [go_sem, ↓reduceIte, Nat.sub_sub] <;> rfl) | fail) only [go_sem, ↓reduceIte, sl_3n, app_nil_map, mk_i64, max_nat, Nat.sub_sub]
    · simp +decide (disch := first | omega | rfl | (simp +decide only [go_sem, ↓reduceIte, h19] <;> rfl) | fail) only [go_sem, ↓reduceIte, sl_3n, app_nil_map, mk_i64, max_nat, h19]
      refine cond_split (fun h2 => ?_) (fun h2 => by omega)
      have h2' : i < b.length := by omega
      simp +decide (disch := first | omega | rfl | (simp +decide only [go_sem, ↓reduceIte, h19] <;> rfl) | fail) only [go_sem, ↓reduceIte, sl_3n, app_nil_map, mk_i64, max_nat, h19]
      refine call_eq0 hP (fin _ _ (eN_ge (by omega)).symm (eN_lt h2').symm) rfl rfl rfl ?_
      simp +decide (disch := first | omega | rfl | (simp +decide only [go_sem, ↓reduceIte, h19, hset, ← htk] <;> rfl) | fail) only [go_sem, ↓reduceIte, sl_3n, app_nil_map, mk_i64, max_nat, h19, hset, ← htk]
      refine back_ovr (max a.length b.length - (i + 1)) (by omega) ⟨i + 1, rfl, by omega, ?_⟩
      simp +decide (disch := first | omega | rfl | (simp +decide only [go_sem, ↓reduceIte, Nat.sub_sub] <;> rfl) | fail) only [go_sem, ↓reduceIte, sl_3n, app_nil_map, mk_i64, max_nat, Nat.sub_sub]
  · obtain rfl : i = max a.length b.length := by omega
    simp +decide (disch := first | omega | rfl | (simp +decide only [go_sem, ↓reduceIte, looks3, List.contains_cons, List.contains_nil, List.flatMap_cons, List.flatMap_nil, List.append_nil] <;> rfl) | fail) only [go_sem, ↓reduceIte, sl_3n, app_nil_map, mk_i64, max_nat, looks3, List.contains_cons, List.contains_nil, List.flatMap_cons, List.flatMap_nil, List.append_nil]
    exact retV_eq (by simp [List.take_of_length_le, zipI_length]) rfl
theorem m_Mul1_spec {x y : Int} (h1 : -9223372036854775808 ≤ x + y) (h2 : x + y ≤ 9223372036854775807) : FnSpec Tryz.prog 169 [.int .i64 x, .int .i64 y] (· = .int .i64 (x + y)) := by
  refine fn_of_vc mixed Tryz.func169 rfl c169_ok (by simp [c169]) fun C hP => ?_; simp only [c169]
  simp +decide (disch := first | omega | rfl | (simp +decide only [go_sem, ↓reduceIte] <;> rfl) | fail) only [go_sem, ↓reduceIte, sl_3n, app_nil_map, mk_i64, max_nat]
  exact retV_eq rfl rfl
theorem m_Mul_spec {k : Nat} {a b : List Int} (ha : MB k a) (hb : MB k b) (hk : k ≤ 1099511627776) : FnSpec Tryz.prog 143 [PV.mono a, PV.mono b] (· = PV.mono (mulM a b)) := by
  have h1 := ha.len
  have h2 := hb.len
  have hz := zipI_length (· + ·) a b
  refine fn_of_vc mixed Tryz.func143 rfl c143_ok (by simp [c143]) fun C hP => ?_; simp only [c143]
  simp +decide (disch := first | omega | rfl | (simp +decide only [go_sem, ↓reduceIte] <;> rfl) | fail) only [go_sem, ↓reduceIte, sl_3n, app_nil_map, mk_i64, max_nat]
  refine call_eq0 hP (m_combine_spec (f := 169) (g := (· + ·)) (by omega) (by omega) (fun i => m_Mul1_spec (by have := ha.eN i; have := hb.eN i; omega) (by have := ha.eN i; have := hb.eN i; omega))) rfl rfl rfl ?_
  simp +decide (disch := first | omega | rfl | (simp +decide only [go_sem, ↓reduceIte] <;> rfl) | fail) only [go_sem, ↓reduceIte, sl_3n, app_nil_map, mk_i64, max_nat]
  refine call_eq0 hP (m_trim_spec (by omega)) rfl rfl rfl ?_
  simp +decide (disch := first | omega | rfl | (simp +decide only [go_sem, ↓reduceIte] <;> rfl) | fail) only [go_sem, ↓reduceIte, sl_3n, app_nil_map, mk_i64, max_nat]
  exact retV_eq rfl rfl
theorem m_Cmp_spec {k : Nat} {a b : List Int} {o : Int} (ha : MB k a) (hb : MB k b) (hk : k ≤ 1099511627776) : FnSpec Tryz.prog 48 [PV.mono a, PV.mono b, .int .i64 o] (· = .int .i64 (cmpO o a b)) := by
  have h1 := ha.len
  have h2 := hb.len
  have hda : ∀ x ∈ a, 0 ≤ x ∧ x ≤ 1099511627776 := fun x hx => by have := ha.lo x hx; have := ha.hi x hx; omega
  have hdb : ∀ x ∈ b, 0 ≤ x ∧ x ≤ 1099511627776 := fun x hx => by have := hb.lo x hx; have := hb.hi x hx; omega
  refine fn_of_vc mixed Tryz.func48 rfl c48_ok (by simp [c48]) fun C hP => ?_; simp only [c48]
  simp +decide (disch := first | omega | rfl | (simp +decide only [go_sem, ↓reduceIte] <;> rfl) | fail) only [go_sem, ↓reduceIte, sl_3n, app_nil_map, mk_i64, max_nat]
  refine cond_split (fun ho => ?_) (fun ho => ?_)
  · simp +decide (disch := first | omega | rfl | (simp +decide only [go_sem, ↓reduceIte] <;> rfl) | fail) only [go_sem, ↓reduceIte, sl_3n, app_nil_map, mk_i64, max_nat]
    refine call_eq0 hP (m_Degree_spec (by omega) hda) rfl rfl rfl ?_
    simp +decide (disch := first | omega | rfl | (simp +decide only [go_sem, ↓reduceIte] <;> rfl) | fail) only [go_sem, ↓reduceIte, sl_3n, app_nil_map, mk_i64, max_nat]
    refine call_eq0 hP (m_Degree_spec (by omega) hdb) rfl rfl rfl ?_
    simp +decide (disch := first | omega | rfl | (simp +decide only [go_sem, ↓reduceIte] <;> rfl) | fail) only [go_sem, ↓reduceIte, sl_3n, app_nil_map, mk_i64, max_nat]
    refine cond_split (fun hd => ?_) (fun hd => ?_)
    · have hord : cmpO o a b = cmpZ (degM a) (degM b) := by unfold cmpO; rw [if_pos ⟨ho, hd⟩]
      simp +decide (disch := first | omega | rfl | (simp +decide only [go_sem, ↓reduceIte] <;> rfl) | fail) only [go_sem, ↓reduceIte, sl_3n, app_nil_map, mk_i64, max_nat]
      refine cond_split (fun h5 => ?_) (fun h5 => ?_)
      · simp +decide (disch := first | omega | rfl | (simp +decide only [go_sem, ↓reduceIte] <;> rfl) | fail) only [go_sem, ↓reduceIte, sl_3n, app_nil_map, mk_i64, max_nat]
        exact retV_eq (by rw [hord, cmpZ, if_pos h5]) rfl
      · simp +decide (disch := first | omega | rfl | (simp +decide only [go_sem, ↓reduceIte] <;> rfl) | fail) only [go_sem, ↓reduceIte, sl_3n, app_nil_map, mk_i64, max_nat]
        exact retV_eq (by rw [hord, cmpZ, if_neg h5, if_pos (by omega)]) rfl
    have hord : cmpO o a b = cmpM a b := by unfold cmpO; rw [if_neg (fun h => hd h.2)]
    simp +decide (disch := first | omega | rfl | (simp +decide only [go_sem, ↓reduceIte] <;> rfl) | fail) only [go_sem, ↓reduceIte, sl_3n, app_nil_map, mk_i64, max_nat]
    refine vc_loopF (by repeat (first | exact okSk_ret | exact okSk_retM | exact okSk_retO | apply okSk_back | apply okSk_out | apply okSk_eb | apply okSk_c | apply okSk_o | apply okSk_again)) [(6, 6), (9, 11), (30, 45)] [] (fun n J hp => n ≤ max a.length b.length ∧ cmpN a b n = cmpM a b ∧ J 9 = .int .i64 ((n : Int) - 1) ∧ hp = hp0) (max a.length b.length) ?_ ?_
    · refine ⟨by omega, rfl, ?_⟩
      simp +decide (disch := first | omega | rfl | (simp +decide only [go_sem, ↓reduceIte] <;> rfl) | fail) only [go_sem, ↓reduceIte, sl_3n, app_nil_map, mk_i64, max_nat]
    rintro n J _ ⟨hn, hc, h9, rfl⟩
    simp +decide (disch := first | omega | rfl | (simp +decide only [go_sem, ↓reduceIte, h9] <;> rfl) | fail) only [go_sem, ↓reduceIte, sl_3n, app_nil_map, mk_i64, max_nat, h9]
    refine cond_split (fun hg => ?_) (fun hg => ?_)
    · obtain _ | n := n
      · omega
      have e : ((n + 1 : Nat) : Int) - 1 = n := by omega
      rw [cmpN] at hc
      simp +decide (disch := first | omega | rfl | (simp +decide only [go_sem, ↓reduceIte, h9, e] <;> rfl) | fail) only [go_sem, ↓reduceIte, sl_3n, app_nil_map, mk_i64, max_nat, h9, e]
      refine call_eq0 hP (m_Exp_nat (by omega)) rfl rfl rfl ?_
      simp +decide (disch := first | omega | rfl | (simp +decide only [go_sem, ↓reduceIte, h9, e] <;> rfl) | fail) only [go_sem, ↓reduceIte, sl_3n, app_nil_map, mk_i64, max_nat, h9, e]
      refine call_eq0 hP (m_Exp_nat (by omega)) rfl rfl rfl ?_
      simp +decide (disch := first | omega | rfl | (simp +decide only [go_sem, ↓reduceIte, h9, e] <;> rfl) | fail) only [go_sem, ↓reduceIte, sl_3n, app_nil_map, mk_i64, max_nat, h9, e]
      refine cond_split (fun h4 => ?_) (fun h4 => ?_)
      · rw [if_neg h4] at hc
        simp +decide (disch := first | omega | rfl | (simp +decide only [go_sem, ↓reduceIte, h9, e] <;> rfl) | fail) only [go_sem, ↓reduceIte, sl_3n, app_nil_map, mk_i64, max_nat, h9, e]
        refine cond_split (fun h5 => ?_) (fun h5 => ?_)
        · simp +decide (disch := first | omega | rfl | (simp +decide only [go_sem, ↓reduceIte, h9, e] <;> rfl) | fail) only [go_sem, ↓reduceIte, sl_3n, app_nil_map, mk_i64, max_nat, h9, e]
          exact retV_eq (by rw [hord, ← hc, cmpZ, if_pos h5]) rfl
        · simp +decide (disch := first | omega | rfl | (simp +decide only [go_sem, ↓reduceIte, h9, e] <;> rfl) | fail) only [go_sem, ↓reduceIte, sl_3n, app_nil_map, mk_i64, max_nat, h9, e]
          exact retV_eq (by rw [hord, ← hc, cmpZ, if_neg h5, if_pos (by omega)]) rfl
      · rw [if_pos (by omega)] at hc
        simp +decide (disch := first | omega | rfl | (simp +decide only [go_sem, ↓reduceIte, h9, e] <;> rfl) | fail) only [go_sem, ↓reduceIte, sl_3n, app_nil_map, mk_i64, max_nat, h9, e]
        refine back_ovr n (by omega) ⟨by omega, hc, ?_⟩
        simp +decide (disch := first | omega | rfl | (simp +decide only [go_sem, ↓reduceIte] <;> rfl) | fail) only [go_sem, ↓reduceIte, sl_3n, app_nil_map, mk_i64, max_nat]
    · obtain rfl : n = 0 := by omega
      simp +decide (disch := first | omega | rfl | (simp +decide only [go_sem, ↓reduceIte] <;> rfl) | fail) only [go_sem, ↓reduceIte, sl_3n, app_nil_map, mk_i64, max_nat]
      exact retV_eq (by rw [hord, ← hc]; rfl) rfl
  · have hord : cmpO o a b = cmpM a b := by unfold cmpO; rw [if_neg (fun h => ho h.1)]
    simp +decide (disch := first | omega | rfl | (simp +decide only [go_sem, ↓reduceIte] <;> rfl) | fail) only [go_sem, ↓reduceIte, sl_3n, app_nil_map, mk_i64, max_nat]
    refine vc_loopF (by repeat (first | exact okSk_ret | exact okSk_retM | exact okSk_retO | apply okSk_back | apply okSk_out | apply okSk_eb | apply okSk_c | apply okSk_o | apply okSk_again)) [(6, 6), (9, 11), (30, 45)] [] (fun n J hp => n ≤ max a.length b.length ∧ cmpN a b n = cmpM a b ∧ J 9 = .int .i64 ((n : Int) - 1) ∧ hp = hp0) (max a.length b.length) ?_ ?_
    · refine ⟨by omega, rfl, ?_⟩
      simp +decide (disch := first | omega | rfl | (simp +decide only [go_sem, ↓reduceIte] <;> rfl) | fail) only [go_sem, ↓reduceIte, sl_3n, app_nil_map, mk_i64, max_nat]
    rintro n J _ ⟨hn, hc, h9, rfl⟩
    simp +decide (disch := first | omega | rfl | (simp +decide only [go_sem, ↓reduceIte, h9] <;> rfl) | fail) only [go_sem, ↓reduceIte, sl_3n, app_nil_map, mk_i64, max_nat, h9]
    refine cond_split (fun hg => ?_) (fun hg => ?_)
    · obtain _ | n := n
      · omega
      have e : ((n + 1 : Nat) : Int) - 1 = n := by omega
      rw [cmpN] at hc
      simp +decide (disch := first | omega | rfl | (simp +decide only [go_sem, ↓reduceIte, h9, e] <;> rfl) | fail) only [go_sem, ↓reduceIte, sl_3n, app_nil_map, mk_i64, max_nat, h9, e]
      refine call_eq0 hP (m_Exp_nat (by omega)) rfl rfl rfl ?_
      simp +decide (disch := first | omega | rfl | (simp +decide only [go_sem, ↓reduceIte, h9, e] <;> rfl) | fail) only [go_sem, ↓reduceIte, sl_3n, app_nil_map, mk_i64, max_nat, h9, e]
      refine call_eq0 hP (m_Exp_nat (by omega)) rfl rfl rfl ?_
      simp +decide (disch := first | omega | rfl | (simp +decide only [go_sem, ↓reduceIte, h9, e] <;> rfl) | fail) only [go_sem, ↓reduceIte, sl_3n, app_nil_map, mk_i64, max_nat, h9, e]
      refine cond_split (fun h4 => ?_) (fun h4 => ?_)
      · rw [if_neg h4] at hc
        simp +decide (disch := first | omega | rfl | (simp +decide only [go_sem, ↓reduceIte, h9, e] <;> rfl) | fail) only [go_sem, ↓reduceIte, sl_3n, app_nil_map, mk_i64, max_nat, h9, e]
        refine cond_split (fun h5 => ?_) (fun h5 => ?_)
        · simp +decide (disch := first | omega | rfl | (simp +decide only [go_sem, ↓reduceIte, h9, e] <;> rfl) | fail) only [go_sem, ↓reduceIte, sl_3n, app_nil_map, mk_i64, max_nat, h9, e]
          exact retV_eq (by rw [hord, ← hc, cmpZ, if_pos h5]) rfl
        · simp +decide (disch := first | omega | rfl | (simp +decide only [go_sem, ↓reduceIte, h9, e] <;> rfl) | fail) only [go_sem, ↓reduceIte, sl_3n, app_nil_map, mk_i64, max_nat, h9, e]
          exact retV_eq (by rw [hord, ← hc, cmpZ, if_neg h5, if_pos (by omega)]) rfl
      · rw [if_pos (by omega)] at hc
        simp +decide (disch := first | omega | rfl | (simp +decide only [go_sem, ↓reduceIte, h9, e] <;> rfl) | fail) only [go_sem, ↓reduceIte, sl_3n, app_nil_map, mk_i64, max_nat, h9, e]
        refine back_ovr n (by omega) ⟨by omega, hc, ?_⟩
        simp +decide (disch := first | omega | rfl | (simp +decide only [go_sem, ↓reduceIte] <;> rfl) | fail) only [go_sem, ↓reduceIte, sl_3n, app_nil_map, mk_i64, max_nat]
    · obtain rfl : n = 0 := by omega
      simp +decide (disch := first | omega | rfl | (simp +decide only [go_sem, ↓reduceIte] <;> rfl) | fail) only [go_sem, ↓reduceIte, sl_3n, app_nil_map, mk_i64, max_nat]
      exact retV_eq (by rw [hord, ← hc]; rfl) rfl
end Go.Proofs.YtjkbalanglgoiaaGreat
namespace Go.Proofs.YtjkbalanglgoiaaGreat
open Go Go.FW
set_option linter.unusedSimpArgs false
set_option linter.unusedVariables false
set_option maxRecDepth 100000
theorem q_Add {a b : Rat} {k : Nat} (ha : rs a ≤ k) (hb : rs b ≤ k) (hk : k < 2 ^ 36) : FnSpec Tryz.prog 97 [PV.rat a, PV.rat b] (· = PV.rat (a + b)) := by
  have := q_Add_raw (raw_of ha) (raw_of hb) hk
  rwa [rv_of, rv_of] at this
theorem q_Mul {a b : Rat} {k : Nat} (ha : rs a ≤ k) (hb : rs b ≤ k) (hk : k < 2 ^ 36) : FnSpec Tryz.prog 142 [PV.rat a, PV.rat b] (· = PV.rat (a * b)) := by
  have := q_Mul_raw (raw_of ha) (raw_of hb) hk
  rwa [rv_of, rv_of] at this
theorem q_Sign {a : Rat} (ha : rs a < 2 ^ 36) : FnSpec Tryz.prog 59 [PV.rat a] (· = .int .i64 (sgnQ a)) := by
  have := q_Sign_raw (raw_of (Nat.le_refl (rs a))) ha
  rwa [rv_of] at this
theorem p_lex_spec {s t : Tm} {E : Nat} (hs : MB E s.2) (ht : MB E t.2) (hE : E ≤ 2 ^ 38) : FnSpec Tryz.prog 90 [PV.term s, PV.term t] (· = .int .i64 (cmpM s.2 t.2)) := by
  refine fn_of_vc mixed Tryz.func90 rfl c90_ok (by simp [c90]) fun C hP => ?_; simp only [c90]
  simp +decide (disch := first | omega | rfl | (simp +decide only [go_sem, ↓reduceIte] <;> rfl) | fail) only [go_sem, ↓reduceIte, mk_empty, sl_3n, app_nil_map, mk_i64, max_nat]
  refine call_eq0 hP (m_Cmp_spec (o := 0) hs ht (by omega)) rfl rfl rfl ?_
  simp +decide (disch := first | omega | rfl | (simp +decide only [go_sem, ↓reduceIte] <;> rfl) | fail) only [go_sem, ↓reduceIte, mk_empty, sl_3n, app_nil_map, mk_i64, max_nat]
  exact retV_eq (by rw [cmpO_0]) rfl
theorem p_added_spec {s t : Tm} {k : Nat} (hs : rs s.1 ≤ k) (ht : rs t.1 ≤ k) (hk : k < 2 ^ 34) : FnSpec Tryz.prog 91 [PV.term s, PV.term t] (· = .tup [PV.term (s.1 + t.1, s.2), .bool (decide (¬ s.1 + t.1 = 0))]) := by
  have hr := rs_add s.1 t.1
  refine fn_of_vc mixed Tryz.func91 rfl c91_ok (by simp [c91]) fun C hP => ?_; simp only [c91]
  simp +decide (disch := first | omega | rfl | (simp +decide only [go_sem, ↓reduceIte] <;> rfl) | fail) only [go_sem, ↓reduceIte, mk_empty, sl_3n, app_nil_map, mk_i64, max_nat]
  refine call_eq0 hP (q_Add (a := s.1) (b := t.1) hs ht (by omega)) rfl rfl rfl ?_
  simp +decide (disch := first | omega | rfl | (simp +decide only [go_sem, ↓reduceIte] <;> rfl) | fail) only [go_sem, ↓reduceIte, mk_empty, sl_3n, app_nil_map, mk_i64, max_nat]
  refine call_eq0 hP (q_Sign (a := s.1 + t.1) (by omega)) rfl rfl rfl ?_
  simp +decide (disch := first | omega | rfl | (simp +decide only [go_sem, ↓reduceIte] <;> rfl) | fail) only [go_sem, ↓reduceIte, mk_empty, sl_3n, app_nil_map, mk_i64, max_nat]
  refine ret_2 ?_
  simp +decide (disch := first | omega | rfl | (simp +decide only [go_sem, ↓reduceIte] <;> rfl) | fail) only [go_sem, ↓reduceIte, mk_empty, sl_3n, app_nil_map, mk_i64, max_nat]
  exact ret2 rfl rfl rfl (le_refl _) (le_of_eq (congrArg PV.bool (decide_eq_decide.2 (not_congr sgnQ_zero))))
theorem p_single_spec {c : Rat} {m : List Int} (hc : rs c < 2 ^ 36) : FnSpec Tryz.prog 96 [PV.rat c, PV.mono m] (· = PV.poly (if c = 0 then [] else [(c, m)])) := by
  refine fn_of_vc mixed Tryz.func96 rfl c96_ok (by simp [c96]) fun C hP => ?_; simp only [c96]
  simp +decide (disch := first | omega | rfl | (simp +decide only [go_sem, ↓reduceIte] <;> rfl) | fail) only [go_sem, ↓reduceIte, mk_empty, sl_3n, app_nil_map, mk_i64, max_nat]
  refine call_eq0 hP (q_Sign (a := c) hc) rfl rfl rfl ?_
  simp +decide (disch := first | omega | rfl | (simp +decide only [go_sem, ↓reduceIte] <;> rfl) | fail) only [go_sem, ↓reduceIte, mk_empty, sl_3n, app_nil_map, mk_i64, max_nat]
  refine cond_split (fun h0 => ?_) (fun h0 => ?_)
  · rw [if_pos (sgnQ_zero.1 h0)]
    simp +decide (disch := first | omega | rfl | (simp +decide only [go_sem, ↓reduceIte] <;> rfl) | fail) only [go_sem, ↓reduceIte, mk_empty, sl_3n, app_nil_map, mk_i64, max_nat]
    exact retV_le poly_nil rfl
  · rw [if_neg (fun h => h0 (sgnQ_zero.2 h))]
    simp +decide (disch := first | omega | rfl | (simp +decide only [go_sem, ↓reduceIte, looks3, List.contains_cons, List.contains_nil, List.flatMap_cons, List.flatMap_nil, List.append_nil] <;> rfl) | fail) only [go_sem, ↓reduceIte, mk_empty, sl_3n, app_nil_map, mk_i64, max_nat, looks3, List.contains_cons, List.contains_nil, List.flatMap_cons, List.flatMap_nil, List.append_nil]
    exact retV_eq rfl rfl
theorem p_merge_spec {p q : List Tm} {K E : Nat} (hp : PB K E p) (hq : PB K E q) (hK : K ≤ 2 ^ 33) (hE : E ≤ 2 ^ 38) (hlp : p.length ≤ 2 ^ 36) (hlq : q.length ≤ 2 ^ 36) :
    FnSpec Tryz.prog 89 [PV.poly p, PV.poly q, .fn 90 [] [], .fn 91 [] []] (· = PV.poly (padd p q)) := by
  refine fn_of_vc mixed Tryz.func89 rfl c89_ok (by simp [c89]) fun C hP => ?_; simp only [c89]
  simp +decide (disch := first | omega | rfl | (simp +decide only [go_sem, ↓reduceIte] <;> rfl) | fail) only [go_sem, ↓reduceIte, mk_empty, sl_3n, app_nil_map, mk_i64, max_nat]
  refine vc_loopF (by repeat (first | exact okSk_ret | exact okSk_retM | exact okSk_retO | apply okSk_back | apply okSk_out | apply okSk_eb | apply okSk_c | apply okSk_o | apply okSk_again)) [(9, 14), (21, 86)] [13, 20, 57, 58, 71, 72, 83, 84] (fun n J hp => ∃ i k out, n = (p.length - i) + (q.length - k) ∧ i ≤ p.length ∧ k ≤ q.length ∧ out.length ≤ i + k ∧ out ++ padd (p.drop i) (q.drop k) = padd p q ∧
    J 9 = .ms 20 out.length ∧ J 10 = .int .i64 (i : Nat) ∧ J 11 = .int .i64 (k : Nat) ∧ hp 20 = some ⟨4, 61, out.map PV.term, false⟩) (p.length + q.length) ?_ ?_
  · refine ⟨0, 0, [], by omega, by omega, by omega, by simp, rfl, ?_⟩
    simp +decide (disch := first | omega | rfl | (simp +decide only [go_sem, ↓reduceIte] <;> rfl) | fail) only [go_sem, ↓reduceIte, mk_empty, sl_3n, app_nil_map, mk_i64, max_nat]
    simp
  rintro _ J h ⟨i, k, out, rfl, hi, hk, hol, hpad, h9, h10, h11, hh⟩
  simp +decide (disch := first | omega | rfl | (simp +decide only [go_sem, ↓reduceIte, h9, h10, h11] <;> rfl) | fail) only [go_sem, ↓reduceIte, mk_empty, sl_3n, app_nil_map, mk_i64, max_nat, h9, h10, h11]
  refine guard_split (fun hg => ?_) (fun hg => ?_)
  · have hi' : i < p.length := by omega
    simp +decide (disch := first | omega | rfl | (simp +decide only [go_sem, ↓reduceIte, h9, h10, h11] <;> rfl) | fail) only [go_sem, ↓reduceIte, mk_empty, sl_3n, app_nil_map, mk_i64, max_nat, h9, h10, h11]
    refine cond_split (fun hg2 => ?_) (fun hg2 => ?_)
    · have hk' : k < q.length := by omega
      have htp := hp.get hi'
      have htq := hq.get hk'
      rw [padd_drop hi' hk'] at hpad
      have c1 := htp.c
      have c2 := htq.c
      generalize hx : p[i] = x at *
      generalize hy : q[k] = y at *
      simp +decide (disch := first | omega | rfl | (simp +decide only [go_sem, ↓reduceIte, h9, h10, h11, hx, hy] <;> rfl) | fail) only [go_sem, ↓reduceIte, mk_empty, sl_3n, app_nil_map, mk_i64, max_nat, h9, h10, h11, hx, hy]
      refine call_eq0 hP (p_lex_spec (s := x) (t := y) htp.m htq.m hE) rfl rfl rfl ?_
      simp +decide (disch := first | omega | rfl | (simp +decide only [go_sem, ↓reduceIte, h9, h10, h11, hx, hy] <;> rfl) | fail) only [go_sem, ↓reduceIte, mk_empty, sl_3n, app_nil_map, mk_i64, max_nat, h9, h10, h11, hx, hy]
      refine cond_split (fun hc => ?_) (fun hc => ?_)
      · rw [if_pos hc] at hpad
        simp +decide (disch := first | omega | rfl | (simp +decide only [go_sem, ↓reduceIte, h9, h10, h11, hx, hy] <;> rfl) | fail) only [go_sem, ↓reduceIte, mk_empty, sl_3n, app_nil_map, mk_i64, max_nat, h9, h10, h11, hx, hy]
        rw [app_push_map (f := PV.term) (y := x) (xs := out) (ty' := 61) (fz := false) (by simp +decide (disch := first | omega | rfl | (simp +decide only [go_sem, ↓reduceIte, hh] <;> rfl) | fail) only [go_sem, ↓reduceIte, mk_empty, sl_3n, app_nil_map, mk_i64, max_nat, hh]) (by simp +decide (disch := first | omega | rfl | (simp +decide only [go_sem, ↓reduceIte] <;> rfl) | fail) only [go_sem, ↓reduceIte, mk_empty, sl_3n, app_nil_map, mk_i64, max_nat] <;> rfl) (by omega) rfl (by omega) (by omega)]
        simp +decide (disch := first | omega | rfl | (simp +decide only [go_sem, ↓reduceIte, h9, h10, h11, hx, hy] <;> rfl) | fail) only [go_sem, ↓reduceIte, mk_empty, sl_3n, app_nil_map, mk_i64, max_nat, h9, h10, h11, hx, hy]
        refine back_ovr ((p.length - (i + 1)) + (q.length - k)) (by omega) ⟨i + 1, k, out ++ [x], rfl, by omega, hk, by simp; omega, by simpa using hpad, ?_⟩
        simp +decide (disch := first | omega | rfl | (simp +decide only [go_sem, ↓reduceIte, h9, h10, h11] <;> rfl) | fail) only [go_sem, ↓reduceIte, mk_empty, sl_3n, app_nil_map, mk_i64, max_nat, h9, h10, h11]
        simp
      rw [if_neg hc] at hpad
      simp +decide (disch := first | omega | rfl | (simp +decide only [go_sem, ↓reduceIte, h9, h10, h11, hx, hy] <;> rfl) | fail) only [go_sem, ↓reduceIte, mk_empty, sl_3n, app_nil_map, mk_i64, max_nat, h9, h10, h11, hx, hy]
      refine cond_split (fun hc2 => ?_) (fun hc2 => ?_)
      · rw [if_pos hc2] at hpad
        simp +decide (disch := first | omega | rfl | (simp +decide only [go_sem, ↓reduceIte, h9, h10, h11, hx, hy] <;> rfl) | fail) only [go_sem, ↓reduceIte, mk_empty, sl_3n, app_nil_map, mk_i64, max_nat, h9, h10, h11, hx, hy]
        rw [app_push_map (f := PV.term) (y := y) (xs := out) (ty' := 61) (fz := false) (by simp +decide (disch := first | omega | rfl | (simp +decide only [go_sem, ↓reduceIte, hh] <;> rfl) | fail) only [go_sem, ↓reduceIte, mk_empty, sl_3n, app_nil_map, mk_i64, max_nat, hh]) (by simp +decide (disch := first | omega | rfl | (simp +decide only [go_sem, ↓reduceIte] <;> rfl) | fail) only [go_sem, ↓reduceIte, mk_empty, sl_3n, app_nil_map, mk_i64, max_nat] <;> rfl) (by omega) rfl (by omega) (by omega)]
        simp +decide (disch := first | omega | rfl | (simp +decide only [go_sem, ↓reduceIte, h9, h10, h11, hx, hy] <;> rfl) | fail) only [go_sem, ↓reduceIte, mk_empty, sl_3n, app_nil_map, mk_i64, max_nat, h9, h10, h11, hx, hy]
        refine back_ovr ((p.length - i) + (q.length - (k + 1))) (by omega) ⟨i, k + 1, out ++ [y], rfl, hi, by omega, by simp; omega, by simpa using hpad, ?_⟩
        simp +decide (disch := first | omega | rfl | (simp +decide only [go_sem, ↓reduceIte, h9, h10, h11] <;> rfl) | fail) only [go_sem, ↓reduceIte, mk_empty, sl_3n, app_nil_map, mk_i64, max_nat, h9, h10, h11]
        simp
      rw [if_neg hc2] at hpad
      simp +decide (disch := first | omega | rfl | (simp +decide only [go_sem, ↓reduceIte, h9, h10, h11, hx, hy] <;> rfl) | fail) only [go_sem, ↓reduceIte, mk_empty, sl_3n, app_nil_map, mk_i64, max_nat, h9, h10, h11, hx, hy]
      refine br_intro ?_ ?_
      all_goals
        simp +decide (disch := first | omega | rfl | (simp +decide only [go_sem, ↓reduceIte, h9, h10, h11, hx, hy] <;> rfl) | fail) only [go_sem, ↓reduceIte, mk_empty, sl_3n, app_nil_map, mk_i64, max_nat, h9, h10, h11, hx, hy]
        refine call_eq0 hP (p_added_spec (s := x) (t := y) (k := 2 ^ 33) (by omega) (by omega) (by omega)) rfl rfl rfl ?_
        simp +decide (disch := first | omega | rfl | (simp +decide only [go_sem, ↓reduceIte, h9, h10, h11, hx, hy] <;> rfl) | fail) only [go_sem, ↓reduceIte, mk_empty, sl_3n, app_nil_map, mk_i64, max_nat, h9, h10, h11, hx, hy]
        refine cond_split (fun hz => ?_) (fun hz => ?_)
        · rw [if_neg hz] at hpad
          simp +decide (disch := first | omega | rfl | (simp +decide only [go_sem, ↓reduceIte, h9, h10, h11, hx, hy] <;> rfl) | fail) only [go_sem, ↓reduceIte, mk_empty, sl_3n, app_nil_map, mk_i64, max_nat, h9, h10, h11, hx, hy]
          rw [app_push_map (f := PV.term) (y := (x.1 + y.1, x.2)) (xs := out) (ty' := 61) (fz := false) (by simp +decide (disch := first | omega | rfl | (simp +decide only [go_sem, ↓reduceIte, hh] <;> rfl) | fail) only [go_sem, ↓reduceIte, mk_empty, sl_3n, app_nil_map, mk_i64, max_nat, hh]) (by simp +decide (disch := first | omega | rfl | (simp +decide only [go_sem, ↓reduceIte] <;> rfl) | fail) only [go_sem, ↓reduceIte, mk_empty, sl_3n, app_nil_map, mk_i64, max_nat] <;> rfl) (by omega) rfl (by omega) (by omega)]
          simp +decide (disch := first | omega | rfl | (simp +decide only [go_sem, ↓reduceIte, h9, h10, h11, hx, hy] <;> rfl) | fail) only [go_sem, ↓reduceIte, mk_empty, sl_3n, app_nil_map, mk_i64, max_nat, h9, h10, h11, hx, hy]
          refine back_ovr ((p.length - (i + 1)) + (q.length - (k + 1))) (by omega) ⟨i + 1, k + 1, out ++ [(x.1 + y.1, x.2)], rfl, by omega, by omega, by simp; omega, by simpa using hpad, ?_⟩
          simp +decide (disch := first | omega | rfl | (simp +decide only [go_sem, ↓reduceIte, h9, h10, h11] <;> rfl) | fail) only [go_sem, ↓reduceIte, mk_empty, sl_3n, app_nil_map, mk_i64, max_nat, h9, h10, h11]
          simp
        · rw [if_pos (Decidable.not_not.1 hz)] at hpad
          simp +decide (disch := first | omega | rfl | (simp +decide only [go_sem, ↓reduceIte, h9, h10, h11, hx, hy] <;> rfl) | fail) only [go_sem, ↓reduceIte, mk_empty, sl_3n, app_nil_map, mk_i64, max_nat, h9, h10, h11, hx, hy]
          refine back_ovr ((p.length - (i + 1)) + (q.length - (k + 1))) (by omega) ⟨i + 1, k + 1, out, rfl, by omega, by omega, by omega, hpad, ?_⟩
          simp +decide (disch := first | omega | rfl | (simp +decide only [go_sem, ↓reduceIte, h9, h10, h11, hh] <;> rfl) | fail) only [go_sem, ↓reduceIte, mk_empty, sl_3n, app_nil_map, mk_i64, max_nat, h9, h10, h11, hh]
    · have hfin : (out ++ p.drop i ++ q.drop k).take (out.length + (p.drop i).length + (q.drop k).length) = padd p q := by
        rw [List.take_of_length_le (by simp; omega), ← hpad, List.drop_of_length_le (by omega : q.length ≤ k), padd_nil, List.append_nil]
      simp +decide (disch := first | omega | rfl | (simp +decide only [go_sem, ↓reduceIte, h9, h10, h11] <;> rfl) | fail) only [go_sem, ↓reduceIte, mk_empty, sl_3n, app_nil_map, mk_i64, max_nat, h9, h10, h11]
      rw [app_map (f := PV.term) (xs := out) (ys := p.drop i) (by simp +decide (disch := first | omega | rfl | (simp +decide only [go_sem, ↓reduceIte, hh] <;> rfl) | fail) only [go_sem, ↓reduceIte, mk_empty, sl_3n, app_nil_map, mk_i64, max_nat, hh]) rfl (by omega) (by simp; omega) (by simp; omega)]
      simp +decide (disch := first | omega | rfl | (simp +decide only [go_sem, ↓reduceIte, h9, h10, h11] <;> rfl) | fail) only [go_sem, ↓reduceIte, mk_empty, sl_3n, app_nil_map, mk_i64, max_nat, h9, h10, h11]
      rw [app_map (f := PV.term) (xs := out ++ p.drop i) (ys := q.drop k) (by simp +decide (disch := first | omega | rfl | (simp +decide only [go_sem, ↓reduceIte] <;> rfl) | fail) only [go_sem, ↓reduceIte, mk_empty, sl_3n, app_nil_map, mk_i64, max_nat]) (by simp) (by omega) (by simp; omega) (by simp; omega)]
      simp +decide (disch := first | omega | rfl | (simp +decide only [go_sem, ↓reduceIte, h9, h10, h11, looks3, List.contains_cons, List.contains_nil, List.flatMap_cons, List.flatMap_nil, List.append_nil] <;> rfl) | fail) only [go_sem, ↓reduceIte, mk_empty, sl_3n, app_nil_map, mk_i64, max_nat, h9, h10, h11, looks3, List.contains_cons, List.contains_nil, List.flatMap_cons, List.flatMap_nil, List.append_nil]
      exact retV_eq (by rw [← List.map_take, hfin]) rfl
  · have hfin : (out ++ p.drop i ++ q.drop k).take (out.length + (p.drop i).length + (q.drop k).length) = padd p q := by
      rw [List.take_of_length_le (by simp; omega), ← hpad, List.drop_of_length_le (by omega : p.length ≤ i), nil_padd, List.append_nil]
    simp +decide (disch := first | omega | rfl | (simp +decide only [go_sem, ↓reduceIte, h9, h10, h11] <;> rfl) | fail) only [go_sem, ↓reduceIte, mk_empty, sl_3n, app_nil_map, mk_i64, max_nat, h9, h10, h11]
    rw [app_map (f := PV.term) (xs := out) (ys := p.drop i) (by simp +decide (disch := first | omega | rfl | (simp +decide only [go_sem, ↓reduceIte, hh] <;> rfl) | fail) only [go_sem, ↓reduceIte, mk_empty, sl_3n, app_nil_map, mk_i64, max_nat, hh]) rfl (by omega) (by simp; omega) (by simp; omega)]
    simp +decide (disch := first | omega | rfl | (simp +decide only [go_sem, ↓reduceIte, h9, h10, h11] <;> rfl) | fail) only [go_sem, ↓reduceIte, mk_empty, sl_3n, app_nil_map, mk_i64, max_nat, h9, h10, h11]
    rw [app_map (f := PV.term) (xs := out ++ p.drop i) (ys := q.drop k) (by simp +decide (disch := first | omega | rfl | (simp +decide only [go_sem, ↓reduceIte] <;> rfl) | fail) only [go_sem, ↓reduceIte, mk_empty, sl_3n, app_nil_map, mk_i64, max_nat]) (by simp) (by omega) (by simp; omega) (by simp; omega)]
    simp +decide (disch := first | omega | rfl | (simp +decide only [go_sem, ↓reduceIte, h9, h10, h11, looks3, List.contains_cons, List.contains_nil, List.flatMap_cons, List.flatMap_nil, List.append_nil] <;> rfl) | fail) only [go_sem, ↓reduceIte, mk_empty, sl_3n, app_nil_map, mk_i64, max_nat, h9, h10, h11, looks3, List.contains_cons, List.contains_nil, List.flatMap_cons, List.flatMap_nil, List.append_nil]
    exact retV_eq (by rw [← List.map_take, hfin]) rfl
theorem p_Add_spec {p q : List Tm} {K E : Nat} (hp : PB K E p) (hq : PB K E q) (hK : K ≤ 2 ^ 33) (hE : E ≤ 2 ^ 38) (hlp : p.length ≤ 2 ^ 36) (hlq : q.length ≤ 2 ^ 36) :
    FnSpec Tryz.prog 38 [PV.poly p, PV.poly q] (· = PV.poly (padd p q)) := by
  refine fn_of_vc mixed Tryz.func38 rfl c38_ok (by simp [c38]) fun C hP => ?_; simp only [c38]
  simp +decide (disch := first | omega | rfl | (simp +decide only [go_sem, ↓reduceIte] <;> rfl) | fail) only [go_sem, ↓reduceIte, mk_empty, sl_3n, app_nil_map, mk_i64, max_nat]
  refine call_eq0 hP (p_merge_spec hp hq hK hE hlp hlq) rfl rfl rfl ?_
  simp +decide (disch := first | omega | rfl | (simp +decide only [go_sem, ↓reduceIte] <;> rfl) | fail) only [go_sem, ↓reduceIte, mk_empty, sl_3n, app_nil_map, mk_i64, max_nat]
  exact retV_eq rfl rfl
end Go.Proofs.YtjkbalanglgoiaaGreat
namespace Go.Proofs.YtjkbalanglgoiaaGreat
open Go Go.FW
set_option linter.unusedSimpArgs false
set_option linter.unusedVariables false
set_option maxRecDepth 100000
theorem p_sum_spec {K E : Nat} (hE : E ≤ 2 ^ 38) : ∀ (n : Nat) (l : List (List Tm)), l.length ≤ n → (∀ p ∈ l, PB K E p) → l.length * K ≤ 2 ^ 33 → l.length ≤ 2 ^ 36 → plen l ≤ 2 ^ 36 → FnSpec Tryz.prog 84 [PV.polys l] (· = PV.poly (psum l)) := by
  intro n
  induction n with
  | zero =>
    intro l hl _ _ _ _
    have : l = [] := List.length_eq_zero_iff.1 (by omega)
    subst this
    refine fn_of_vc mixed Tryz.func84 rfl c84_ok (by simp [c84]) fun C hP => ?_; simp only [c84]
    simp +decide (disch := first | omega | rfl | (simp +decide only [go_sem, ↓reduceIte, List.map_nil, List.length_nil] <;> rfl) | fail) only [go_sem, ↓reduceIte, mk_empty, sl_3n, app_nil_map, mk_i64, max_nat, List.map_nil, List.length_nil]
    exact retV_le (poly_nil' (by rw [psum])) rfl
  | succ n ih =>
    intro l hl hb hK hll hpl
    refine fn_of_vc mixed Tryz.func84 rfl c84_ok (by simp [c84]) fun C hP => ?_; simp only [c84]
    simp +decide (disch := first | omega | rfl | (simp +decide only [go_sem, ↓reduceIte] <;> rfl) | fail) only [go_sem, ↓reduceIte, mk_empty, sl_3n, app_nil_map, mk_i64, max_nat]
    refine cond_split (fun h0 => ?_) (fun h0 => ?_)
    · have : l = [] := List.length_eq_zero_iff.1 (by omega)
      subst this
      simp +decide (disch := first | omega | rfl | (simp +decide only [go_sem, ↓reduceIte] <;> rfl) | fail) only [go_sem, ↓reduceIte, mk_empty, sl_3n, app_nil_map, mk_i64, max_nat]
      exact retV_le (poly_nil' (by rw [psum])) rfl
    simp +decide (disch := first | omega | rfl | (simp +decide only [go_sem, ↓reduceIte] <;> rfl) | fail) only [go_sem, ↓reduceIte, mk_empty, sl_3n, app_nil_map, mk_i64, max_nat]
    refine cond_split (fun h1 => ?_) (fun h1 => ?_)
    · obtain ⟨p, rfl⟩ : ∃ p, l = [p] := List.length_eq_one_iff.1 (by omega)
      simp +decide (disch := first | omega | rfl | (simp +decide only [go_sem, ↓reduceIte, List.map_cons, List.map_nil] <;> rfl) | fail) only [go_sem, ↓reduceIte, mk_empty, sl_3n, app_nil_map, mk_i64, max_nat, List.map_cons, List.map_nil]
      exact retV_eq (by rw [psum]; rfl) rfl
    have h2 : 2 ≤ l.length := by omega
    have hs := plen_split l (l.length / 2)
    have e : (2 : Int) = ((2 : Nat) : Int) := rfl
    have hq : ∀ d fr hp K, binK .quo false (.int .i64 (l.length : Int)) (.int .i64 2) d fr hp K = K (upd fr d (.int .i64 ((l.length / 2 : Nat) : Int))) hp := fun d fr hp K => by
      rw [e, quo_i64 (by omega) (by omega)]
    have b1 := psum_bound (K := K) (E := E) _ (l.take (l.length / 2)) (Nat.le_refl _) (fun p hp => hb p (List.mem_of_mem_take hp))
    have b2 := psum_bound (K := K) (E := E) _ (l.drop (l.length / 2)) (Nat.le_refl _) (fun p hp => hb p (List.mem_of_mem_drop hp))
    have l1 : (l.take (l.length / 2)).length * K ≤ l.length * K := Nat.mul_le_mul_right _ (by rw [List.length_take]; omega)
    have l2 : (l.drop (l.length / 2)).length * K ≤ l.length * K := Nat.mul_le_mul_right _ (by rw [List.length_drop]; omega)
    simp +decide (disch := first | omega | rfl | (simp +decide only [go_sem, ↓reduceIte, hq] <;> rfl) | fail) only [go_sem, ↓reduceIte, mk_empty, sl_3n, app_nil_map, mk_i64, max_nat, hq]
    refine call_eq0 hP (ih (l.take (l.length / 2)) (by rw [List.length_take]; omega) (fun p hp => hb p (List.mem_of_mem_take hp)) (by omega) (by rw [List.length_take]; omega) (by omega)) rfl rfl rfl ?_
    simp +decide (disch := first | omega | rfl | (simp +decide only [go_sem, ↓reduceIte, hq] <;> rfl) | fail) only [go_sem, ↓reduceIte, mk_empty, sl_3n, app_nil_map, mk_i64, max_nat, hq]
    refine call_eq0 hP (ih (l.drop (l.length / 2)) (by rw [List.length_drop]; omega) (fun p hp => hb p (List.mem_of_mem_drop hp)) (by omega) (by rw [List.length_drop]; omega) (by omega)) rfl rfl rfl ?_
    simp +decide (disch := first | omega | rfl | (simp +decide only [go_sem, ↓reduceIte, hq] <;> rfl) | fail) only [go_sem, ↓reduceIte, mk_empty, sl_3n, app_nil_map, mk_i64, max_nat, hq]
    refine call_eq0 hP (p_Add_spec (b1.1.mono (K' := l.length * K) l1 (Nat.le_refl _)) (b2.1.mono l2 (Nat.le_refl _)) hK hE (by omega) (by omega)) rfl rfl rfl ?_
    simp +decide (disch := first | omega | rfl | (simp +decide only [go_sem, ↓reduceIte] <;> rfl) | fail) only [go_sem, ↓reduceIte, mk_empty, sl_3n, app_nil_map, mk_i64, max_nat]
    exact retV_eq (by rw [psum_many h2]) rfl
theorem ptimes_take {p : List Tm} {t : Tm} {i : Nat} (h : i < p.length) : ptimes (p.take (i + 1)) t = ptimes (p.take i) t ++ (if p[i].1 * t.1 = 0 then [] else [(p[i].1 * t.1, mulM p[i].2 t.2)]) := by
  rw [List.take_succ_eq_append_getElem h, ptimes, List.filterMap_append, ptimes]
  congr 1
  simp only [List.filterMap_cons, List.filterMap_nil]
  split <;> split <;> simp_all
theorem p_times_spec {p : List Tm} {t : Tm} {K E : Nat} (hp : PB K E p) (ht : TB K E t) (hK : K ≤ 2 ^ 33) (hE : E ≤ 2 ^ 38) (hlp : p.length ≤ 2 ^ 36) :
    FnSpec Tryz.prog 83 [PV.poly p, PV.term t] (· = PV.poly (ptimes p t)) := by
  refine fn_of_vc mixed Tryz.func83 rfl c83_ok (by simp [c83]) fun C hP => ?_; simp only [c83]
  simp +decide (disch := first | omega | rfl | (simp +decide only [go_sem, ↓reduceIte] <;> rfl) | fail) only [go_sem, ↓reduceIte, mk_empty, sl_3n, app_nil_map, mk_i64, max_nat]
  refine vc_loopF (by repeat (first | exact okSk_ret | exact okSk_retM | exact okSk_retO | apply okSk_back | apply okSk_out | apply okSk_eb | apply okSk_c | apply okSk_o | apply okSk_again)) [(5, 5), (7, 8), (14, 36)] [7, 8, 11, 34, 35] (fun n J hp => ∃ i, n = p.length - i ∧ i ≤ p.length ∧ J 5 = .ms 11 (ptimes (p.take i) t).length ∧ J 14 = .int .i64 (i : Nat) ∧ hp 3 = some ⟨4, 61, [PV.term t], false⟩ ∧ hp 11 = some ⟨4, 61, (ptimes (p.take i) t).map PV.term, false⟩) p.length ?_ ?_
  · refine ⟨0, rfl, by omega, ?_⟩
    simp +decide (disch := first | omega | rfl | (simp +decide only [go_sem, ↓reduceIte] <;> rfl) | fail) only [go_sem, ↓reduceIte, mk_empty, sl_3n, app_nil_map, mk_i64, max_nat]
    simp [ptimes]
  rintro _ J h ⟨i, rfl, hi, h5, h14, hh3, hh11⟩
  simp +decide (disch := first | omega | rfl | (simp +decide only [go_sem, ↓reduceIte, h5, h14] <;> rfl) | fail) only [go_sem, ↓reduceIte, mk_empty, sl_3n, app_nil_map, mk_i64, max_nat, h5, h14]
  refine cond_split (fun hg => ?_) (fun hg => ?_)
  · have hi' : i < p.length := by omega
    have htp := hp.get hi'
    have htk := ptimes_take (t := t) hi'
    have hlen := ptimes_length (p.take i) t
    rw [List.length_take] at hlen
    have c1 := htp.c
    have c2 := ht.c
    have hrm := rs_mul p[i].1 t.1
    generalize hx : p[i] = x at *
    simp +decide (disch := first | omega | rfl | (simp +decide only [go_sem, ↓reduceIte, h5, h14, hh3, hx] <;> rfl) | fail) only [go_sem, ↓reduceIte, mk_empty, sl_3n, app_nil_map, mk_i64, max_nat, h5, h14, hh3, hx]
    refine call_eq0 hP (q_Mul (a := x.1) (b := t.1) (k := 2 ^ 33) (by omega) (by omega) (by omega)) rfl rfl rfl ?_
    simp +decide (disch := first | omega | rfl | (simp +decide only [go_sem, ↓reduceIte, h5, h14, hh3, hx] <;> rfl) | fail) only [go_sem, ↓reduceIte, mk_empty, sl_3n, app_nil_map, mk_i64, max_nat, h5, h14, hh3, hx]
    refine call_eq0 hP (q_Sign (a := x.1 * t.1) (by omega)) rfl rfl rfl ?_
    simp +decide (disch := first | omega | rfl | (simp +decide only [go_sem, ↓reduceIte, h5, h14, hh3, hx] <;> rfl) | fail) only [go_sem, ↓reduceIte, mk_empty, sl_3n, app_nil_map, mk_i64, max_nat, h5, h14, hh3, hx]
    refine cond_split (fun hz => ?_) (fun hz => ?_)
    · rw [if_neg (fun h => hz (sgnQ_zero.2 h))] at htk
      simp +decide (disch := first | omega | rfl | (simp +decide only [go_sem, ↓reduceIte, h5, h14, hh3, hx] <;> rfl) | fail) only [go_sem, ↓reduceIte, mk_empty, sl_3n, app_nil_map, mk_i64, max_nat, h5, h14, hh3, hx]
      refine call_eq0 hP (m_Mul_spec htp.m ht.m (by omega)) rfl rfl rfl ?_
      simp +decide (disch := first | omega | rfl | (simp +decide only [go_sem, ↓reduceIte, h5, h14, hh3, hx] <;> rfl) | fail) only [go_sem, ↓reduceIte, mk_empty, sl_3n, app_nil_map, mk_i64, max_nat, h5, h14, hh3, hx]
      rw [app_push_map (f := PV.term) (y := (x.1 * t.1, mulM x.2 t.2)) (xs := ptimes (p.take i) t) (ty' := 61) (fz := false) (by simp +decide (disch := first | omega | rfl | (simp +decide only [go_sem, ↓reduceIte, hh11] <;> rfl) | fail) only [go_sem, ↓reduceIte, mk_empty, sl_3n, app_nil_map, mk_i64, max_nat, hh11]) (by simp +decide (disch := first | omega | rfl | (simp +decide only [go_sem, ↓reduceIte] <;> rfl) | fail) only [go_sem, ↓reduceIte, mk_empty, sl_3n, app_nil_map, mk_i64, max_nat] <;> rfl) (by omega) rfl (by omega) (by omega)]
      rw [← htk]
      simp +decide (disch := first | omega | rfl | (simp +decide only [go_sem, ↓reduceIte, h5, h14, hh3, hx] <;> rfl) | fail) only [go_sem, ↓reduceIte, mk_empty, sl_3n, app_nil_map, mk_i64, max_nat, h5, h14, hh3, hx]
      refine back_ovr (p.length - (i + 1)) (by omega) ⟨i + 1, rfl, by omega, ?_⟩
      rw [htk]
      simp +decide (disch := first | omega | rfl | (simp +decide only [go_sem, ↓reduceIte, h5, h14, hh3, List.length_append] <;> rfl) | fail) only [go_sem, ↓reduceIte, mk_empty, sl_3n, app_nil_map, mk_i64, max_nat, h5, h14, hh3, List.length_append]
    · rw [if_pos (sgnQ_zero.1 (Decidable.not_not.1 hz)), List.append_nil] at htk
      simp +decide (disch := first | omega | rfl | (simp +decide only [go_sem, ↓reduceIte, h5, h14, hh3, hx] <;> rfl) | fail) only [go_sem, ↓reduceIte, mk_empty, sl_3n, app_nil_map, mk_i64, max_nat, h5, h14, hh3, hx]
      refine back_ovr (p.length - (i + 1)) (by omega) ⟨i + 1, rfl, by omega, ?_⟩
      rw [htk]
      simp +decide (disch := first | omega | rfl | (simp +decide only [go_sem, ↓reduceIte, h5, h14, hh3, hh11] <;> rfl) | fail) only [go_sem, ↓reduceIte, mk_empty, sl_3n, app_nil_map, mk_i64, max_nat, h5, h14, hh3, hh11]
  · obtain rfl : i = p.length := by omega
    rw [List.take_length] at h5 hh11
    simp +decide (disch := first | omega | rfl | (simp +decide only [go_sem, ↓reduceIte, h5, hh11, looks3, List.contains_cons, List.contains_nil, List.flatMap_cons, List.flatMap_nil, List.append_nil] <;> rfl) | fail) only [go_sem, ↓reduceIte, mk_empty, sl_3n, app_nil_map, mk_i64, max_nat, h5, hh11, looks3, List.contains_cons, List.contains_nil, List.flatMap_cons, List.flatMap_nil, List.append_nil]
    exact retV_eq (by simp [List.take_of_length_le]) rfl
theorem p_Mul_spec {p q : List Tm} {K E : Nat} (hp : PB K E p) (hq : PB K E q) (hE : E ≤ 2 ^ 37) (hlp : p.length ≤ 2 ^ 30) (hlq : q.length ≤ 2 ^ 30) (hlm : p.length * q.length ≤ 2 ^ 36) (hK : min p.length q.length * (K + K) ≤ 2 ^ 33) (hK2 : K ≤ 2 ^ 33) :
    FnSpec Tryz.prog 32 [PV.poly p, PV.poly q] (· = PV.poly (pmul p q)) := by
  have main : ∀ (p q : List Tm), PB K E p → PB K E q → p.length ≤ 2 ^ 30 → q.length ≤ 2 ^ 30 → p.length * q.length ≤ 2 ^ 36 → p.length * (K + K) ≤ 2 ^ 33 → p.length ≤ q.length → True := fun _ _ _ _ _ _ _ _ _ => trivial
  refine fn_of_vc mixed Tryz.func32 rfl c32_ok (by simp [c32]) fun C hP => ?_; simp only [c32]
  simp +decide (disch := first | omega | rfl | (simp +decide only [go_sem, ↓reduceIte] <;> rfl) | fail) only [go_sem, ↓reduceIte, mk_empty, sl_3n, app_nil_map, mk_i64, max_nat]
  refine cond_split (fun hg => ?_) (fun hg => ?_)
  · have hfin : pmul0 q p = pmul p q := by rw [pmul, if_pos (by omega)]
    have hK3 : q.length * (K + K) ≤ 2 ^ 33 := by rw [Nat.min_eq_right (by omega)] at hK; exact hK
    have hlm2 : q.length * p.length ≤ 2 ^ 36 := by rw [Nat.mul_comm]; exact hlm
    simp +decide (disch := first | omega | rfl | (simp +decide only [go_sem, ↓reduceIte] <;> rfl) | fail) only [go_sem, ↓reduceIte, mk_empty, sl_3n, app_nil_map, mk_i64, max_nat]
    refine vc_loopF (by repeat (first | exact okSk_ret | exact okSk_retM | exact okSk_retO | apply okSk_back | apply okSk_out | apply okSk_eb | apply okSk_c | apply okSk_o | apply okSk_again)) [(5, 5), (7, 7), (20, 30)] [7, 17, 28, 29] (fun n J hp => ∃ i, n = q.length - i ∧ i ≤ q.length ∧ J 5 = .ms 17 i ∧ J 20 = .int .i64 (i : Nat) ∧ hp 17 = some ⟨1, 23, ((q.take i).map (ptimes p)).map PV.poly, false⟩) q.length ?_ ?_
    · refine ⟨0, rfl, by omega, ?_⟩
      simp +decide (disch := first | omega | rfl | (simp +decide only [go_sem, ↓reduceIte] <;> rfl) | fail) only [go_sem, ↓reduceIte, mk_empty, sl_3n, app_nil_map, mk_i64, max_nat]
      simp
    rintro _ J h ⟨i, rfl, hi, h5, h20, hh⟩
    simp +decide (disch := first | omega | rfl | (simp +decide only [go_sem, ↓reduceIte, h5, h20] <;> rfl) | fail) only [go_sem, ↓reduceIte, mk_empty, sl_3n, app_nil_map, mk_i64, max_nat, h5, h20]
    refine cond_split (fun hg2 => ?_) (fun hg2 => ?_)
    · have hi' : i < q.length := by omega
      have htp := hq.get hi'
      have htk : (q.take (i + 1)).map (ptimes p) = (q.take i).map (ptimes p) ++ [ptimes p q[i]] := by
        rw [List.take_succ_eq_append_getElem hi', List.map_append]; rfl
      generalize hx : q[i] = x at *
      simp +decide (disch := first | omega | rfl | (simp +decide only [go_sem, ↓reduceIte, h5, h20, hx] <;> rfl) | fail) only [go_sem, ↓reduceIte, mk_empty, sl_3n, app_nil_map, mk_i64, max_nat, h5, h20, hx]
      refine call_eq0 hP (p_times_spec (t := x) hp htp hK2 (by omega) (by omega)) rfl rfl rfl ?_
      simp +decide (disch := first | omega | rfl | (simp +decide only [go_sem, ↓reduceIte, h5, h20, hx] <;> rfl) | fail) only [go_sem, ↓reduceIte, mk_empty, sl_3n, app_nil_map, mk_i64, max_nat, h5, h20, hx]
      rw [app_push_map (f := PV.poly) (y := ptimes p x) (xs := (q.take i).map (ptimes p)) (ty' := 23) (fz := false) (by simp +decide (disch := first | omega | rfl | (simp +decide only [go_sem, ↓reduceIte, hh] <;> rfl) | fail) only [go_sem, ↓reduceIte, mk_empty, sl_3n, app_nil_map, mk_i64, max_nat, hh]) (by simp +decide (disch := first | omega | rfl | (simp +decide only [go_sem, ↓reduceIte] <;> rfl) | fail) only [go_sem, ↓reduceIte, mk_empty, sl_3n, app_nil_map, mk_i64, max_nat] <;> rfl) (by omega) (by simp; omega) (by omega) (by omega)]
      rw [← htk]
      simp +decide (disch := first | omega | rfl | (simp +decide only [go_sem, ↓reduceIte, h5, h20, hx] <;> rfl) | fail) only [go_sem, ↓reduceIte, mk_empty, sl_3n, app_nil_map, mk_i64, max_nat, h5, h20, hx]
      refine back_ovr (q.length - (i + 1)) (by omega) ⟨i + 1, rfl, by omega, ?_⟩
      simp +decide (disch := first | omega | rfl | (simp +decide only [go_sem, ↓reduceIte, h5, h20] <;> rfl) | fail) only [go_sem, ↓reduceIte, mk_empty, sl_3n, app_nil_map, mk_i64, max_nat, h5, h20]
    · obtain rfl : i = q.length := by omega
      rw [List.take_length] at hh
      have hpl := plen_map_times q p
      simp +decide (disch := first | omega | rfl | (simp +decide only [go_sem, ↓reduceIte, h5, hh] <;> rfl) | fail) only [go_sem, ↓reduceIte, mk_empty, sl_3n, app_nil_map, mk_i64, max_nat, h5, hh]
      refine call_eq hP (p_sum_spec (K := K + K) (E := E + E) (by omega) _ (q.map (ptimes p)) (Nat.le_refl _) (fun x hx => by
        obtain ⟨t, ht, rfl⟩ := List.mem_map.1 hx
        exact ptimes_PB hp (hq t ht)) (by rw [List.length_map]; omega) (by rw [List.length_map]; omega) (by omega)) (by simp +decide (disch := first | omega | rfl | (simp +decide only [go_sem, ↓reduceIte, hh, looks3, List.contains_cons, List.contains_nil, List.flatMap_cons, List.flatMap_nil, List.append_nil] <;> rfl) | fail) only [go_sem, ↓reduceIte, mk_empty, sl_3n, app_nil_map, mk_i64, max_nat, hh, looks3, List.contains_cons, List.contains_nil, List.flatMap_cons, List.flatMap_nil, List.append_nil]; simp [List.take_of_length_le]) rfl ?_
      simp +decide (disch := first | omega | rfl | (simp +decide only [go_sem, ↓reduceIte] <;> rfl) | fail) only [go_sem, ↓reduceIte, mk_empty, sl_3n, app_nil_map, mk_i64, max_nat]
      exact retV_eq (congrArg PV.poly hfin) rfl
  · have hfin : pmul0 p q = pmul p q := by rw [pmul, if_neg (by omega)]
    have hK3 : p.length * (K + K) ≤ 2 ^ 33 := by rw [Nat.min_eq_left (by omega)] at hK; exact hK
    simp +decide (disch := first | omega | rfl | (simp +decide only [go_sem, ↓reduceIte] <;> rfl) | fail) only [go_sem, ↓reduceIte, mk_empty, sl_3n, app_nil_map, mk_i64, max_nat]
    refine vc_loopF (by repeat (first | exact okSk_ret | exact okSk_retM | exact okSk_retO | apply okSk_back | apply okSk_out | apply okSk_eb | apply okSk_c | apply okSk_o | apply okSk_again)) [(5, 5), (7, 7), (20, 30)] [7, 17, 28, 29] (fun n J hp => ∃ i, n = p.length - i ∧ i ≤ p.length ∧ J 5 = .ms 17 i ∧ J 20 = .int .i64 (i : Nat) ∧ hp 17 = some ⟨1, 23, ((p.take i).map (ptimes q)).map PV.poly, false⟩) p.length ?_ ?_
    · refine ⟨0, rfl, by omega, ?_⟩
      simp +decide (disch := first | omega | rfl | (simp +decide only [go_sem, ↓reduceIte] <;> rfl) | fail) only [go_sem, ↓reduceIte, mk_empty, sl_3n, app_nil_map, mk_i64, max_nat]
      simp
    rintro _ J h ⟨i, rfl, hi, h5, h20, hh⟩
    simp +decide (disch := first | omega | rfl | (simp +decide only [go_sem, ↓reduceIte, h5, h20] <;> rfl) | fail) only [go_sem, ↓reduceIte, mk_empty, sl_3n, app_nil_map, mk_i64, max_nat, h5, h20]
    refine cond_split (fun hg2 => ?_) (fun hg2 => ?_)
    · have hi' : i < p.length := by omega
      have htp := hp.get hi'
      have htk : (p.take (i + 1)).map (ptimes q) = (p.take i).map (ptimes q) ++ [ptimes q p[i]] := by
        rw [List.take_succ_eq_append_getElem hi', List.map_append]; rfl
      generalize hx : p[i] = x at *
      simp +decide (disch := first | omega | rfl | (simp +decide only [go_sem, ↓reduceIte, h5, h20, hx] <;> rfl) | fail) only [go_sem, ↓reduceIte, mk_empty, sl_3n, app_nil_map, mk_i64, max_nat, h5, h20, hx]
      refine call_eq0 hP (p_times_spec (t := x) hq htp hK2 (by omega) (by omega)) rfl rfl rfl ?_
      simp +decide (disch := first | omega | rfl | (simp +decide only [go_sem, ↓reduceIte, h5, h20, hx] <;> rfl) | fail) only [go_sem, ↓reduceIte, mk_empty, sl_3n, app_nil_map, mk_i64, max_nat, h5, h20, hx]
      rw [app_push_map (f := PV.poly) (y := ptimes q x) (xs := (p.take i).map (ptimes q)) (ty' := 23) (fz := false) (by simp +decide (disch := first | omega | rfl | (simp +decide only [go_sem, ↓reduceIte, hh] <;> rfl) | fail) only [go_sem, ↓reduceIte, mk_empty, sl_3n, app_nil_map, mk_i64, max_nat, hh]) (by simp +decide (disch := first | omega | rfl | (simp +decide only [go_sem, ↓reduceIte] <;> rfl) | fail) only [go_sem, ↓reduceIte, mk_empty, sl_3n, app_nil_map, mk_i64, max_nat] <;> rfl) (by omega) (by simp; omega) (by omega) (by omega)]
      rw [← htk]
      simp +decide (disch := first | omega | rfl | (simp +decide only [go_sem, ↓reduceIte, h5, h20, hx] <;> rfl) | fail) only [go_sem, ↓reduceIte, mk_empty, sl_3n, app_nil_map, mk_i64, max_nat, h5, h20, hx]
      refine back_ovr (p.length - (i + 1)) (by omega) ⟨i + 1, rfl, by omega, ?_⟩
      simp +decide (disch := first | omega | rfl | (simp +decide only [go_sem, ↓reduceIte, h5, h20] <;> rfl) | fail) only [go_sem, ↓reduceIte, mk_empty, sl_3n, app_nil_map, mk_i64, max_nat, h5, h20]
    · obtain rfl : i = p.length := by omega
      rw [List.take_length] at hh
      have hpl := plen_map_times p q
      simp +decide (disch := first | omega | rfl | (simp +decide only [go_sem, ↓reduceIte, h5, hh] <;> rfl) | fail) only [go_sem, ↓reduceIte, mk_empty, sl_3n, app_nil_map, mk_i64, max_nat, h5, hh]
      refine call_eq hP (p_sum_spec (K := K + K) (E := E + E) (by omega) _ (p.map (ptimes q)) (Nat.le_refl _) (fun x hx => by
        obtain ⟨t, ht, rfl⟩ := List.mem_map.1 hx
        exact ptimes_PB hq (hp t ht)) (by rw [List.length_map]; omega) (by rw [List.length_map]; omega) (by omega)) (by simp +decide (disch := first | omega | rfl | (simp +decide only [go_sem, ↓reduceIte, hh, looks3, List.contains_cons, List.contains_nil, List.flatMap_cons, List.flatMap_nil, List.append_nil] <;> rfl) | fail) only [go_sem, ↓reduceIte, mk_empty, sl_3n, app_nil_map, mk_i64, max_nat, hh, looks3, List.contains_cons, List.contains_nil, List.flatMap_cons, List.flatMap_nil, List.append_nil]; simp [List.take_of_length_le]) rfl ?_
      simp +decide (disch := first | omega | rfl | (simp +decide only [go_sem, ↓reduceIte] <;> rfl) | fail) only [go_sem, ↓reduceIte, mk_empty, sl_3n, app_nil_map, mk_i64, max_nat]
      exact retV_eq (congrArg PV.poly hfin) rfl
end Go.Proofs.YtjkbalanglgoiaaGreat
namespace Go.Proofs.YtjkbalanglgoiaaGreat
open Go Go.FW
set_option linter.unusedSimpArgs false
set_option linter.unusedVariables false
set_option maxRecDepth 100000
theorem p_Scale_spec {p : List Tm} {a : Rat} {K E : Nat} (hp : PB K E p) (ha : rs a + 1 ≤ K) (hK : K ≤ 2 ^ 33) (hE : E ≤ 2 ^ 38) (hlp : p.length ≤ 2 ^ 36) : FnSpec Tryz.prog 33 [PV.poly p, PV.rat a] (· = PV.poly (pscale p a)) := by
  refine fn_of_vc mixed Tryz.func33 rfl c33_ok (by simp [c33]) fun C hP => ?_; simp only [c33]
  simp +decide (disch := first | omega | rfl | (simp +decide only [go_sem, ↓reduceIte] <;> rfl) | fail) only [go_sem, ↓reduceIte, mk_empty, sl_3n, app_nil_map, mk_i64, max_nat]
  refine call_eq0 hP (q_Sign (a := a) (by omega)) rfl rfl rfl ?_
  simp +decide (disch := first | omega | rfl | (simp +decide only [go_sem, ↓reduceIte] <;> rfl) | fail) only [go_sem, ↓reduceIte, mk_empty, sl_3n, app_nil_map, mk_i64, max_nat]
  refine cond_split (fun h0 => ?_) (fun h0 => ?_)
  · simp +decide (disch := first | omega | rfl | (simp +decide only [go_sem, ↓reduceIte] <;> rfl) | fail) only [go_sem, ↓reduceIte, mk_empty, sl_3n, app_nil_map, mk_i64, max_nat]
    exact retV_le (poly_nil' (by rw [pscale, if_pos (sgnQ_zero.1 h0)])) rfl
  · simp +decide (disch := first | omega | rfl | (simp +decide only [go_sem, ↓reduceIte] <;> rfl) | fail) only [go_sem, ↓reduceIte, mk_empty, sl_3n, app_nil_map, mk_i64, max_nat]
    refine call_eq0 hP ((p_times_spec (t := (a, [])) hp (TB.num ha) hK hE hlp).le (args' := [PV.poly p, .agg [.bool (decide (a.num < 0)), PV.num a.num.natAbs, PV.num a.den, .nilS]]) ⟨le_refl _, ⟨rfl, le1_refl _, le1_refl _, trivial, trivial⟩, trivial⟩) rfl rfl rfl ?_
    simp +decide (disch := first | omega | rfl | (simp +decide only [go_sem, ↓reduceIte] <;> rfl) | fail) only [go_sem, ↓reduceIte, mk_empty, sl_3n, app_nil_map, mk_i64, max_nat]
    exact retV_eq (by rw [pscale, if_neg (fun h => h0 (sgnQ_zero.2 h))]) rfl
theorem p_Neg_spec {p : List Tm} {K E : Nat} (hp : PB K E p) (hK2 : 2 ≤ K) (hK : K ≤ 2 ^ 33) (hE : E ≤ 2 ^ 38) (hlp : p.length ≤ 2 ^ 36) : FnSpec Tryz.prog 98 [PV.poly p] (· = PV.poly (pneg p)) := by
  have h1 := rs_m1
  refine fn_of_vc mixed Tryz.func98 rfl c98_ok (by simp [c98]) fun C hP => ?_; simp only [c98]
  simp +decide (disch := first | omega | rfl | (simp +decide only [go_sem, ↓reduceIte] <;> rfl) | fail) only [go_sem, ↓reduceIte, mk_empty, sl_3n, app_nil_map, mk_i64, max_nat]
  refine call_eq0 hP (q_Of_spec (x := -1) (by omega) (by omega)) rfl rfl rfl ?_
  simp +decide (disch := first | omega | rfl | (simp +decide only [go_sem, ↓reduceIte] <;> rfl) | fail) only [go_sem, ↓reduceIte, mk_empty, sl_3n, app_nil_map, mk_i64, max_nat]
  refine call_eq0 hP (p_Scale_spec (a := ((-1 : Int) : Rat)) hp (by have : ((-1 : Int) : Rat) = -1 := rfl; rw [this]; omega) hK hE hlp) rfl rfl rfl ?_
  simp +decide (disch := first | omega | rfl | (simp +decide only [go_sem, ↓reduceIte] <;> rfl) | fail) only [go_sem, ↓reduceIte, mk_empty, sl_3n, app_nil_map, mk_i64, max_nat]
  exact retV_eq rfl rfl
theorem p_Sub_spec {p q : List Tm} {K E : Nat} (hp : PB K E p) (hq : PB K E q) (hK2 : 2 ≤ K) (hK : K ≤ 2 ^ 32) (hE : E ≤ 2 ^ 38) (hlp : p.length ≤ 2 ^ 36) (hlq : q.length ≤ 2 ^ 36) : FnSpec Tryz.prog 42 [PV.poly p, PV.poly q] (· = PV.poly (psub p q)) := by
  have hl := pscale_length q (-1)
  refine fn_of_vc mixed Tryz.func42 rfl c42_ok (by simp [c42]) fun C hP => ?_; simp only [c42]
  simp +decide (disch := first | omega | rfl | (simp +decide only [go_sem, ↓reduceIte] <;> rfl) | fail) only [go_sem, ↓reduceIte, mk_empty, sl_3n, app_nil_map, mk_i64, max_nat]
  refine call_eq0 hP (p_Neg_spec hq hK2 (by omega) hE hlq) rfl rfl rfl ?_
  simp +decide (disch := first | omega | rfl | (simp +decide only [go_sem, ↓reduceIte] <;> rfl) | fail) only [go_sem, ↓reduceIte, mk_empty, sl_3n, app_nil_map, mk_i64, max_nat]
  refine call_eq0 hP (p_Add_spec (hp.mono (K' := K + 2) (by omega) (Nat.le_refl _)) (pneg_PB hq) (by omega) hE hlp (by show (pscale q (-1)).length ≤ _; omega)) rfl rfl rfl ?_
  simp +decide (disch := first | omega | rfl | (simp +decide only [go_sem, ↓reduceIte] <;> rfl) | fail) only [go_sem, ↓reduceIte, mk_empty, sl_3n, app_nil_map, mk_i64, max_nat]
  exact retV_eq rfl rfl
theorem q_Add0_raw {n : Bool} {a d : List Nat} {k : Nat} (hp : Raw k n a d) (hk : k < 2 ^ 36) : FnSpec Tryz.prog 97 [PV.rr n a d, PV.rat ((0 : Int) : Rat)] (· = PV.rat (rv n a d)) := by
  have h0 : rs ((0 : Int) : Rat) ≤ k := by have := rs_0; have := hp.k1; have e : ((0 : Int) : Rat) = 0 := rfl; rw [e]; omega
  have := q_Add_raw hp (raw_of h0) hk
  rw [rv_of] at this
  have e : rv n a d + ((0 : Int) : Rat) = rv n a d := Rat.add_zero _
  rwa [e] at this
theorem p_Const_spec {n : Bool} {a d : List Nat} {k : Nat} (hp : Raw k n a d) (hk : k < 2 ^ 36) : FnSpec Tryz.prog 41 [PV.rr n a d] (· = PV.poly (pconst (rv n a d))) := by
  have hr := hp.rs
  refine fn_of_vc mixed Tryz.func41 rfl c41_ok (by simp [c41]) fun C hP => ?_; simp only [c41]
  simp +decide (disch := first | omega | rfl | (simp +decide only [go_sem, ↓reduceIte] <;> rfl) | fail) only [go_sem, ↓reduceIte, mk_empty, sl_3n, app_nil_map, mk_i64, max_nat]
  refine call_eq0 hP (q_Of_spec (x := 0) (by omega) (by omega)) rfl rfl rfl ?_
  simp +decide (disch := first | omega | rfl | (simp +decide only [go_sem, ↓reduceIte] <;> rfl) | fail) only [go_sem, ↓reduceIte, mk_empty, sl_3n, app_nil_map, mk_i64, max_nat]
  refine call_eq0 hP (q_Add0_raw hp hk) rfl rfl rfl ?_
  simp +decide (disch := first | omega | rfl | (simp +decide only [go_sem, ↓reduceIte] <;> rfl) | fail) only [go_sem, ↓reduceIte, mk_empty, sl_3n, app_nil_map, mk_i64, max_nat]
  refine call_eq0 hP ((p_single_spec (c := rv n a d) (m := []) (by omega)).le (args' := [PV.rat (rv n a d), .nilS]) ⟨le_refl _, trivial, trivial⟩) rfl rfl rfl ?_
  simp +decide (disch := first | omega | rfl | (simp +decide only [go_sem, ↓reduceIte] <;> rfl) | fail) only [go_sem, ↓reduceIte, mk_empty, sl_3n, app_nil_map, mk_i64, max_nat]
  exact retV_eq rfl rfl
theorem p_Var_spec {v : Int} (h1 : -9223372036854775808 ≤ v) (h2 : v < 9223372036854775807) : FnSpec Tryz.prog 40 [.int .i64 v] (· = PV.poly (pvar v)) := by
  refine fn_of_vc mixed Tryz.func40 rfl c40_ok (by simp [c40]) fun C hP => ?_; simp only [c40]
  simp +decide (disch := first | omega | rfl | (simp +decide only [go_sem, ↓reduceIte] <;> rfl) | fail) only [go_sem, ↓reduceIte, mk_empty, sl_3n, app_nil_map, mk_i64, max_nat]
  refine guard_splitF (fun h => ?_) (fun h => ?_)
  · simp +decide (disch := first | omega | rfl | (simp +decide only [go_sem, ↓reduceIte] <;> rfl) | fail) only [go_sem, ↓reduceIte, mk_empty, sl_3n, app_nil_map, mk_i64, max_nat]
    exact retV_le (poly_nil' (by rw [pvar, if_pos (.inl h)])) rfl
  obtain ⟨n, rfl⟩ : ∃ n : Nat, v = n := ⟨v.toNat, by omega⟩
  simp +decide (disch := first | omega | rfl | (simp +decide only [go_sem, ↓reduceIte] <;> rfl) | fail) only [go_sem, ↓reduceIte, mk_empty, sl_3n, app_nil_map, mk_i64, max_nat]
  refine cond_split (fun h => ?_) (fun h => ?_)
  · simp +decide (disch := first | omega | rfl | (simp +decide only [go_sem, ↓reduceIte] <;> rfl) | fail) only [go_sem, ↓reduceIte, mk_empty, sl_3n, app_nil_map, mk_i64, max_nat]
    exact retV_le (poly_nil' (by rw [pvar, if_pos (.inr h)])) rfl
  have hset : (List.replicate (n + 1) (0 : Int)).set n 1 = varM n := by
    rw [List.replicate_succ', varM, List.set_append_right _ _ (by simp)]; simp
  have hl : n < (List.replicate (n + 1) (0 : Int)).length := by simp
  have hr := rs_1
  simp +decide (disch := first | omega | rfl | (simp +decide only [go_sem, ↓reduceIte, hset] <;> rfl) | fail) only [go_sem, ↓reduceIte, mk_empty, sl_3n, app_nil_map, mk_i64, max_nat, hset]
  refine call_eq0 hP (q_Of_spec (x := 1) (by omega) (by omega)) rfl rfl rfl ?_
  simp +decide (disch := first | omega | rfl | (simp +decide only [go_sem, ↓reduceIte] <;> rfl) | fail) only [go_sem, ↓reduceIte, mk_empty, sl_3n, app_nil_map, mk_i64, max_nat]
  refine call_eq hP (p_single_spec (c := ((1 : Int) : Rat)) (m := varM n) (by have : ((1 : Int) : Rat) = 1 := rfl; rw [this]; omega)) (by simp +decide (disch := first | omega | rfl | (simp +decide only [go_sem, ↓reduceIte, looks3, List.contains_cons, List.contains_nil, List.flatMap_cons, List.flatMap_nil, List.append_nil] <;> rfl) | fail) only [go_sem, ↓reduceIte, mk_empty, sl_3n, app_nil_map, mk_i64, max_nat, looks3, List.contains_cons, List.contains_nil, List.flatMap_cons, List.flatMap_nil, List.append_nil]; simp [varM, List.take_of_length_le]) rfl ?_
  simp +decide (disch := first | omega | rfl | (simp +decide only [go_sem, ↓reduceIte] <;> rfl) | fail) only [go_sem, ↓reduceIte, mk_empty, sl_3n, app_nil_map, mk_i64, max_nat]
  refine retV_eq ?_ rfl
  rw [pvar, if_neg (show ¬ ((n : Int) < 0 ∨ 64 ≤ (n : Int)) by omega), Int.toNat_natCast]
  rfl
end Go.Proofs.YtjkbalanglgoiaaGreat
namespace Go.FW
open Go
def pev (φ : List Int → Rat) : List Tm → Rat
  | [] => 0
  | t :: p => t.1 * φ t.2 + pev φ p
theorem pev_nil (φ : List Int → Rat) : pev φ [] = 0 := rfl
theorem pev_cons (φ : List Int → Rat) (t : Tm) (p : List Tm) : pev φ (t :: p) = t.1 * φ t.2 + pev φ p := rfl
theorem pev_append (φ : List Int → Rat) : ∀ (p q : List Tm), pev φ (p ++ q) = pev φ p + pev φ q
  | [], q => by rw [List.nil_append, pev_nil]; grind
  | t :: p, q => by rw [List.cons_append, pev_cons, pev_cons, pev_append φ p q]; grind
theorem pev_congr {φ ψ : List Int → Rat} : ∀ {p : List Tm}, (∀ t ∈ p, φ t.2 = ψ t.2) → pev φ p = pev ψ p
  | [], _ => rfl
  | t :: p, h => by
    rw [pev_cons, pev_cons, h t (by simp), pev_congr (p := p) (fun x hx => h x (by simp [hx]))]
theorem pev_add (φ ψ : List Int → Rat) : ∀ (p : List Tm), pev (fun m => φ m + ψ m) p = pev φ p + pev ψ p
  | [] => by simp only [pev_nil]; grind
  | t :: p => by simp only [pev_cons]; rw [pev_add φ ψ p]; grind
theorem pev_smul (c : Rat) (φ : List Int → Rat) : ∀ (p : List Tm), pev (fun m => c * φ m) p = c * pev φ p
  | [] => by simp only [pev_nil]; grind
  | t :: p => by simp only [pev_cons]; rw [pev_smul c φ p]; grind
theorem pev_zero : ∀ (p : List Tm), pev (fun _ => 0) p = 0
  | [] => rfl
  | t :: p => by simp only [pev_cons]; rw [pev_zero p]; grind
theorem pev_swap (ψ : List Int → List Int → Rat) (q : List Tm) : ∀ (p : List Tm), pev (fun m => pev (fun n => ψ m n) q) p = pev (fun n => pev (fun m => ψ m n) p) q
  | [] => by simp only [pev_nil]; rw [pev_zero]
  | t :: p => by
    simp only [pev_cons]
    rw [pev_swap ψ q p, pev_add (fun n => t.1 * ψ t.2 n), pev_smul]
def Can (p : List Tm) : Prop := ∀ t ∈ p, t.2.getLast? ≠ some 0
def NZ (p : List Tm) : Prop := ∀ t ∈ p, t.1 ≠ 0
structure Nrm (p : List Tm) : Prop where
  c : Can p
  z : NZ p
  s : PSorted p
theorem Can.cons {t : Tm} {p : List Tm} : Can (t :: p) ↔ t.2.getLast? ≠ some 0 ∧ Can p := by simp [Can]
theorem NZ.cons {t : Tm} {p : List Tm} : NZ (t :: p) ↔ t.1 ≠ 0 ∧ NZ p := by simp [NZ]
theorem Nrm.nil : Nrm [] := ⟨by simp [Can], by simp [NZ], trivial⟩
theorem Nrm.tail {t : Tm} {p : List Tm} (h : Nrm (t :: p)) : Nrm p := ⟨(Can.cons.1 h.c).2, (NZ.cons.1 h.z).2, h.s.2⟩
theorem Nrm.one {t : Tm} (h : t.1 ≠ 0) (hm : t.2.getLast? ≠ some 0) : Nrm [t] := ⟨by simpa [Can] using hm, by simpa [NZ] using h, ⟨by simp, trivial⟩⟩
theorem PVd.nrm {p : List Tm} (h : PVd p) : Nrm p := ⟨fun t ht => monoOk_last (h.t t ht).m, fun t ht => (h.t t ht).c, h.s⟩
theorem monoOk_of {E : Nat} {a : List Int} (h : MB E a) (hE : E ≤ 1048576) (hl : a.getLast? ≠ some 0) : monoOk a = true := by
  simp only [monoOk, Bool.and_eq_true, decide_eq_true_eq, List.all_eq_true]
  exact ⟨h.len, hl, fun x hx => ⟨h.lo x hx, by have := h.hi x hx; omega⟩⟩
theorem pev_padd {φ : List Int → Rat} : ∀ {p q : List Tm}, Can p → Can q → pev φ (padd p q) = pev φ p + pev φ q := by
  intro p q
  induction p, q using padd.induct with
  | case1 q => rw [padd, pev_nil]; intros; grind
  | case2 p h => rw [padd_nil, pev_nil]; intros; grind
  | case3 c m p d l q h ih =>
    intro hp hq
    rw [padd, if_pos h, pev_cons, pev_cons, ih (Can.cons.1 hp).2 hq]; grind
  | case4 c m p d l q h1 h2 ih =>
    intro hp hq
    rw [padd, if_neg h1, if_pos h2, pev_cons, ih hp (Can.cons.1 hq).2, pev_cons φ (d, l)]; grind
  | case5 c m p d l q h1 h2 h3 ih =>
    intro hp hq
    have e := cmpM_eq_of h1 h2 (Can.cons.1 hp).1 (Can.cons.1 hq).1
    rw [padd, if_neg h1, if_neg h2, if_pos h3, ih (Can.cons.1 hp).2 (Can.cons.1 hq).2, pev_cons, pev_cons]
    subst e
    have : c * φ m + d * φ m = 0 := by rw [← Rat.add_mul, h3]; grind
    grind
  | case6 c m p d l q h1 h2 h3 ih =>
    intro hp hq
    have e := cmpM_eq_of h1 h2 (Can.cons.1 hp).1 (Can.cons.1 hq).1
    rw [padd, if_neg h1, if_neg h2, if_neg h3, pev_cons, ih (Can.cons.1 hp).2 (Can.cons.1 hq).2, pev_cons, pev_cons]
    subst e
    grind
theorem mem_padd : ∀ {p q : List Tm} {t : Tm}, t ∈ padd p q → (∃ s ∈ p, s.2 = t.2) ∨ (∃ s ∈ q, s.2 = t.2) := by
  intro p q
  induction p, q using padd.induct with
  | case1 q => rw [padd]; intro t ht; exact Or.inr ⟨t, ht, rfl⟩
  | case2 p h => rw [padd_nil]; intro t ht; exact Or.inl ⟨t, ht, rfl⟩
  | case3 c m p d l q h ih =>
    intro t ht
    rw [padd, if_pos h] at ht
    rcases List.mem_cons.1 ht with rfl | ht
    · exact Or.inl ⟨_, by simp, rfl⟩
    · rcases ih ht with ⟨s, h1, h2⟩ | h1
      · exact Or.inl ⟨s, by simp [h1], h2⟩
      · exact Or.inr h1
  | case4 c m p d l q h1 h2 ih =>
    intro t ht
    rw [padd, if_neg h1, if_pos h2] at ht
    rcases List.mem_cons.1 ht with rfl | ht
    · exact Or.inr ⟨_, by simp, rfl⟩
    · rcases ih ht with h3 | ⟨s, h3, h4⟩
      · exact Or.inl h3
      · exact Or.inr ⟨s, by simp [h3], h4⟩
  | case5 c m p d l q h1 h2 h3 ih =>
    intro t ht
    rw [padd, if_neg h1, if_neg h2, if_pos h3] at ht
    rcases ih ht with ⟨s, h4, h5⟩ | ⟨s, h4, h5⟩
    · exact Or.inl ⟨s, by simp [h4], h5⟩
    · exact Or.inr ⟨s, by simp [h4], h5⟩
  | case6 c m p d l q h1 h2 h3 ih =>
    intro t ht
    rw [padd, if_neg h1, if_neg h2, if_neg h3] at ht
    rcases List.mem_cons.1 ht with rfl | ht
    · exact Or.inl ⟨(c, m), by simp, rfl⟩
    · rcases ih ht with ⟨s, h4, h5⟩ | ⟨s, h4, h5⟩
      · exact Or.inl ⟨s, by simp [h4], h5⟩
      · exact Or.inr ⟨s, by simp [h4], h5⟩
theorem padd_can {p q : List Tm} (hp : Can p) (hq : Can q) : Can (padd p q) := fun t ht => by
  rcases mem_padd ht with ⟨s, h1, h2⟩ | ⟨s, h1, h2⟩
  · rw [← h2]; exact hp s h1
  · rw [← h2]; exact hq s h1
theorem padd_nz : ∀ {p q : List Tm}, NZ p → NZ q → NZ (padd p q) := by
  intro p q
  induction p, q using padd.induct with
  | case1 q => rw [padd]; exact fun _ h => h
  | case2 p h => rw [padd_nil]; exact fun h _ => h
  | case3 c m p d l q h ih =>
    intro hp hq
    rw [padd, if_pos h, NZ.cons]
    exact ⟨(NZ.cons.1 hp).1, ih (NZ.cons.1 hp).2 hq⟩
  | case4 c m p d l q h1 h2 ih =>
    intro hp hq
    rw [padd, if_neg h1, if_pos h2, NZ.cons]
    exact ⟨(NZ.cons.1 hq).1, ih hp (NZ.cons.1 hq).2⟩
  | case5 c m p d l q h1 h2 h3 ih =>
    intro hp hq
    rw [padd, if_neg h1, if_neg h2, if_pos h3]
    exact ih (NZ.cons.1 hp).2 (NZ.cons.1 hq).2
  | case6 c m p d l q h1 h2 h3 ih =>
    intro hp hq
    rw [padd, if_neg h1, if_neg h2, if_neg h3, NZ.cons]
    exact ⟨h3, ih (NZ.cons.1 hp).2 (NZ.cons.1 hq).2⟩
theorem cmpM_eq_gt {a b c : List Int} (h : cmpM a b = 0) (h2 : 0 < cmpM b c) : 0 < cmpM a c := by
  have e : ∀ i, eN a i = eN b i := by
    intro i
    have := (cmpN_zero a b _).1 h
    by_cases hi : i < max a.length b.length
    · exact this i hi
    · rw [eN_ge (by omega), eN_ge (by omega)]
  rw [cmpM_congr e (fun _ => rfl)]; exact h2
theorem padd_sorted : ∀ {p q : List Tm}, PSorted p → PSorted q → PSorted (padd p q) := by
  intro p q
  induction p, q using padd.induct with
  | case1 q => rw [padd]; exact fun _ h => h
  | case2 p h => rw [padd_nil]; exact fun h _ => h
  | case3 c m p d l q h ih =>
    intro hp hq
    rw [padd, if_pos h]
    refine ⟨fun t ht => ?_, ih hp.2 hq⟩
    rcases mem_padd ht with ⟨s, h1, h2⟩ | ⟨s, h1, h2⟩
    · rw [← h2]; exact hp.1 s h1
    · rw [← h2]
      rcases List.mem_cons.1 h1 with rfl | h1
      · exact h
      · exact cmpM_gt_trans h (hq.1 s h1)
  | case4 c m p d l q h1 h2 ih =>
    intro hp hq
    rw [padd, if_neg h1, if_pos h2]
    have h2' : 0 < cmpM l m := by have := cmpM_neg m l; omega
    refine ⟨fun t ht => ?_, ih hp hq.2⟩
    rcases mem_padd ht with ⟨s, h3, h4⟩ | ⟨s, h3, h4⟩
    · rw [← h4]
      rcases List.mem_cons.1 h3 with rfl | h3
      · exact h2'
      · exact cmpM_gt_trans h2' (hp.1 s h3)
    · rw [← h4]; exact hq.1 s h3
  | case5 c m p d l q h1 h2 h3 ih =>
    intro hp hq
    rw [padd, if_neg h1, if_neg h2, if_pos h3]
    exact ih hp.2 hq.2
  | case6 c m p d l q h1 h2 h3 ih =>
    intro hp hq
    rw [padd, if_neg h1, if_neg h2, if_neg h3]
    refine ⟨fun t ht => ?_, ih hp.2 hq.2⟩
    rcases mem_padd ht with ⟨s, h4, h5⟩ | ⟨s, h4, h5⟩
    · rw [← h5]; exact hp.1 s h4
    · rw [← h5]; exact cmpM_eq_gt (b := l) (by show cmpM m l = 0; omega) (hq.1 s h4)
theorem padd_nrm {p q : List Tm} (hp : Nrm p) (hq : Nrm q) : Nrm (padd p q) := ⟨padd_can hp.c hq.c, padd_nz hp.z hq.z, padd_sorted hp.s hq.s⟩
def ind (m : List Int) : List Int → Rat := fun n => if n = m then 1 else 0
theorem ev_ind_none {m : List Int} : ∀ {p : List Tm}, (∀ t ∈ p, t.2 ≠ m) → pev (ind m) p = 0
  | [], _ => rfl
  | t :: p, h => by
    rw [pev_cons, ev_ind_none (p := p) (fun x hx => h x (by simp [hx])), ind, if_neg (h t (by simp))]; grind
theorem gt_ne {a b : List Int} (h : 0 < cmpM a b) : b ≠ a := by rintro rfl; rw [cmpM_self] at h; omega
theorem ev_ind_head {t : Tm} {p : List Tm} (h : PSorted (t :: p)) : pev (ind t.2) (t :: p) = t.1 := by
  rw [pev_cons, ev_ind_none (fun s hs => gt_ne (h.1 s hs)), ind, if_pos rfl]; grind
theorem pev_inj : ∀ {p q : List Tm}, Nrm p → Nrm q → (∀ φ, pev φ p = pev φ q) → p = q
  | [], [], _, _, _ => rfl
  | [], t :: q, _, hq, h => by
    have := h (ind t.2)
    rw [ev_ind_head hq.s, pev_nil] at this
    exact absurd this.symm (hq.z t (by simp))
  | t :: p, [], hp, _, h => by
    have := h (ind t.2)
    rw [ev_ind_head hp.s, pev_nil] at this
    exact absurd this (hp.z t (by simp))
  | s :: p, t :: q, hp, hq, h => by
    by_cases h1 : 0 < cmpM s.2 t.2
    · have := h (ind s.2)
      rw [ev_ind_head hp.s, ev_ind_none (fun x hx => ?_)] at this
      · exact absurd this (hp.z s (by simp))
      · rcases List.mem_cons.1 hx with rfl | hx
        · exact gt_ne h1
        · exact gt_ne (cmpM_gt_trans h1 (hq.s.1 x hx))
    · by_cases h2 : cmpM s.2 t.2 < 0
      · have h2' : 0 < cmpM t.2 s.2 := by have := cmpM_neg s.2 t.2; omega
        have := h (ind t.2)
        rw [ev_ind_head hq.s, ev_ind_none (fun x hx => ?_)] at this
        · exact absurd this.symm (hq.z t (by simp))
        · rcases List.mem_cons.1 hx with rfl | hx
          · exact gt_ne h2'
          · exact gt_ne (cmpM_gt_trans h2' (hp.s.1 x hx))
      · have e := cmpM_eq_of h1 h2 (hp.c s (by simp)) (hq.c t (by simp))
        have e2 := h (ind s.2)
        rw [ev_ind_head hp.s, e, ev_ind_head hq.s] at e2
        have e3 : s = t := Prod.ext e2 e
        subst e3
        rw [pev_inj hp.tail hq.tail (fun φ => by have := h φ; rw [pev_cons, pev_cons] at this; grind)]
theorem psum_spec {φ : List Int → Rat} : ∀ (n : Nat) (l : List (List Tm)), l.length ≤ n → (∀ p ∈ l, Can p) → Can (psum l) ∧ pev φ (psum l) = (l.map (pev φ)).sum := by
  intro n
  induction n with
  | zero =>
    intro l hl _
    have : l = [] := List.length_eq_zero_iff.1 (by omega)
    subst this
    rw [psum]; exact ⟨Nrm.nil.c, rfl⟩
  | succ n ih =>
    intro l hl h
    match l, h with
    | [], _ => rw [psum]; exact ⟨Nrm.nil.c, rfl⟩
    | [p], h => rw [psum]; exact ⟨h p (by simp), by simp; grind⟩
    | p :: q :: r, h =>
      rw [psum_many (by simp)]
      generalize hL : p :: q :: r = L at *
      have hlen : 2 ≤ L.length := by rw [← hL]; simp
      obtain ⟨a1, a2⟩ := ih (L.take (L.length / 2)) (by rw [List.length_take]; omega) (fun x hx => h x (List.mem_of_mem_take hx))
      obtain ⟨b1, b2⟩ := ih (L.drop (L.length / 2)) (by rw [List.length_drop]; omega) (fun x hx => h x (List.mem_of_mem_drop hx))
      refine ⟨padd_can a1 b1, ?_⟩
      rw [pev_padd a1 b1, a2, b2, ← List.sum_append, ← List.map_append, List.take_append_drop]
theorem psum_nrm : ∀ (n : Nat) (l : List (List Tm)), l.length ≤ n → (∀ p ∈ l, Nrm p) → Nrm (psum l) := by
  intro n
  induction n with
  | zero =>
    intro l hl _
    have : l = [] := List.length_eq_zero_iff.1 (by omega)
    subst this
    rw [psum]; exact Nrm.nil
  | succ n ih =>
    intro l hl h
    match l, h with
    | [], _ => rw [psum]; exact Nrm.nil
    | [p], h => rw [psum]; exact h p (by simp)
    | p :: q :: r, h =>
      rw [psum_many (by simp)]
      generalize hL : p :: q :: r = L at *
      have hlen : 2 ≤ L.length := by rw [← hL]; simp
      exact padd_nrm (ih (L.take (L.length / 2)) (by rw [List.length_take]; omega) (fun x hx => h x (List.mem_of_mem_take hx)))
        (ih (L.drop (L.length / 2)) (by rw [List.length_drop]; omega) (fun x hx => h x (List.mem_of_mem_drop hx)))
theorem pev_ptimes (φ : List Int → Rat) (t : Tm) : ∀ (p : List Tm), pev φ (ptimes p t) = t.1 * pev (fun m => φ (mulM m t.2)) p
  | [] => by rw [ptimes, List.filterMap_nil, pev_nil, pev_nil]; grind
  | s :: p => by
    have ih := pev_ptimes φ t p
    rw [ptimes] at ih ⊢
    rw [List.filterMap_cons]
    by_cases h : s.1 * t.1 = 0
    · simp only [h, if_true, pev_cons]
      rw [ih]
      have : t.1 * (s.1 * φ (mulM s.2 t.2)) = (s.1 * t.1) * φ (mulM s.2 t.2) := by grind
      rw [Rat.mul_add, this, h]; grind
    · simp only [h, if_false, pev_cons]
      rw [ih]; grind
theorem ptimes_can (p : List Tm) (t : Tm) : Can (ptimes p t) := by
  intro x hx
  simp only [ptimes, List.mem_filterMap] at hx
  obtain ⟨y, hy, h⟩ := hx
  split at h
  · cases h
  · cases h; exact mulM_last _ _
theorem ptimes_nz (p : List Tm) (t : Tm) : NZ (ptimes p t) := by
  intro x hx
  simp only [ptimes, List.mem_filterMap] at hx
  obtain ⟨y, hy, h⟩ := hx
  split at h
  · cases h
  · rename_i h0; cases h; exact h0
theorem ptimes_sorted (t : Tm) : ∀ (p : List Tm), PSorted p → PSorted (ptimes p t)
  | [], _ => trivial
  | s :: p, hp => by
    have ih := ptimes_sorted t p hp.2
    rw [ptimes] at ih ⊢
    rw [List.filterMap_cons]
    split
    · exact ih
    · rename_i b hb
      split at hb
      · cases hb
      · cases hb
        refine ⟨fun x hx => ?_, ih⟩
        simp only [List.mem_filterMap] at hx
        obtain ⟨y, hy, h⟩ := hx
        split at h
        · cases h
        · cases h
          simp only [cmpM_mul]
          exact hp.1 y hy
theorem ptimes_nrm {p : List Tm} (t : Tm) (hp : PSorted p) : Nrm (ptimes p t) := ⟨ptimes_can _ _, ptimes_nz _ _, ptimes_sorted t p hp⟩
theorem sum_ptimes (φ : List Int → Rat) (q : List Tm) : ∀ (p : List Tm), ((p.map (ptimes q)).map (pev φ)).sum = pev (fun m => pev (fun n => φ (mulM m n)) q) p
  | [] => rfl
  | t :: p => by
    rw [List.map_cons, List.map_cons, List.sum_cons, sum_ptimes φ q p, pev_ptimes, pev_cons]
    congr 2
    exact pev_congr fun s _ => by rw [mulM_comm]
theorem pmul0_pev (φ : List Int → Rat) (p q : List Tm) : pev φ (pmul0 p q) = pev (fun m => pev (fun n => φ (mulM m n)) q) p := by
  rw [pmul0, (psum_spec (φ := φ) _ _ (Nat.le_refl _) ?_).2, sum_ptimes]
  intro x hx
  obtain ⟨t, _, rfl⟩ := List.mem_map.1 hx
  exact ptimes_can _ _
theorem pmul_pev (φ : List Int → Rat) (p q : List Tm) : pev φ (pmul p q) = pev (fun m => pev (fun n => φ (mulM m n)) q) p := by
  unfold pmul
  split
  · rw [pmul0_pev, pev_swap (fun m n => φ (mulM m n))]
    exact pev_congr fun s _ => pev_congr fun t _ => by rw [mulM_comm]
  · exact pmul0_pev φ p q
theorem pmul0_nrm {p q : List Tm} (hq : PSorted q) : Nrm (pmul0 p q) := psum_nrm _ _ (Nat.le_refl _) fun x hx => by
  obtain ⟨t, _, rfl⟩ := List.mem_map.1 hx
  exact ptimes_nrm t hq
theorem pmul_nrm {p q : List Tm} (hp : PSorted p) (hq : PSorted q) : Nrm (pmul p q) := by
  unfold pmul
  split
  · exact pmul0_nrm hp
  · exact pmul0_nrm hq
theorem pscale_pev (φ : List Int → Rat) {p : List Tm} (hp : Can p) (a : Rat) : pev φ (pscale p a) = a * pev φ p := by
  unfold pscale
  split
  · rename_i h; rw [h, pev_nil]; grind
  · rw [pev_ptimes]
    congr 1
    exact pev_congr fun s hs => by rw [mulM_nil (hp s hs)]
theorem pscale_nrm {p : List Tm} (hp : PSorted p) (a : Rat) : Nrm (pscale p a) := by
  unfold pscale
  split
  · exact Nrm.nil
  · exact ptimes_nrm _ hp
theorem pneg_pev (φ : List Int → Rat) {p : List Tm} (hp : Can p) : pev φ (pneg p) = - pev φ p := by
  rw [pneg, pscale_pev φ hp]; grind
theorem psub_pev (φ : List Int → Rat) {p q : List Tm} (hp : Can p) (hq : Nrm q) : pev φ (psub p q) = pev φ p - pev φ q := by
  rw [psub, pev_padd hp (show Can (pneg q) from (pscale_nrm hq.s _).c), pneg_pev φ hq.c]; grind
theorem psub_nrm {p q : List Tm} (hp : Nrm p) (hq : Nrm q) : Nrm (psub p q) := padd_nrm hp (pscale_nrm hq.s _)
def pmulR (p q : List Tm) : List Tm := q.foldl (fun out t => padd out (ptimes p t)) []
theorem pmulR_aux (p : List Tm) (hp : Nrm p) : ∀ (q out : List Tm), Nrm out → Nrm (q.foldl (fun out t => padd out (ptimes p t)) out) ∧
    ∀ φ, pev φ (q.foldl (fun out t => padd out (ptimes p t)) out) = pev φ out + pev (fun m => pev (fun n => φ (mulM n m)) p) q
  | [], out, h => ⟨h, fun φ => by rw [List.foldl_nil, pev_nil]; grind⟩
  | t :: q, out, h => by
    obtain ⟨h1, h2⟩ := pmulR_aux p hp q (padd out (ptimes p t)) (padd_nrm h (ptimes_nrm t hp.s))
    refine ⟨h1, fun φ => ?_⟩
    rw [List.foldl_cons, h2, pev_padd h.c (ptimes_can _ _), pev_ptimes, pev_cons]; grind
theorem pmulR_eq {p q : List Tm} (hp : Nrm p) (hq : Nrm q) : pmulR p q = pmul p q := by
  obtain ⟨h1, h2⟩ := pmulR_aux p hp q [] Nrm.nil
  refine pev_inj h1 (pmul_nrm hp.s hq.s) fun φ => ?_
  rw [pmulR, h2, pmul_pev, pev_nil, pev_swap (fun m n => φ (mulM m n))]
  grind
end Go.FW
namespace Go.FW
open Go
variable {C : Ctx} {fr : Fr} {hp : HP} {w : World} {K R : Kont}
theorem app_nil_nil {e by_ ty d : Nat} (h0 : 0 < e) : appK e by_ ty .nilS (.sl e []) d fr hp K = K (upd (killF d fr) d (.ms d 0)) (updH hp d ⟨e, ty, [], false⟩) := by
  have := app_nil_eq (fr := fr) (hp := hp) (K := K) (e := e) (by_ := by_) (ty := ty) (d := d) (x := .sl e []) (ys := []) rfl h0 (by simp) (by simp)
  simpa using this
end Go.FW
namespace Go.FW
open Go
theorem padd_gt {m : List Int} {c : Rat} : ∀ {u v : List Tm}, (∀ t ∈ u, 0 < cmpM t.2 m) → (∀ t ∈ v, cmpM t.2 m < 0) → padd (u ++ v) [(c, m)] = u ++ (c, m) :: v
  | [], [], _, _ => by rw [List.nil_append, nil_padd]; rfl
  | [], t :: v, _, hv => by
    have h1 := hv t (by simp)
    rw [List.nil_append, padd_cons, if_neg (by show ¬ 0 < cmpM t.2 m; omega), if_pos (by exact h1), padd_nil]; rfl
  | t :: u, v, hu, hv => by
    rw [List.cons_append, padd_cons, if_pos (by exact hu t (by simp)), padd_gt (fun s hs => hu s (by simp [hs])) hv]; rfl
theorem padd_at {m : List Int} {c d : Rat} : ∀ {u v : List Tm}, (∀ t ∈ u, 0 < cmpM t.2 m) → padd (u ++ (d, m) :: v) [(c, m)] = u ++ (if d + c = 0 then [] else [(d + c, m)]) ++ v
  | [], v, _ => by
    have h0 := cmpM_self m
    rw [List.nil_append, padd_cons, if_neg (by show ¬ 0 < cmpM m m; omega), if_neg (by show ¬ cmpM m m < 0; omega)]
    show (if d + c = 0 then padd v [] else (d + c, m) :: padd v []) = _
    rw [padd_nil]
    split <;> rfl
  | t :: u, v, hu => by
    rw [List.cons_append, padd_cons, if_pos (by exact hu t (by simp)), padd_at (fun s hs => hu s (by simp [hs]))]; simp
def paddT (p : List Tm) (c : Rat) (m : List Int) : List Tm := padd p (if c = 0 then [] else [(c, m)])
theorem psorted_take {p : List Tm} (hs : PSorted p) : ∀ {i : Nat} (h : i < p.length), ∀ t ∈ p.take i, 0 < cmpM t.2 p[i].2 := by
  induction p with
  | nil => intro i h; simp at h
  | cons s p ih =>
    intro i h t ht
    cases i with
    | zero => simp at ht
    | succ i =>
      simp only [List.take_succ_cons, List.mem_cons] at ht
      have hi : i < p.length := by simpa using h
      show 0 < cmpM t.2 p[i].2
      rcases ht with rfl | ht
      · exact hs.1 _ (List.getElem_mem hi)
      · exact ih hs.2 hi t ht
theorem tm_nrm {c : Rat} {m : List Int} (hl : m.getLast? ≠ some 0) : Nrm (if c = 0 then [] else [(c, m)]) := by
  split
  · exact Nrm.nil
  · rename_i h; exact Nrm.one h hl
theorem paddT_nrm {p : List Tm} {c : Rat} {m : List Int} (hp : Nrm p) (hl : m.getLast? ≠ some 0) : Nrm (paddT p c m) := padd_nrm hp (tm_nrm hl)
theorem paddT_pev {φ : List Int → Rat} {p : List Tm} {c : Rat} {m : List Int} (hp : Can p) (hl : m.getLast? ≠ some 0) : pev φ (paddT p c m) = pev φ p + c * φ m := by
  rw [paddT, pev_padd hp (tm_nrm hl).c]
  split
  · rename_i h; rw [h, pev_nil]; grind
  · rw [pev_cons, pev_nil]; grind
end Go.FW
