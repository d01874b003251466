/- Part 7 of the proof of PseudoJoins: W2, W3, CS, S1, S2, S3, S4, S5, S6, S7, S8, S9, T1, T1b, T1c, T1d, U1, U2, P4. Own lemmas; no conditions. -/
import Derived.Test.YtjkbalanglgoiaaGreatPseudoJoinsPart6
set_option linter.unusedSimpArgs false
set_option linter.unnecessarySimpa false
set_option linter.unusedVariables false
namespace Go.Proofs.YtjkbalanglgoiaaGreat
open Go Go.FW
set_option linter.unusedSimpArgs false
set_option linter.unusedVariables false
set_option maxRecDepth 100000
theorem xpow_set (v : Nat) (n : Int) (h : n = ((n.toNat : Nat) : Int)) : (List.replicate (v + 1) (0 : Int)).set v n = xpow v n.toNat := by
  unfold xpow
  rw [← h]
  induction v with
  | zero => rfl
  | succ v ih => rw [List.replicate_succ, List.set_cons_succ, ih]; rfl
theorem ps_raised_spec {p : List Tm} {v n K E : Nat} (hp : PB K E p) (hv : v < 64) (hn : n ≤ E) (hK2 : 2 ≤ K) (hE : E ≤ 2 ^ 37) (hlp : p.length ≤ 2 ^ 30) (hK : K ≤ 2 ^ 32) :
    FnSpec Tryz.prog 71 [PV.poly p, .int .i64 v, .int .i64 n] (· = PV.poly (praise p v n)) := by
  have hlr : v < (List.replicate (v + 1) (0 : Int)).length := by simp
  have hone := rs_1
  have hpm : praise p v n = if n = 0 then p else pmul p [(1, xpow v n)] := rfl
  refine fn_of_vc mixed Tryz.func71 rfl c71_ok (by simp [c71]) fun C hP => ?_; simp only [c71]
  simp +decide (disch := first | omega | rfl | (simp +decide only [go_sem, ↓reduceIte] <;> rfl) | fail) only [go_sem, ↓reduceIte, mk_empty, sl_3n, app_nil_map, mk_i64, max_nat]
  refine guard_splitF (fun h1 => by omega) (fun _ => ?_)
  simp +decide (disch := first | omega | rfl | (simp +decide only [go_sem, ↓reduceIte] <;> rfl) | fail) only [go_sem, ↓reduceIte, mk_empty, sl_3n, app_nil_map, mk_i64, max_nat]
  refine guard_splitF (fun h1 => by omega) (fun _ => ?_)
  simp +decide (disch := first | omega | rfl | (simp +decide only [go_sem, ↓reduceIte] <;> rfl) | fail) only [go_sem, ↓reduceIte, mk_empty, sl_3n, app_nil_map, mk_i64, max_nat]
  refine cond_split (fun h0 => ?_) (fun h0 => ?_)
  · obtain rfl : n = 0 := by omega
    simp +decide (disch := first | omega | rfl | (simp +decide only [go_sem, ↓reduceIte] <;> rfl) | fail) only [go_sem, ↓reduceIte, mk_empty, sl_3n, app_nil_map, mk_i64, max_nat]
    exact retV_eq rfl rfl
  simp +decide (disch := first | omega | rfl | (simp +decide only [go_sem, ↓reduceIte] <;> rfl) | fail) only [go_sem, ↓reduceIte, mk_empty, sl_3n, app_nil_map, mk_i64, max_nat]
  rw [xpow_set v n (by omega), Int.toNat_natCast]
  have hxl : (xpow v n).length = v + 1 := by simp [xpow]
  refine call_eq0 hP (q_Of_spec (by omega) (by omega)) rfl rfl rfl ?_
  generalize hc : ((1 : Int) : Rat) = c
  have hc1 : c = 1 := hc.symm
  simp +decide (disch := first | omega | rfl | (simp +decide only [go_sem, ↓reduceIte] <;> rfl) | fail) only [go_sem, ↓reduceIte, mk_empty, sl_3n, app_nil_map, mk_i64, max_nat]
  rw [bld2o (p := PV.rat c) (e := 1) (ty := 3) (fz := false) (xs := i64s (xpow v n)) rfl (by simp +decide (disch := first | omega | rfl | (simp +decide only [go_sem, ↓reduceIte] <;> rfl) | fail) only [go_sem, ↓reduceIte, mk_empty, sl_3n, app_nil_map, mk_i64, max_nat]) (by simp [hxl, i64s])]
  have hb1 : PB K E [(c, xpow v n)] := fun t ht => by
    obtain rfl : t = (c, xpow v n) := by simpa using ht
    exact ⟨by show rs c + 1 ≤ K; rw [hc1]; omega, (xpow_MB hv).mono hn, xpow_last (by omega)⟩
  have hm1 : min p.length [(c, xpow v n)].length * (K + K) ≤ 1 * (K + K) := Nat.mul_le_mul_right _ (by simp; omega)
  have hm2 : p.length * [(c, xpow v n)].length ≤ p.length := by simp
  rw [if_neg (by omega), ← hc1] at hpm
  simp +decide (disch := first | omega | rfl | (simp +decide only [go_sem, ↓reduceIte] <;> rfl) | fail) only [go_sem, ↓reduceIte, mk_empty, sl_3n, app_nil_map, mk_i64, max_nat]
  refine call_eq hP (p_Mul_spec hp hb1 hE hlp (by simp) (by omega) (by omega) (by omega)) (by simp +decide (disch := first | omega | rfl | (simp +decide only [go_sem, ↓reduceIte, looks3, List.contains_cons, List.contains_nil, List.flatMap_cons, List.flatMap_nil, List.append_nil] <;> rfl) | fail) only [go_sem, ↓reduceIte, mk_empty, sl_3n, app_nil_map, mk_i64, max_nat, looks3, List.contains_cons, List.contains_nil, List.flatMap_cons, List.flatMap_nil, List.append_nil] <;> rfl) rfl ?_
  simp +decide (disch := first | omega | rfl | (simp +decide only [go_sem, ↓reduceIte] <;> rfl) | fail) only [go_sem, ↓reduceIte, mk_empty, sl_3n, app_nil_map, mk_i64, max_nat]
  exact retV_eq (by rw [hpm]) rfl
theorem ps_Join_spec {l : List (List Tm)} {v K E L : Nat} (hl : ∀ c ∈ l, PB K E c ∧ c.length ≤ L) (hv : v < 64) (hll : l.length ≤ E) (hK2 : 2 ≤ K) (hE : E ≤ 2 ^ 30) (hK : l.length * (K + K) + (K + K) ≤ 2 ^ 30) (hL : l.length * L + L ≤ 2 ^ 30) :
    FnSpec Tryz.prog 18 [PV.polys l, .int .i64 v] (· = PV.poly (pjoinN l v l.length)) := by
  refine fn_of_vc mixed Tryz.func18 rfl c18_ok (by simp [c18]) fun C hP => ?_; simp only [c18]
  simp +decide (disch := first | omega | rfl | (simp +decide only [go_sem, ↓reduceIte] <;> rfl) | fail) only [go_sem, ↓reduceIte, mk_empty, sl_3n, app_nil_map, mk_i64, max_nat]
  refine vc_nilD 5 4 (by simp +decide (disch := first | omega | rfl | (simp +decide only [go_sem, ↓reduceIte] <;> rfl) | fail) only [go_sem, ↓reduceIte, mk_empty, sl_3n, app_nil_map, mk_i64, max_nat]) ?_
  refine vc_loopF (by repeat (first | exact okSk_ret | exact okSk_retM | exact okSk_retO | apply okSk_back | apply okSk_out | apply okSk_eb | apply okSk_c | apply okSk_o | apply okSk_again)) [(5, 7), (10, 24)] [] (fun m J hp => ∃ i, m = l.length - i ∧ i ≤ l.length ∧ J 5 = PV.poly (pjoinN l v i) ∧ J 10 = .int .i64 (i : Nat)) l.length ?_ ?_
  · refine ⟨0, rfl, by omega, ?_⟩
    simp +decide (disch := first | omega | rfl | (simp +decide only [go_sem, ↓reduceIte] <;> rfl) | fail) only [go_sem, ↓reduceIte, mk_empty, sl_3n, app_nil_map, mk_i64, max_nat]
    exact ⟨rfl, rfl⟩
  rintro _ J h ⟨i, rfl, hi, h5, h10⟩
  simp +decide (disch := first | omega | rfl | (simp +decide only [go_sem, ↓reduceIte, h5, h10] <;> rfl) | fail) only [go_sem, ↓reduceIte, mk_empty, sl_3n, app_nil_map, mk_i64, max_nat, h5, h10]
  refine cond_split (fun hg => ?_) (fun hg => ?_)
  · have hi' : i < l.length := by omega
    obtain ⟨hc1, hc2⟩ := hl _ (List.getElem_mem hi')
    have hst := pjoinN_succ (v := v) hi'
    obtain ⟨b1, b2⟩ := pjoin_bound hl hv (n := i) hi hll hK2
    generalize hx : l[i] = x at *
    obtain ⟨b3, b4⟩ := praise_bound hc1 hv (n := i) (by omega) hK2
    have m1 : i * (K + K) + (K + K) ≤ l.length * (K + K) + (K + K) := by have := Nat.mul_le_mul_right (K + K) hi; omega
    have m2 : i * L ≤ l.length * L := Nat.mul_le_mul_right _ hi
    simp +decide (disch := first | omega | rfl | (simp +decide only [go_sem, ↓reduceIte, h5, h10, hx] <;> rfl) | fail) only [go_sem, ↓reduceIte, mk_empty, sl_3n, app_nil_map, mk_i64, max_nat, h5, h10, hx]
    refine cond_split (fun hc => ?_) (fun hc => ?_)
    · simp +decide (disch := first | omega | rfl | (simp +decide only [go_sem, ↓reduceIte, h5, h10, hx] <;> rfl) | fail) only [go_sem, ↓reduceIte, mk_empty, sl_3n, app_nil_map, mk_i64, max_nat, h5, h10, hx]
      refine call_eq0 hP (ps_raised_spec hc1 hv (by omega) hK2 (by omega) (by omega) (by omega)) rfl rfl rfl ?_
      simp +decide (disch := first | omega | rfl | (simp +decide only [go_sem, ↓reduceIte, h5, h10, hx] <;> rfl) | fail) only [go_sem, ↓reduceIte, mk_empty, sl_3n, app_nil_map, mk_i64, max_nat, h5, h10, hx]
      refine call_eq0 hP (p_Add_spec (K := i * (K + K) + (K + K)) (E := E + E) (b1.mono (by omega) (Nat.le_refl _)) (b3.mono (by omega) (Nat.le_refl _)) (by omega) (by omega) (by omega) (by omega)) rfl rfl rfl ?_
      simp +decide (disch := first | omega | rfl | (simp +decide only [go_sem, ↓reduceIte, h5, h10, hx] <;> rfl) | fail) only [go_sem, ↓reduceIte, mk_empty, sl_3n, app_nil_map, mk_i64, max_nat, h5, h10, hx]
      refine back_ovr (l.length - (i + 1)) (by omega) ⟨i + 1, rfl, by omega, ?_⟩
      rw [hst]
      simp +decide (disch := first | omega | rfl | (simp +decide only [go_sem, ↓reduceIte] <;> rfl) | fail) only [go_sem, ↓reduceIte, mk_empty, sl_3n, app_nil_map, mk_i64, max_nat]
    · have : x = [] := List.length_eq_zero_iff.1 (by omega)
      subst this
      rw [show praise [] v i = [] from praise_nil v i, padd_nil] at hst
      simp +decide (disch := first | omega | rfl | (simp +decide only [go_sem, ↓reduceIte, h5, h10, hx] <;> rfl) | fail) only [go_sem, ↓reduceIte, mk_empty, sl_3n, app_nil_map, mk_i64, max_nat, h5, h10, hx]
      refine back_ovr (l.length - (i + 1)) (by omega) ⟨i + 1, rfl, by omega, ?_⟩
      rw [hst]
      simp +decide (disch := first | omega | rfl | (simp +decide only [go_sem, ↓reduceIte, h5] <;> rfl) | fail) only [go_sem, ↓reduceIte, mk_empty, sl_3n, app_nil_map, mk_i64, max_nat, h5]
  · obtain rfl : i = l.length := by omega
    simp +decide (disch := first | omega | rfl | (simp +decide only [go_sem, ↓reduceIte, h5] <;> rfl) | fail) only [go_sem, ↓reduceIte, mk_empty, sl_3n, app_nil_map, mk_i64, max_nat, h5]
    exact retV_eq rfl rfl
end Go.Proofs.YtjkbalanglgoiaaGreat
namespace Go.Proofs.YtjkbalanglgoiaaGreat
open Go Go.FW
set_option linter.unusedSimpArgs false
set_option linter.unusedVariables false
set_option maxRecDepth 100000
end Go.Proofs.YtjkbalanglgoiaaGreat
namespace Go.Proofs.YtjkbalanglgoiaaGreat
open Go Go.FW
set_option maxRecDepth 100000
def c130 : SFn := ⟨24, [.t 2], .seq (.rg (.o none (.mv 2 (.c .nilS)) .nil)) <| .seq (.rg (.o none (.mv 5 (.t 0)) <|
  .o none (.len 6 (.t 5)) <|
  .o none (.mv 3 (.t 6)) .nil)) <| .seq (.block 0 (.loop (.seq (.seq (.rg (.o none (.mv 7 (.t 3)) <|
  .o none (.bin 8 .gtr false (.t 7) (.c (.int .i64 0))) <|
  .o none (.mv 9 (.t 8)) <|
  .o (some (9, true)) (.mv 10 (.t 0)) <|
  .o (some (9, true)) (.mv 11 (.t 3)) <|
  .o (some (9, true)) (.bin 12 .sub false (.t 11) (.c (.int .i64 1))) <|
  .o (some (9, true)) (.idx 13 1 (.t 10) (.t 12)) <|
  .o (some (9, true)) (.ld 14 1 false (.t 13)) <|
  .o (some (9, true)) (.bin 15 .eql false (.t 14) (.c (.int .u16 0))) <|
  .o none (.pick 16 (.t 9) (.t 15) (.c (.bool false))) .nil)) <| .cond (.t 16) (.skip) (.exit 0)) <| .block 1 (.rg (.o none (.mv 17 (.t 3)) <|
  .o none (.bin 18 .sub false (.t 17) (.c (.int .i64 1))) <|
  .o none (.mv 3 (.t 18)) .nil))))) <| .seq (.rg (.o none (.mv 4 (.c .nilS)) .nil)) <| .seq (.rg (.o none (.mv 19 (.t 4)) <|
  .o none (.mv 20 (.t 0)) <|
  .o none (.mv 21 (.t 3)) <|
  .o none (.sl 22 1 (.t 20) none (some (.t 21)) none) <|
  .o none (.app 23 1 2 111 (.t 19) (.t 22)) <|
  .o none (.mv 2 (.t 23)) .nil)) <| .ret⟩
theorem c130_ok : compileF Tryz.prog Tryz.f130 = some c130 := by kernel_rfl
def c60 : SFn := ⟨15, [.t 2], .seq (.rg (.o none (.mv 2 (.c .nilS)) .nil)) <| .seq (.rg (.o none (.mv 3 (.c .nilS)) .nil)) <| .seq (.block 0 (.loop (.seq (.seq (.rg (.o none (.mv 4 (.t 0)) <|
  .o none (.bin 5 .gtr false (.t 4) (.c (.int .u64 0))) .nil)) <| .cond (.t 5) (.skip) (.exit 0)) <| .block 1 (.seq (.rg (.o none (.mv 6 (.t 3)) <|
  .o none (.mv 7 (.t 0)) <|
  .o none (.bin 8 .rem false (.t 7) (.c (.int .u64 65536))) <|
  .o none (.conv 9 .u16 (.t 8)) <|
  .o none (.bs 10 1 111 [(.t 9)]) <|
  .o none (.app 11 1 2 111 (.t 6) (.t 10)) <|
  .o none (.mv 3 (.t 11)) .nil)) <| .rg (.o none (.mv 12 (.t 0)) <|
  .o none (.bin 13 .quo false (.t 12) (.c (.int .u64 65536))) <|
  .o none (.mv 0 (.t 13)) .nil))))) <| .seq (.rg (.o none (.mv 14 (.t 3)) <|
  .o none (.mv 2 (.t 14)) .nil)) <| .ret⟩
theorem c60_ok : compileF Tryz.prog Tryz.f60 = some c60 := by kernel_rfl
def c131 : SFn := ⟨21, [.t 2], .seq (.rg (.o none (.mv 2 (.c (.int .u64 0))) .nil)) <| .seq (.rg (.o none (.mv 3 (.c (.int .u64 0))) .nil)) <| .seq (.seq (.rg (.o none (.mv 5 (.t 0)) <|
  .o none (.len 6 (.t 5)) <|
  .o none (.bin 7 .sub false (.t 6) (.c (.int .i64 1))) <|
  .o none (.mv 4 (.t 7)) .nil)) <| .block 0 (.loop (.seq (.seq (.rg (.o none (.mv 8 (.t 4)) <|
  .o none (.bin 9 .geq false (.t 8) (.c (.int .i64 0))) .nil)) <| .cond (.t 9) (.skip) (.exit 0)) <| .seq (.block 1 (.rg (.o none (.mv 12 (.t 3)) <|
  .o none (.bin 13 .mul false (.t 12) (.c (.int .u64 65536))) <|
  .o none (.mv 14 (.t 0)) <|
  .o none (.mv 15 (.t 4)) <|
  .o none (.idx 16 1 (.t 14) (.t 15)) <|
  .o none (.ld 17 1 false (.t 16)) <|
  .o none (.conv 18 .u64 (.t 17)) <|
  .o none (.bin 19 .add false (.t 13) (.t 18)) <|
  .o none (.mv 3 (.t 19)) .nil))) <| .rg (.o none (.mv 10 (.t 4)) <|
  .o none (.bin 11 .sub false (.t 10) (.c (.int .i64 1))) <|
  .o none (.mv 4 (.t 11)) .nil)))) <| .seq (.rg (.o none (.mv 20 (.t 3)) <|
  .o none (.mv 2 (.t 20)) .nil)) <| .ret⟩
theorem c131_ok : compileF Tryz.prog Tryz.f131 = some c131 := by kernel_rfl
def c134 : SFn := ⟨14, [.t 4], .seq (.rg (.o none (.mv 4 (.c (.int .i64 0))) .nil)) <| .seq (.seq (.rg (.o none (.mv 5 (.t 1)) <|
  .o none (.mv 6 (.t 0)) <|
  .o none (.len 7 (.t 6)) <|
  .o none (.bin 8 .lss false (.t 5) (.t 7)) .nil)) <| .cond (.t 8) (.seq (.rg (.o none (.mv 9 (.t 0)) <|
  .o none (.mv 10 (.t 1)) <|
  .o none (.idx 11 1 (.t 9) (.t 10)) <|
  .o none (.ld 12 1 false (.t 11)) <|
  .o none (.conv 13 .i64 (.t 12)) <|
  .o none (.mv 4 (.t 13)) .nil)) <| .ret) (.skip)) <| .seq (.rg (.o none (.mv 4 (.c (.int .i64 0))) .nil)) <| .ret⟩
theorem c134_ok : compileF Tryz.prog Tryz.f134 = some c134 := by kernel_rfl
def c167 : SFn := ⟨30, [.t 4], .seq (.rg (.o none (.mv 4 (.c (.int .i64 0))) .nil)) <| .seq (.seq (.rg (.o none (.mv 6 (.t 0)) <|
  .o none (.len 7 (.t 6)) <|
  .o none (.mv 8 (.t 1)) <|
  .o none (.len 9 (.t 8)) <|
  .o none (.mx 10 (.t 7) (.t 9)) <|
  .o none (.bin 11 .sub false (.t 10) (.c (.int .i64 1))) <|
  .o none (.mv 5 (.t 11)) .nil)) <| .block 0 (.loop (.seq (.seq (.rg (.o none (.mv 12 (.t 5)) <|
  .o none (.bin 13 .geq false (.t 12) (.c (.int .i64 0))) .nil)) <| .cond (.t 13) (.skip) (.exit 0)) <| .seq (.block 1 (.seq (.seq (.rg (.o none (.mv 16 (.t 0)) <|
  .o none (.mv 17 (.t 5)) <|
  .o none (.call (some 18) false (.c (.fn 134 [] [])) [(.t 16), (.t 17)]) <|
  .o none (.mv 19 (.t 1)) <|
  .o none (.mv 20 (.t 5)) <|
  .o none (.call (some 21) false (.c (.fn 134 [] [])) [(.t 19), (.t 20)]) <|
  .o none (.bin 22 .lss false (.t 18) (.t 21)) .nil)) <| .cond (.t 22) (.seq (.rg (.o none (.mv 4 (.c (.int .i64 (-1)))) .nil)) <| .ret) (.skip)) <| .seq (.rg (.o none (.mv 23 (.t 0)) <|
  .o none (.mv 24 (.t 5)) <|
  .o none (.call (some 25) false (.c (.fn 134 [] [])) [(.t 23), (.t 24)]) <|
  .o none (.mv 26 (.t 1)) <|
  .o none (.mv 27 (.t 5)) <|
  .o none (.call (some 28) false (.c (.fn 134 [] [])) [(.t 26), (.t 27)]) <|
  .o none (.bin 29 .gtr false (.t 25) (.t 28)) .nil)) <| .cond (.t 29) (.seq (.rg (.o none (.mv 4 (.c (.int .i64 1))) .nil)) <| .ret) (.skip))) <| .rg (.o none (.mv 14 (.t 5)) <|
  .o none (.bin 15 .sub false (.t 14) (.c (.int .i64 1))) <|
  .o none (.mv 5 (.t 15)) .nil)))) <| .seq (.rg (.o none (.mv 4 (.c (.int .i64 0))) .nil)) <| .ret⟩
theorem c167_ok : compileF Tryz.prog Tryz.f167 = some c167 := by kernel_rfl
def c145 : SFn := ⟨44, [.t 4], .seq (.rg (.o none (.mv 4 (.c .nilS)) .nil)) <| .seq (.rg (.o none (.mv 5 (.c .nilS)) .nil)) <| .seq (.rg (.o none (.mv 6 (.c (.int .i64 0))) .nil)) <| .seq (.seq (.rg (.o none (.mv 7 (.c (.int .i64 0))) .nil)) <| .block 0 (.loop (.seq (.seq (.rg (.o none (.mv 9 (.t 7)) <|
  .o none (.mv 10 (.t 0)) <|
  .o none (.len 11 (.t 10)) <|
  .o none (.bin 12 .lss false (.t 9) (.t 11)) <|
  .o none (.mv 13 (.t 12)) <|
  .o (some (13, false)) (.mv 14 (.t 7)) <|
  .o (some (13, false)) (.mv 15 (.t 1)) <|
  .o (some (13, false)) (.len 16 (.t 15)) <|
  .o (some (13, false)) (.bin 17 .lss false (.t 14) (.t 16)) <|
  .o none (.pick 18 (.t 13) (.c (.bool true)) (.t 17)) <|
  .o none (.mv 19 (.t 18)) <|
  .o (some (19, false)) (.mv 20 (.t 6)) <|
  .o (some (19, false)) (.bin 21 .gtr false (.t 20) (.c (.int .i64 0))) <|
  .o none (.pick 22 (.t 19) (.c (.bool true)) (.t 21)) .nil)) <| .cond (.t 22) (.skip) (.exit 0)) <| .seq (.block 1 (.seq (.rg (.o none (.mv 25 (.t 0)) <|
  .o none (.mv 26 (.t 7)) <|
  .o none (.call (some 27) false (.c (.fn 134 [] [])) [(.t 25), (.t 26)]) <|
  .o none (.mv 28 (.t 1)) <|
  .o none (.mv 29 (.t 7)) <|
  .o none (.call (some 30) false (.c (.fn 134 [] [])) [(.t 28), (.t 29)]) <|
  .o none (.bin 31 .add false (.t 27) (.t 30)) <|
  .o none (.mv 32 (.t 6)) <|
  .o none (.bin 33 .add false (.t 31) (.t 32)) <|
  .o none (.mv 8 (.t 33)) .nil)) <| .seq (.rg (.o none (.mv 34 (.t 5)) <|
  .o none (.mv 35 (.t 8)) <|
  .o none (.bin 36 .rem false (.t 35) (.c (.int .i64 65536))) <|
  .o none (.conv 37 .u16 (.t 36)) <|
  .o none (.bs 38 1 111 [(.t 37)]) <|
  .o none (.app 39 1 2 111 (.t 34) (.t 38)) <|
  .o none (.mv 5 (.t 39)) .nil)) <| .rg (.o none (.mv 40 (.t 8)) <|
  .o none (.bin 41 .quo false (.t 40) (.c (.int .i64 65536))) <|
  .o none (.mv 6 (.t 41)) .nil))) <| .rg (.o none (.mv 23 (.t 7)) <|
  .o none (.bin 24 .add false (.t 23) (.c (.int .i64 1))) <|
  .o none (.mv 7 (.t 24)) .nil)))) <| .seq (.rg (.o none (.mv 42 (.t 5)) <|
  .o none (.call (some 43) false (.c (.fn 130 [] [])) [(.t 42)]) <|
  .o none (.mv 4 (.t 43)) .nil)) <| .ret⟩
theorem c145_ok : compileF Tryz.prog Tryz.f145 = some c145 := by kernel_rfl
def c133 : SFn := ⟨40, [.t 4, .t 5], .seq (.rg (.o none (.mv 4 (.c .nilS)) <|
  .o none (.mv 5 (.c (.int .i64 0))) .nil)) <| .seq (.seq (.rg (.o none (.mv 10 (.t 0)) <|
  .o none (.mv 11 (.t 1)) <|
  .o none (.call (some 12) false (.c (.fn 167 [] [])) [(.t 10), (.t 11)]) <|
  .o none (.bin 13 .lss false (.t 12) (.c (.int .i64 0))) .nil)) <| .cond (.t 13) (.seq (.rg (.o none (.mv 4 (.c .nilS)) <|
  .o none (.mv 5 (.c (.int .i64 2))) .nil)) <| .ret) (.skip)) <| .seq (.rg (.o none (.mv 6 (.c .nilS)) .nil)) <| .seq (.rg (.o none (.mv 7 (.c (.int .i64 0))) .nil)) <| .seq (.seq (.rg (.o none (.mv 8 (.c (.int .i64 0))) .nil)) <| .block 0 (.loop (.seq (.seq (.rg (.o none (.mv 14 (.t 8)) <|
  .o none (.mv 15 (.t 0)) <|
  .o none (.len 16 (.t 15)) <|
  .o none (.bin 17 .lss false (.t 14) (.t 16)) .nil)) <| .cond (.t 17) (.skip) (.exit 0)) <| .seq (.block 1 (.seq (.rg (.o none (.mv 20 (.t 0)) <|
  .o none (.mv 21 (.t 8)) <|
  .o none (.call (some 22) false (.c (.fn 134 [] [])) [(.t 20), (.t 21)]) <|
  .o none (.mv 23 (.t 1)) <|
  .o none (.mv 24 (.t 8)) <|
  .o none (.call (some 25) false (.c (.fn 134 [] [])) [(.t 23), (.t 24)]) <|
  .o none (.bin 26 .sub false (.t 22) (.t 25)) <|
  .o none (.mv 27 (.t 7)) <|
  .o none (.bin 28 .sub false (.t 26) (.t 27)) <|
  .o none (.mv 9 (.t 28)) .nil)) <| .seq (.rg (.o none (.mv 7 (.c (.int .i64 0))) .nil)) <| .seq (.seq (.rg (.o none (.mv 29 (.t 9)) <|
  .o none (.bin 30 .lss false (.t 29) (.c (.int .i64 0))) .nil)) <| .cond (.t 30) (.seq (.rg (.o none (.mv 31 (.t 9)) <|
  .o none (.bin 32 .add false (.t 31) (.c (.int .i64 65536))) <|
  .o none (.mv 9 (.t 32)) .nil)) <| .rg (.o none (.mv 7 (.c (.int .i64 1))) .nil)) (.skip)) <| .rg (.o none (.mv 33 (.t 6)) <|
  .o none (.mv 34 (.t 9)) <|
  .o none (.conv 35 .u16 (.t 34)) <|
  .o none (.bs 36 1 111 [(.t 35)]) <|
  .o none (.app 37 1 2 111 (.t 33) (.t 36)) <|
  .o none (.mv 6 (.t 37)) .nil))) <| .rg (.o none (.mv 18 (.t 8)) <|
  .o none (.bin 19 .add false (.t 18) (.c (.int .i64 1))) <|
  .o none (.mv 8 (.t 19)) .nil)))) <| .seq (.rg (.o none (.mv 38 (.t 6)) <|
  .o none (.call (some 39) false (.c (.fn 130 [] [])) [(.t 38)]) <|
  .o none (.mv 4 (.t 39)) <|
  .o none (.mv 5 (.c (.int .i64 0))) .nil)) <| .ret⟩
theorem c133_ok : compileF Tryz.prog Tryz.f133 = some c133 := by kernel_rfl
def c63 : SFn := ⟨65, [.t 4], .seq (.rg (.o none (.mv 4 (.c .nilS)) .nil)) <| .seq (.rg (.o none (.mv 10 (.t 0)) <|
  .o none (.len 11 (.t 10)) <|
  .o none (.mv 12 (.t 1)) <|
  .o none (.len 13 (.t 12)) <|
  .o none (.bin 14 .add false (.t 11) (.t 13)) <|
  .o none (.bin 15 .add false (.t 14) (.c (.int .i64 1))) <|
  .o none (.mk 16 1 2 111 (.int .u16 0) (.t 15) (.t 15)) <|
  .o none (.mv 5 (.t 16)) .nil)) <| .seq (.seq (.rg (.o none (.mv 6 (.c (.int .i64 0))) .nil)) <| .block 0 (.loop (.seq (.seq (.rg (.o none (.mv 17 (.t 6)) <|
  .o none (.mv 18 (.t 0)) <|
  .o none (.len 19 (.t 18)) <|
  .o none (.bin 20 .lss false (.t 17) (.t 19)) .nil)) <| .cond (.t 20) (.skip) (.exit 0)) <| .seq (.block 1 (.seq (.rg (.o none (.mv 7 (.c (.int .u64 0))) .nil)) <| .seq (.rg (.o none (.mv 8 (.c (.int .i64 0))) .nil)) <| .block 2 (.loop (.seq (.seq (.rg (.o none (.mv 23 (.t 8)) <|
  .o none (.mv 24 (.t 1)) <|
  .o none (.len 25 (.t 24)) <|
  .o none (.bin 26 .lss false (.t 23) (.t 25)) <|
  .o none (.mv 27 (.t 26)) <|
  .o (some (27, false)) (.mv 28 (.t 7)) <|
  .o (some (27, false)) (.bin 29 .gtr false (.t 28) (.c (.int .u64 0))) <|
  .o none (.pick 30 (.t 27) (.c (.bool true)) (.t 29)) .nil)) <| .cond (.t 30) (.skip) (.exit 2)) <| .seq (.block 3 (.seq (.rg (.o none (.mv 33 (.t 5)) <|
  .o none (.mv 34 (.t 6)) <|
  .o none (.mv 35 (.t 8)) <|
  .o none (.bin 36 .add false (.t 34) (.t 35)) <|
  .o none (.idx 37 1 (.t 33) (.t 36)) <|
  .o none (.ld 38 1 false (.t 37)) <|
  .o none (.conv 39 .u64 (.t 38)) <|
  .o none (.mv 40 (.t 0)) <|
  .o none (.mv 41 (.t 6)) <|
  .o none (.idx 42 1 (.t 40) (.t 41)) <|
  .o none (.ld 43 1 false (.t 42)) <|
  .o none (.conv 44 .u64 (.t 43)) <|
  .o none (.mv 45 (.t 1)) <|
  .o none (.mv 46 (.t 8)) <|
  .o none (.mv 51 (.t 7)) <|
  .o none (.call (some 47) true (.c (.fn 134 [] [])) [(.t 45), (.t 46)]) <|
  .o none (.conv 48 .u64 (.t 47)) <|
  .o none (.bin 49 .mul false (.t 44) (.t 48)) <|
  .o none (.bin 50 .add false (.t 39) (.t 49)) <|
  .o none (.bin 52 .add false (.t 50) (.t 51)) <|
  .o none (.mv 9 (.t 52)) .nil)) <| .seq (.rg (.o none (.mv 53 (.t 5)) <|
  .o none (.mv 54 (.t 6)) <|
  .o none (.mv 55 (.t 8)) <|
  .o none (.bin 56 .add false (.t 54) (.t 55)) <|
  .o none (.mv 57 (.t 9)) <|
  .o none (.bin 58 .rem false (.t 57) (.c (.int .u64 65536))) <|
  .o none (.conv 59 .u16 (.t 58)) <|
  .o none (.idx 60 1 (.t 53) (.t 56)) <|
  .o none (.st 1 (.t 60) (.t 59)) .nil)) <| .rg (.o none (.mv 61 (.t 9)) <|
  .o none (.bin 62 .quo false (.t 61) (.c (.int .u64 65536))) <|
  .o none (.mv 7 (.t 62)) .nil))) <| .rg (.o none (.mv 31 (.t 8)) <|
  .o none (.bin 32 .add false (.t 31) (.c (.int .i64 1))) <|
  .o none (.mv 8 (.t 32)) .nil))))) <| .rg (.o none (.mv 21 (.t 6)) <|
  .o none (.bin 22 .add false (.t 21) (.c (.int .i64 1))) <|
  .o none (.mv 6 (.t 22)) .nil)))) <| .seq (.rg (.o none (.mv 63 (.t 5)) <|
  .o none (.call (some 64) false (.c (.fn 130 [] [])) [(.t 63)]) <|
  .o none (.mv 4 (.t 64)) .nil)) <| .ret⟩
theorem c63_ok : compileF Tryz.prog Tryz.f63 = some c63 := by kernel_rfl
def c132 : SFn := ⟨27, [.t 4], .seq (.rg (.o none (.mv 4 (.c (.int .u64 0))) .nil)) <| .seq (.rg (.o none (.mv 5 (.c (.int .u64 0))) <|
  .o none (.mv 6 (.c (.int .u64 65535))) .nil)) <| .seq (.block 0 (.loop (.seq (.seq (.rg (.o none (.mv 8 (.t 5)) <|
  .o none (.mv 9 (.t 6)) <|
  .o none (.bin 10 .lss false (.t 8) (.t 9)) .nil)) <| .cond (.t 10) (.skip) (.exit 0)) <| .block 1 (.seq (.rg (.o none (.mv 11 (.t 5)) <|
  .o none (.mv 12 (.t 6)) <|
  .o none (.bin 13 .add false (.t 11) (.t 12)) <|
  .o none (.bin 14 .add false (.t 13) (.c (.int .u64 1))) <|
  .o none (.bin 15 .quo false (.t 14) (.c (.int .u64 2))) <|
  .o none (.mv 7 (.t 15)) .nil)) <| .seq (.rg (.o none (.mv 16 (.t 1)) <|
  .o none (.mv 17 (.t 7)) <|
  .o none (.call (some 18) false (.c (.fn 60 [] [])) [(.t 17)]) <|
  .o none (.call (some 19) false (.c (.fn 63 [] [])) [(.t 16), (.t 18)]) <|
  .o none (.mv 20 (.t 0)) <|
  .o none (.call (some 21) false (.c (.fn 167 [] [])) [(.t 19), (.t 20)]) <|
  .o none (.bin 22 .leq false (.t 21) (.c (.int .i64 0))) .nil)) <| .cond (.t 22) (.rg (.o none (.mv 23 (.t 7)) <|
  .o none (.mv 5 (.t 23)) .nil)) (.rg (.o none (.mv 24 (.t 7)) <|
  .o none (.bin 25 .sub false (.t 24) (.c (.int .u64 1))) <|
  .o none (.mv 6 (.t 25)) .nil)))))) <| .seq (.rg (.o none (.mv 26 (.t 5)) <|
  .o none (.mv 4 (.t 26)) .nil)) <| .ret⟩
theorem c132_ok : compileF Tryz.prog Tryz.f132 = some c132 := by kernel_rfl
def c62 : SFn := ⟨73, [.t 4, .t 5, .t 6], .seq (.rg (.o none (.mv 4 (.c .nilS)) <|
  .o none (.mv 5 (.c .nilS)) <|
  .o none (.mv 6 (.c (.int .i64 0))) .nil)) <| .seq (.rg (.o none (.mv 11 (.t 0)) <|
  .o none (.call (some 12) false (.c (.fn 130 [] [])) [(.t 11)]) <|
  .o none (.mv 13 (.t 1)) <|
  .o none (.call (some 14) false (.c (.fn 130 [] [])) [(.t 13)]) <|
  .o none (.mv 0 (.t 12)) <|
  .o none (.mv 1 (.t 14)) .nil)) <| .seq (.seq (.rg (.o none (.mv 15 (.t 1)) <|
  .o none (.len 16 (.t 15)) <|
  .o none (.bin 17 .eql false (.t 16) (.c (.int .i64 0))) .nil)) <| .cond (.t 17) (.seq (.rg (.o none (.mv 4 (.c .nilS)) <|
  .o none (.mv 5 (.c .nilS)) <|
  .o none (.mv 6 (.c (.int .i64 3))) .nil)) <| .ret) (.skip)) <| .seq (.seq (.rg (.o none (.mv 18 (.t 0)) <|
  .o none (.len 19 (.t 18)) <|
  .o none (.bin 20 .leq false (.t 19) (.c (.int .i64 4))) <|
  .o none (.mv 21 (.t 20)) <|
  .o (some (21, true)) (.mv 22 (.t 1)) <|
  .o (some (21, true)) (.len 23 (.t 22)) <|
  .o (some (21, true)) (.bin 24 .leq false (.t 23) (.c (.int .i64 4))) <|
  .o none (.pick 25 (.t 21) (.t 24) (.c (.bool false))) .nil)) <| .cond (.t 25) (.seq (.rg (.o none (.mv 26 (.t 0)) <|
  .o none (.call (some 27) false (.c (.fn 131 [] [])) [(.t 26)]) <|
  .o none (.mv 28 (.t 1)) <|
  .o none (.call (some 29) false (.c (.fn 131 [] [])) [(.t 28)]) <|
  .o none (.bin 30 .quo false (.t 27) (.t 29)) <|
  .o none (.call (some 31) false (.c (.fn 60 [] [])) [(.t 30)]) <|
  .o none (.mv 32 (.t 0)) <|
  .o none (.call (some 33) false (.c (.fn 131 [] [])) [(.t 32)]) <|
  .o none (.mv 34 (.t 1)) <|
  .o none (.call (some 35) false (.c (.fn 131 [] [])) [(.t 34)]) <|
  .o none (.bin 36 .rem false (.t 33) (.t 35)) <|
  .o none (.call (some 37) false (.c (.fn 60 [] [])) [(.t 36)]) <|
  .o none (.mv 4 (.t 31)) <|
  .o none (.mv 5 (.t 37)) <|
  .o none (.mv 6 (.c (.int .i64 0))) .nil)) <| .ret) (.skip)) <| .seq (.rg (.o none (.mv 7 (.c .nilS)) <|
  .o none (.mv 8 (.c .nilS)) .nil)) <| .seq (.seq (.rg (.o none (.mv 38 (.t 0)) <|
  .o none (.len 39 (.t 38)) <|
  .o none (.bin 40 .sub false (.t 39) (.c (.int .i64 1))) <|
  .o none (.mv 9 (.t 40)) .nil)) <| .block 0 (.loop (.seq (.seq (.rg (.o none (.mv 41 (.t 9)) <|
  .o none (.bin 42 .geq false (.t 41) (.c (.int .i64 0))) .nil)) <| .cond (.t 42) (.skip) (.exit 0)) <| .seq (.block 1 (.seq (.rg (.o none (.mv 45 (.t 0)) <|
  .o none (.mv 46 (.t 9)) <|
  .o none (.idx 47 1 (.t 45) (.t 46)) <|
  .o none (.ld 48 1 false (.t 47)) <|
  .o none (.bs 49 1 111 [(.t 48)]) <|
  .o none (.mv 50 (.t 8)) <|
  .o none (.app 51 1 2 111 (.t 49) (.t 50)) <|
  .o none (.call (some 52) false (.c (.fn 130 [] [])) [(.t 51)]) <|
  .o none (.mv 8 (.t 52)) .nil)) <| .seq (.rg (.o none (.mv 53 (.t 8)) <|
  .o none (.mv 54 (.t 1)) <|
  .o none (.call (some 55) false (.c (.fn 132 [] [])) [(.t 53), (.t 54)]) <|
  .o none (.mv 10 (.t 55)) .nil)) <| .seq (.rg (.o none (.mv 56 (.t 10)) <|
  .o none (.conv 57 .u16 (.t 56)) <|
  .o none (.bs 58 1 111 [(.t 57)]) <|
  .o none (.mv 59 (.t 7)) <|
  .o none (.app 60 1 2 111 (.t 58) (.t 59)) <|
  .o none (.mv 7 (.t 60)) .nil)) <| .rg (.o none (.mv 62 (.t 8)) <|
  .o none (.mv 63 (.t 1)) <|
  .o none (.mv 64 (.t 10)) <|
  .o none (.call (some 65) false (.c (.fn 60 [] [])) [(.t 64)]) <|
  .o none (.call (some 66) false (.c (.fn 63 [] [])) [(.t 63), (.t 65)]) <|
  .o none (.call (some 67) false (.c (.fn 133 [] [])) [(.t 62), (.t 66)]) <|
  .o none (.mv 61 (.t 67)) <|
  .o none (.ext 68 (.t 61) 0) <|
  .o none (.ext 69 (.t 61) 1) <|
  .o none (.mv 8 (.t 68)) .nil))) <| .rg (.o none (.mv 43 (.t 9)) <|
  .o none (.bin 44 .sub false (.t 43) (.c (.int .i64 1))) <|
  .o none (.mv 9 (.t 44)) .nil)))) <| .seq (.rg (.o none (.mv 70 (.t 7)) <|
  .o none (.call (some 71) false (.c (.fn 130 [] [])) [(.t 70)]) <|
  .o none (.mv 72 (.t 8)) <|
  .o none (.mv 4 (.t 71)) <|
  .o none (.mv 5 (.t 72)) <|
  .o none (.mv 6 (.c (.int .i64 0))) .nil)) <| .ret⟩
theorem c62_ok : compileF Tryz.prog Tryz.f62 = some c62 := by kernel_rfl
def c61 : SFn := ⟨25, [.t 4], .seq (.rg (.o none (.mv 4 (.c .nilS)) .nil)) <| .seq (.rg (.o none (.mv 8 (.t 0)) <|
  .o none (.call (some 9) false (.c (.fn 130 [] [])) [(.t 8)]) <|
  .o none (.mv 10 (.t 1)) <|
  .o none (.call (some 11) false (.c (.fn 130 [] [])) [(.t 10)]) <|
  .o none (.mv 0 (.t 9)) <|
  .o none (.mv 1 (.t 11)) .nil)) <| .seq (.block 0 (.loop (.seq (.seq (.rg (.o none (.mv 12 (.t 1)) <|
  .o none (.len 13 (.t 12)) <|
  .o none (.bin 14 .gtr false (.t 13) (.c (.int .i64 0))) .nil)) <| .cond (.t 14) (.skip) (.exit 0)) <| .block 1 (.seq (.rg (.o none (.mv 16 (.t 0)) <|
  .o none (.mv 17 (.t 1)) <|
  .o none (.call (some 18) false (.c (.fn 62 [] [])) [(.t 16), (.t 17)]) <|
  .o none (.mv 15 (.t 18)) <|
  .o none (.ext 19 (.t 15) 0) <|
  .o none (.ext 20 (.t 15) 1) <|
  .o none (.ext 21 (.t 15) 2) <|
  .o none (.mv 5 (.t 19)) <|
  .o none (.mv 6 (.t 20)) <|
  .o none (.mv 7 (.t 21)) .nil)) <| .rg (.o none (.mv 22 (.t 1)) <|
  .o none (.mv 23 (.t 6)) <|
  .o none (.mv 0 (.t 22)) <|
  .o none (.mv 1 (.t 23)) .nil))))) <| .seq (.rg (.o none (.mv 24 (.t 0)) <|
  .o none (.mv 4 (.t 24)) .nil)) <| .ret⟩
theorem c61_ok : compileF Tryz.prog Tryz.f61 = some c61 := by kernel_rfl
def c152 : SFn := ⟨15, [.t 2], .seq (.rg (.o none (.mv 2 (.c (.bool false))) .nil)) <| .seq (.rg (.o none (.mv 3 (.t 0)) <|
  .o none (.len 4 (.t 3)) <|
  .o none (.bin 5 .eql false (.t 4) (.c (.int .i64 0))) <|
  .o none (.mv 6 (.t 5)) <|
  .o (some (6, false)) (.mv 7 (.t 0)) <|
  .o (some (6, false)) (.mv 8 (.t 0)) <|
  .o (some (6, false)) (.len 9 (.t 8)) <|
  .o (some (6, false)) (.bin 10 .sub false (.t 9) (.c (.int .i64 1))) <|
  .o (some (6, false)) (.idx 11 1 (.t 7) (.t 10)) <|
  .o (some (6, false)) (.ld 12 1 false (.t 11)) <|
  .o (some (6, false)) (.bin 13 .neq false (.t 12) (.c (.int .u16 0))) <|
  .o none (.pick 14 (.t 6) (.c (.bool true)) (.t 13)) <|
  .o none (.mv 2 (.t 14)) .nil)) <| .ret⟩
theorem c152_ok : compileF Tryz.prog Tryz.f152 = some c152 := by kernel_rfl
def c70 : SFn := ⟨26, [.t 4], .seq (.rg (.o none (.mv 4 (.c (.bool false))) .nil)) <| .seq (.seq (.rg (.o none (.mv 6 (.t 0)) <|
  .o none (.len 7 (.t 6)) <|
  .o none (.mv 8 (.t 1)) <|
  .o none (.len 9 (.t 8)) <|
  .o none (.bin 10 .neq false (.t 7) (.t 9)) .nil)) <| .cond (.t 10) (.seq (.rg (.o none (.mv 4 (.c (.bool false))) .nil)) <| .ret) (.skip)) <| .seq (.seq (.rg (.o none (.mv 5 (.c (.int .i64 0))) .nil)) <| .block 0 (.loop (.seq (.seq (.rg (.o none (.mv 11 (.t 5)) <|
  .o none (.mv 12 (.t 0)) <|
  .o none (.len 13 (.t 12)) <|
  .o none (.bin 14 .lss false (.t 11) (.t 13)) .nil)) <| .cond (.t 14) (.skip) (.exit 0)) <| .seq (.block 1 (.seq (.rg (.o none (.mv 17 (.t 0)) <|
  .o none (.mv 18 (.t 5)) <|
  .o none (.idx 19 1 (.t 17) (.t 18)) <|
  .o none (.ld 20 1 false (.t 19)) <|
  .o none (.mv 21 (.t 1)) <|
  .o none (.mv 22 (.t 5)) <|
  .o none (.idx 23 1 (.t 21) (.t 22)) <|
  .o none (.ld 24 1 false (.t 23)) <|
  .o none (.bin 25 .neq false (.t 20) (.t 24)) .nil)) <| .cond (.t 25) (.seq (.rg (.o none (.mv 4 (.c (.bool false))) .nil)) <| .ret) (.skip))) <| .rg (.o none (.mv 15 (.t 5)) <|
  .o none (.bin 16 .add false (.t 15) (.c (.int .i64 1))) <|
  .o none (.mv 5 (.t 16)) .nil)))) <| .seq (.rg (.o none (.mv 4 (.c (.bool true))) .nil)) <| .ret⟩
theorem c70_ok : compileF Tryz.prog Tryz.f70 = some c70 := by kernel_rfl
def c151 : SFn := ⟨17, [.t 2], .seq (.rg (.o none (.box 1 2 31 (.t 0)) <|
  .o none (.mv 2 (.c (.bool false))) .nil)) <| .seq (.rg (.o none (.fld 3 1 (.t 1)) <|
  .o none (.ld 4 1 false (.t 3)) <|
  .o none (.call (some 5) false (.c (.fn 152 [] [])) [(.t 4)]) <|
  .o none (.mv 6 (.t 5)) <|
  .o (some (6, true)) (.fld 7 0 (.t 1)) <|
  .o (some (6, true)) (.ld 8 1 false (.t 7)) <|
  .o (some (6, true)) (.mv 9 (.t 8)) <|
  .o (some (9, true)) (.fld 10 1 (.t 1)) <|
  .o (some (9, true)) (.ld 11 1 false (.t 10)) <|
  .o (some (9, true)) (.len 12 (.t 11)) <|
  .o (some (9, true)) (.bin 13 .eql false (.t 12) (.c (.int .i64 0))) <|
  .o (some (6, true)) (.pick 14 (.t 9) (.t 13) (.c (.bool false))) <|
  .o (some (6, true)) (.un 15 .not (.t 14)) <|
  .o none (.pick 16 (.t 6) (.t 15) (.c (.bool false))) <|
  .o none (.mv 2 (.t 16)) .nil)) <| .ret⟩
theorem c151_ok : compileF Tryz.prog Tryz.f151 = some c151 := by kernel_rfl
def c144 : SFn := ⟨15, [.cell 4 2 true], .seq (.rg (.o none (.alloc 4 2 31 (.agg [(.bool false), .nilS])) .nil)) <| .seq (.rg (.o none (.mv 5 (.t 1)) <|
  .o none (.call (some 6) false (.c (.fn 130 [] [])) [(.t 5)]) <|
  .o none (.mv 1 (.t 6)) .nil)) <| .seq (.rg (.o none (.mv 7 (.t 0)) <|
  .o none (.mv 8 (.t 7)) <|
  .o (some (8, true)) (.mv 9 (.t 1)) <|
  .o (some (8, true)) (.len 10 (.t 9)) <|
  .o (some (8, true)) (.bin 11 .gtr false (.t 10) (.c (.int .i64 0))) <|
  .o none (.pick 12 (.t 8) (.t 11) (.c (.bool false))) <|
  .o none (.mv 13 (.t 1)) <|
  .o none (.bld 14 [(.bool false), .nilS] [(0, 1, (.t 12)), (1, 1, (.t 13))]) <|
  .o none (.st 2 (.t 4) (.t 14)) .nil)) <| .ret⟩
theorem c144_ok : compileF Tryz.prog Tryz.f144 = some c144 := by kernel_rfl
def c136 : SFn := ⟨8, [.cell 2 2 true], .seq (.rg (.o none (.box 1 2 31 (.t 0)) <|
  .o none (.alloc 2 2 31 (.agg [(.bool false), .nilS])) .nil)) <| .seq (.rg (.o none (.fld 3 0 (.t 1)) <|
  .o none (.ld 4 1 false (.t 3)) <|
  .o none (.fld 5 1 (.t 1)) <|
  .o none (.ld 6 1 false (.t 5)) <|
  .o none (.call (some 7) false (.c (.fn 144 [] [])) [(.t 4), (.t 6)]) <|
  .o none (.st 2 (.t 2) (.t 7)) .nil)) <| .ret⟩
theorem c136_ok : compileF Tryz.prog Tryz.f136 = some c136 := by kernel_rfl
def c85 : SFn := ⟨17, [.cell 2 2 true], .seq (.rg (.o none (.alloc 2 2 31 (.agg [(.bool false), .nilS])) .nil)) <| .seq (.seq (.rg (.o none (.mv 3 (.t 0)) <|
  .o none (.bin 4 .lss false (.t 3) (.c (.int .i64 0))) .nil)) <| .cond (.t 4) (.seq (.rg (.o none (.mv 5 (.t 0)) <|
  .o none (.bin 6 .add false (.t 5) (.c (.int .i64 1))) <|
  .o none (.un 7 .neg (.t 6)) <|
  .o none (.conv 8 .u64 (.t 7)) <|
  .o none (.call (some 9) false (.c (.fn 60 [] [])) [(.t 8)]) <|
  .o none (.call (some 10) false (.c (.fn 60 [] [])) [(.c (.int .u64 1))]) <|
  .o none (.call (some 11) false (.c (.fn 145 [] [])) [(.t 9), (.t 10)]) <|
  .o none (.call (some 12) false (.c (.fn 144 [] [])) [(.c (.bool true)), (.t 11)]) <|
  .o none (.st 2 (.t 2) (.t 12)) .nil)) <| .ret) (.skip)) <| .seq (.rg (.o none (.mv 13 (.t 0)) <|
  .o none (.conv 14 .u64 (.t 13)) <|
  .o none (.call (some 15) false (.c (.fn 60 [] [])) [(.t 14)]) <|
  .o none (.call (some 16) false (.c (.fn 144 [] [])) [(.c (.bool false)), (.t 15)]) <|
  .o none (.st 2 (.t 2) (.t 16)) .nil)) <| .ret⟩
theorem c85_ok : compileF Tryz.prog Tryz.f85 = some c85 := by kernel_rfl
def c66 : SFn := ⟨11, [.t 2], .seq (.rg (.o none (.box 1 2 31 (.t 0)) <|
  .o none (.mv 2 (.c (.int .i64 0))) .nil)) <| .seq (.rg (.o none (.ld 3 2 true (.t 1)) <|
  .o none (.call (some 4) false (.c (.fn 136 [] [])) [(.t 3)]) <|
  .o none (.st 2 (.t 1) (.t 4)) .nil)) <| .seq (.seq (.rg (.o none (.fld 5 1 (.t 1)) <|
  .o none (.ld 6 1 false (.t 5)) <|
  .o none (.len 7 (.t 6)) <|
  .o none (.bin 8 .eql false (.t 7) (.c (.int .i64 0))) .nil)) <| .cond (.t 8) (.seq (.rg (.o none (.mv 2 (.c (.int .i64 0))) .nil)) <| .ret) (.skip)) <| .seq (.seq (.rg (.o none (.fld 9 0 (.t 1)) <|
  .o none (.ld 10 1 false (.t 9)) .nil)) <| .cond (.t 10) (.seq (.rg (.o none (.mv 2 (.c (.int .i64 (-1)))) .nil)) <| .ret) (.skip)) <| .seq (.rg (.o none (.mv 2 (.c (.int .i64 1))) .nil)) <| .ret⟩
theorem c66_ok : compileF Tryz.prog Tryz.f66 = some c66 := by kernel_rfl
def c146 : SFn := ⟨38, [.t 4], .seq (.rg (.o none (.box 2 2 31 (.t 0)) <|
  .o none (.box 3 2 31 (.t 1)) <|
  .o none (.mv 4 (.c (.int .i64 0))) .nil)) <| .seq (.rg (.o none (.ld 5 2 true (.t 2)) <|
  .o none (.ld 7 2 true (.t 3)) <|
  .o none (.call (some 6) true (.c (.fn 136 [] [])) [(.t 5)]) <|
  .o none (.call (some 8) true (.c (.fn 136 [] [])) [(.t 7)]) <|
  .o none (.st 2 (.t 2) (.t 6)) <|
  .o none (.st 2 (.t 3) (.t 8)) .nil)) <| .seq (.block 0 (.seq (.rg (.o none (.fld 10 0 (.t 2)) <|
  .o none (.ld 11 1 false (.t 10)) <|
  .o none (.mv 12 (.t 11)) <|
  .o (some (12, true)) (.fld 13 0 (.t 3)) <|
  .o (some (12, true)) (.ld 14 1 false (.t 13)) <|
  .o (some (12, true)) (.un 15 .not (.t 14)) <|
  .o none (.pick 16 (.t 12) (.t 15) (.c (.bool false))) <|
  .o none (.mv 9 (.t 16)) .nil)) <| .cond (.t 9) (.seq (.rg (.o none (.mv 4 (.c (.int .i64 (-1)))) .nil)) <| .ret) (.seq (.rg (.o none (.fld 18 0 (.t 3)) <|
  .o none (.ld 19 1 false (.t 18)) <|
  .o none (.mv 20 (.t 19)) <|
  .o (some (20, true)) (.fld 21 0 (.t 2)) <|
  .o (some (20, true)) (.ld 22 1 false (.t 21)) <|
  .o (some (20, true)) (.un 23 .not (.t 22)) <|
  .o none (.pick 24 (.t 20) (.t 23) (.c (.bool false))) <|
  .o none (.mv 17 (.t 24)) .nil)) <| .cond (.t 17) (.seq (.rg (.o none (.mv 4 (.c (.int .i64 1))) .nil)) <| .ret) (.seq (.rg (.o none (.fld 26 0 (.t 2)) <|
  .o none (.ld 27 1 false (.t 26)) <|
  .o none (.mv 25 (.t 27)) .nil)) <| .cond (.t 25) (.seq (.rg (.o none (.fld 28 1 (.t 3)) <|
  .o none (.ld 29 1 false (.t 28)) <|
  .o none (.fld 30 1 (.t 2)) <|
  .o none (.ld 31 1 false (.t 30)) <|
  .o none (.call (some 32) false (.c (.fn 167 [] [])) [(.t 29), (.t 31)]) <|
  .o none (.mv 4 (.t 32)) .nil)) <| .ret) (.skip))))) <| .seq (.rg (.o none (.fld 33 1 (.t 2)) <|
  .o none (.ld 34 1 false (.t 33)) <|
  .o none (.fld 35 1 (.t 3)) <|
  .o none (.ld 36 1 false (.t 35)) <|
  .o none (.call (some 37) false (.c (.fn 167 [] [])) [(.t 34), (.t 36)]) <|
  .o none (.mv 4 (.t 37)) .nil)) <| .ret⟩
theorem c146_ok : compileF Tryz.prog Tryz.f146 = some c146 := by kernel_rfl
def c135 : SFn := ⟨9, [.cell 2 2 true], .seq (.rg (.o none (.box 1 2 31 (.t 0)) <|
  .o none (.alloc 2 2 31 (.agg [(.bool false), .nilS])) .nil)) <| .seq (.rg (.o none (.fld 3 0 (.t 1)) <|
  .o none (.ld 4 1 false (.t 3)) <|
  .o none (.un 5 .not (.t 4)) <|
  .o none (.fld 6 1 (.t 1)) <|
  .o none (.ld 7 1 false (.t 6)) <|
  .o none (.call (some 8) false (.c (.fn 144 [] [])) [(.t 5), (.t 7)]) <|
  .o none (.st 2 (.t 2) (.t 8)) .nil)) <| .ret⟩
theorem c135_ok : compileF Tryz.prog Tryz.f135 = some c135 := by kernel_rfl
def c157 : SFn := ⟨48, [.cell 4 2 true], .seq (.rg (.o none (.box 2 2 31 (.t 0)) <|
  .o none (.box 3 2 31 (.t 1)) <|
  .o none (.alloc 4 2 31 (.agg [(.bool false), .nilS])) .nil)) <| .seq (.seq (.rg (.o none (.fld 9 0 (.t 2)) <|
  .o none (.ld 10 1 false (.t 9)) <|
  .o none (.fld 11 0 (.t 3)) <|
  .o none (.ld 12 1 false (.t 11)) <|
  .o none (.bin 13 .eql true (.t 10) (.t 12)) .nil)) <| .cond (.t 13) (.seq (.rg (.o none (.fld 14 0 (.t 2)) <|
  .o none (.ld 15 1 false (.t 14)) <|
  .o none (.fld 16 1 (.t 2)) <|
  .o none (.ld 17 1 false (.t 16)) <|
  .o none (.fld 18 1 (.t 3)) <|
  .o none (.ld 19 1 false (.t 18)) <|
  .o none (.call (some 20) true (.c (.fn 145 [] [])) [(.t 17), (.t 19)]) <|
  .o none (.call (some 21) true (.c (.fn 144 [] [])) [(.t 15), (.t 20)]) <|
  .o none (.st 2 (.t 4) (.t 21)) .nil)) <| .ret) (.skip)) <| .seq (.seq (.rg (.o none (.fld 23 1 (.t 2)) <|
  .o none (.ld 24 1 false (.t 23)) <|
  .o none (.fld 25 1 (.t 3)) <|
  .o none (.ld 26 1 false (.t 25)) <|
  .o none (.call (some 27) false (.c (.fn 133 [] [])) [(.t 24), (.t 26)]) <|
  .o none (.mv 22 (.t 27)) <|
  .o none (.ext 28 (.t 22) 0) <|
  .o none (.ext 29 (.t 22) 1) <|
  .o none (.mv 5 (.t 28)) <|
  .o none (.mv 6 (.t 29)) .nil)) <| .seq (.rg (.o none (.mv 30 (.t 6)) <|
  .o none (.bin 31 .eql false (.t 30) (.c (.int .i64 0))) .nil)) <| .cond (.t 31) (.seq (.rg (.o none (.fld 32 0 (.t 2)) <|
  .o none (.ld 33 1 false (.t 32)) <|
  .o none (.mv 34 (.t 5)) <|
  .o none (.call (some 35) false (.c (.fn 144 [] [])) [(.t 33), (.t 34)]) <|
  .o none (.st 2 (.t 4) (.t 35)) .nil)) <| .ret) (.skip)) <| .seq (.rg (.o none (.fld 37 1 (.t 3)) <|
  .o none (.ld 38 1 false (.t 37)) <|
  .o none (.fld 39 1 (.t 2)) <|
  .o none (.ld 40 1 false (.t 39)) <|
  .o none (.call (some 41) false (.c (.fn 133 [] [])) [(.t 38), (.t 40)]) <|
  .o none (.mv 36 (.t 41)) <|
  .o none (.ext 42 (.t 36) 0) <|
  .o none (.ext 43 (.t 36) 1) <|
  .o none (.mv 7 (.t 42)) <|
  .o none (.mv 8 (.t 43)) .nil)) <| .seq (.rg (.o none (.fld 44 0 (.t 3)) <|
  .o none (.ld 45 1 false (.t 44)) <|
  .o none (.mv 46 (.t 7)) <|
  .o none (.call (some 47) false (.c (.fn 144 [] [])) [(.t 45), (.t 46)]) <|
  .o none (.st 2 (.t 4) (.t 47)) .nil)) <| .ret⟩
theorem c157_ok : compileF Tryz.prog Tryz.f157 = some c157 := by kernel_rfl
def c114 : SFn := ⟨16, [.cell 4 2 true], .seq (.rg (.o none (.box 2 2 31 (.t 0)) <|
  .o none (.box 3 2 31 (.t 1)) <|
  .o none (.alloc 4 2 31 (.agg [(.bool false), .nilS])) .nil)) <| .seq (.rg (.o none (.fld 5 0 (.t 2)) <|
  .o none (.ld 6 1 false (.t 5)) <|
  .o none (.fld 7 0 (.t 3)) <|
  .o none (.ld 8 1 false (.t 7)) <|
  .o none (.bin 9 .neq true (.t 6) (.t 8)) <|
  .o none (.fld 10 1 (.t 2)) <|
  .o none (.ld 11 1 false (.t 10)) <|
  .o none (.fld 12 1 (.t 3)) <|
  .o none (.ld 13 1 false (.t 12)) <|
  .o none (.call (some 14) true (.c (.fn 63 [] [])) [(.t 11), (.t 13)]) <|
  .o none (.call (some 15) true (.c (.fn 144 [] [])) [(.t 9), (.t 14)]) <|
  .o none (.st 2 (.t 4) (.t 15)) .nil)) <| .ret⟩
theorem c114_ok : compileF Tryz.prog Tryz.f114 = some c114 := by kernel_rfl
def c92 : SFn := ⟨27, [.t 2], .seq (.rg (.o none (.box 1 3 33 (.t 0)) <|
  .o none (.mv 2 (.c (.bool false))) .nil)) <| .seq (.rg (.o none (.fld 3 0 (.t 1)) <|
  .o none (.ld 4 2 true (.t 3)) <|
  .o none (.call (some 5) false (.c (.fn 151 [] [])) [(.t 4)]) <|
  .o none (.mv 6 (.t 5)) <|
  .o (some (6, true)) (.fld 7 2 (.t 1)) <|
  .o (some (6, true)) (.ld 8 1 false (.t 7)) <|
  .o (some (6, true)) (.call (some 9) false (.c (.fn 152 [] [])) [(.t 8)]) <|
  .o none (.pick 10 (.t 6) (.t 9) (.c (.bool false))) <|
  .o none (.mv 11 (.t 10)) <|
  .o (some (11, true)) (.fld 12 0 (.t 1)) <|
  .o (some (11, true)) (.fld 13 1 (.t 12)) <|
  .o (some (11, true)) (.ld 14 1 false (.t 13)) <|
  .o (some (11, true)) (.fld 15 2 (.t 1)) <|
  .o (some (11, true)) (.ld 16 1 false (.t 15)) <|
  .o (some (11, true)) (.call (some 17) false (.c (.fn 61 [] [])) [(.t 14), (.t 16)]) <|
  .o (some (11, true)) (.call (some 18) false (.c (.fn 60 [] [])) [(.c (.int .u64 1))]) <|
  .o (some (11, true)) (.call (some 19) false (.c (.fn 70 [] [])) [(.t 17), (.t 18)]) <|
  .o none (.pick 20 (.t 11) (.t 19) (.c (.bool false))) <|
  .o none (.mv 21 (.t 20)) <|
  .o (some (21, true)) (.fld 22 2 (.t 1)) <|
  .o (some (21, true)) (.ld 23 1 false (.t 22)) <|
  .o (some (21, true)) (.len 24 (.t 23)) <|
  .o (some (21, true)) (.bin 25 .gtr false (.t 24) (.c (.int .i64 0))) <|
  .o none (.pick 26 (.t 21) (.t 25) (.c (.bool false))) <|
  .o none (.mv 2 (.t 26)) .nil)) <| .ret⟩
theorem c92_ok : compileF Tryz.prog Tryz.f92 = some c92 := by kernel_rfl
def c87 : SFn := ⟨44, [.cell 4 3 true], .seq (.rg (.o none (.box 2 2 31 (.t 0)) <|
  .o none (.alloc 4 3 33 (.agg [(.bool false), .nilS, .nilS])) .nil)) <| .seq (.seq (.rg (.o none (.mv 12 (.t 1)) <|
  .o none (.call (some 13) false (.c (.fn 130 [] [])) [(.t 12)]) <|
  .o none (.len 14 (.t 13)) <|
  .o none (.bin 15 .eql false (.t 14) (.c (.int .i64 0))) .nil)) <| .cond (.t 15) (.seq (.rg (.o none (.call (some 16) false (.c (.fn 60 [] [])) [(.c (.int .u64 1))]) <|
  .o none (.bld 17 [(.bool false), .nilS, .nilS] [(2, 1, (.t 16))]) <|
  .o none (.st 3 (.t 4) (.t 17)) .nil)) <| .ret) (.skip)) <| .seq (.rg (.o none (.fld 18 1 (.t 2)) <|
  .o none (.ld 19 1 false (.t 18)) <|
  .o none (.mv 20 (.t 1)) <|
  .o none (.call (some 21) false (.c (.fn 61 [] [])) [(.t 19), (.t 20)]) <|
  .o none (.mv 5 (.t 21)) .nil)) <| .seq (.rg (.o none (.fld 23 1 (.t 2)) <|
  .o none (.ld 24 1 false (.t 23)) <|
  .o none (.mv 25 (.t 5)) <|
  .o none (.call (some 26) false (.c (.fn 62 [] [])) [(.t 24), (.t 25)]) <|
  .o none (.mv 22 (.t 26)) <|
  .o none (.ext 27 (.t 22) 0) <|
  .o none (.ext 28 (.t 22) 1) <|
  .o none (.ext 29 (.t 22) 2) <|
  .o none (.mv 6 (.t 27)) <|
  .o none (.mv 7 (.t 28)) <|
  .o none (.mv 8 (.t 29)) .nil)) <| .seq (.rg (.o none (.mv 31 (.t 1)) <|
  .o none (.mv 32 (.t 5)) <|
  .o none (.call (some 33) false (.c (.fn 62 [] [])) [(.t 31), (.t 32)]) <|
  .o none (.mv 30 (.t 33)) <|
  .o none (.ext 34 (.t 30) 0) <|
  .o none (.ext 35 (.t 30) 1) <|
  .o none (.ext 36 (.t 30) 2) <|
  .o none (.mv 9 (.t 34)) <|
  .o none (.mv 10 (.t 35)) <|
  .o none (.mv 11 (.t 36)) .nil)) <| .seq (.rg (.o none (.fld 37 0 (.t 2)) <|
  .o none (.ld 38 1 false (.t 37)) <|
  .o none (.mv 39 (.t 6)) <|
  .o none (.bld 40 [(.bool false), .nilS] [(0, 1, (.t 38)), (1, 1, (.t 39))]) <|
  .o none (.call (some 41) false (.c (.fn 136 [] [])) [(.t 40)]) <|
  .o none (.mv 42 (.t 9)) <|
  .o none (.bld 43 [(.bool false), .nilS, .nilS] [(0, 2, (.t 41)), (2, 1, (.t 42))]) <|
  .o none (.st 3 (.t 4) (.t 43)) .nil)) <| .ret⟩
theorem c87_ok : compileF Tryz.prog Tryz.f87 = some c87 := by kernel_rfl
def c113 : SFn := ⟨8, [.cell 2 3 true], .seq (.rg (.o none (.box 1 3 33 (.t 0)) <|
  .o none (.alloc 2 3 33 (.agg [(.bool false), .nilS, .nilS])) .nil)) <| .seq (.rg (.o none (.fld 3 0 (.t 1)) <|
  .o none (.ld 4 2 true (.t 3)) <|
  .o none (.fld 5 2 (.t 1)) <|
  .o none (.ld 6 1 false (.t 5)) <|
  .o none (.call (some 7) false (.c (.fn 87 [] [])) [(.t 4), (.t 6)]) <|
  .o none (.st 3 (.t 2) (.t 7)) .nil)) <| .ret⟩
theorem c113_ok : compileF Tryz.prog Tryz.f113 = some c113 := by kernel_rfl
def c65 : SFn := ⟨18, [.cell 4 3 true, .t 5], .seq (.rg (.o none (.box 2 2 31 (.t 0)) <|
  .o none (.box 3 2 31 (.t 1)) <|
  .o none (.alloc 4 3 33 (.agg [(.bool false), .nilS, .nilS])) <|
  .o none (.mv 5 (.c (.int .i64 0))) .nil)) <| .seq (.seq (.rg (.o none (.ld 6 2 true (.t 3)) <|
  .o none (.call (some 7) false (.c (.fn 66 [] [])) [(.t 6)]) <|
  .o none (.bin 8 .eql false (.t 7) (.c (.int .i64 0))) .nil)) <| .cond (.t 8) (.seq (.rg (.o none (.bld 9 [(.bool false), .nilS, .nilS] []) <|
  .o none (.st 3 (.t 4) (.t 9)) <|
  .o none (.mv 5 (.c (.int .i64 3))) .nil)) <| .ret) (.skip)) <| .seq (.seq (.rg (.o none (.fld 10 0 (.t 3)) <|
  .o none (.ld 11 1 false (.t 10)) .nil)) <| .cond (.t 11) (.rg (.o none (.ld 12 2 true (.t 2)) <|
  .o none (.call (some 13) false (.c (.fn 135 [] [])) [(.t 12)]) <|
  .o none (.st 2 (.t 2) (.t 13)) .nil)) (.skip)) <| .seq (.rg (.o none (.ld 14 2 true (.t 2)) <|
  .o none (.fld 15 1 (.t 3)) <|
  .o none (.ld 16 1 false (.t 15)) <|
  .o none (.call (some 17) false (.c (.fn 87 [] [])) [(.t 14), (.t 16)]) <|
  .o none (.st 3 (.t 4) (.t 17)) <|
  .o none (.mv 5 (.c (.int .i64 0))) .nil)) <| .ret⟩
theorem c65_ok : compileF Tryz.prog Tryz.f65 = some c65 := by kernel_rfl
def c36 : SFn := ⟨7, [.cell 2 3 true], .seq (.rg (.o none (.alloc 2 3 33 (.agg [(.bool false), .nilS, .nilS])) .nil)) <| .seq (.rg (.o none (.mv 3 (.t 0)) <|
  .o none (.call (some 4) false (.c (.fn 85 [] [])) [(.t 3)]) <|
  .o none (.call (some 5) false (.c (.fn 60 [] [])) [(.c (.int .u64 1))]) <|
  .o none (.call (some 6) false (.c (.fn 87 [] [])) [(.t 4), (.t 5)]) <|
  .o none (.st 3 (.t 2) (.t 6)) .nil)) <| .ret⟩
theorem c36_ok : compileF Tryz.prog Tryz.f36 = some c36 := by kernel_rfl
def c115 : SFn := ⟨5, [.cell 2 2 true], .seq (.rg (.o none (.alloc 2 2 31 (.agg [(.bool false), .nilS])) .nil)) <| .seq (.rg (.o none (.mv 3 (.t 0)) <|
  .o none (.bld 4 [(.bool false), .nilS] [(1, 1, (.t 3))]) <|
  .o none (.st 2 (.t 2) (.t 4)) .nil)) <| .ret⟩
theorem c115_ok : compileF Tryz.prog Tryz.f115 = some c115 := by kernel_rfl
def c93 : SFn := ⟨7, [.t 2], .seq (.rg (.o none (.box 1 3 33 (.t 0)) <|
  .o none (.mv 2 (.c (.int .i64 0))) .nil)) <| .seq (.rg (.o none (.ld 3 3 true (.t 1)) <|
  .o none (.call (some 4) false (.c (.fn 113 [] [])) [(.t 3)]) <|
  .o none (.fldv 5 0 2 true (.t 4)) <|
  .o none (.call (some 6) false (.c (.fn 66 [] [])) [(.t 5)]) <|
  .o none (.mv 2 (.t 6)) .nil)) <| .ret⟩
theorem c93_ok : compileF Tryz.prog Tryz.f93 = some c93 := by kernel_rfl
def c86 : SFn := ⟨22, [.t 4], .seq (.rg (.o none (.box 2 3 33 (.t 0)) <|
  .o none (.box 3 3 33 (.t 1)) <|
  .o none (.mv 4 (.c (.int .i64 0))) .nil)) <| .seq (.rg (.o none (.ld 5 3 true (.t 2)) <|
  .o none (.ld 7 3 true (.t 3)) <|
  .o none (.call (some 6) true (.c (.fn 113 [] [])) [(.t 5)]) <|
  .o none (.call (some 8) true (.c (.fn 113 [] [])) [(.t 7)]) <|
  .o none (.st 3 (.t 2) (.t 6)) <|
  .o none (.st 3 (.t 3) (.t 8)) .nil)) <| .seq (.rg (.o none (.fld 9 0 (.t 2)) <|
  .o none (.ld 10 2 true (.t 9)) <|
  .o none (.fld 11 2 (.t 3)) <|
  .o none (.ld 12 1 false (.t 11)) <|
  .o none (.fld 15 0 (.t 3)) <|
  .o none (.ld 16 2 true (.t 15)) <|
  .o none (.fld 17 2 (.t 2)) <|
  .o none (.ld 18 1 false (.t 17)) <|
  .o none (.call (some 13) true (.c (.fn 115 [] [])) [(.t 12)]) <|
  .o none (.call (some 14) true (.c (.fn 114 [] [])) [(.t 10), (.t 13)]) <|
  .o none (.call (some 19) true (.c (.fn 115 [] [])) [(.t 18)]) <|
  .o none (.call (some 20) true (.c (.fn 114 [] [])) [(.t 16), (.t 19)]) <|
  .o none (.call (some 21) true (.c (.fn 146 [] [])) [(.t 14), (.t 20)]) <|
  .o none (.mv 4 (.t 21)) .nil)) <| .ret⟩
theorem c86_ok : compileF Tryz.prog Tryz.f86 = some c86 := by kernel_rfl
def c35 : SFn := ⟨9, [.t 4], .seq (.rg (.o none (.box 2 3 33 (.t 0)) <|
  .o none (.box 3 3 33 (.t 1)) <|
  .o none (.mv 4 (.c (.bool false))) .nil)) <| .seq (.rg (.o none (.ld 5 3 true (.t 2)) <|
  .o none (.ld 6 3 true (.t 3)) <|
  .o none (.call (some 7) false (.c (.fn 86 [] [])) [(.t 5), (.t 6)]) <|
  .o none (.bin 8 .eql false (.t 7) (.c (.int .i64 0))) <|
  .o none (.mv 4 (.t 8)) .nil)) <| .ret⟩
theorem c35_ok : compileF Tryz.prog Tryz.f35 = some c35 := by kernel_rfl
def c102 : SFn := ⟨28, [.cell 4 3 true], .seq (.rg (.o none (.box 2 3 33 (.t 0)) <|
  .o none (.box 3 3 33 (.t 1)) <|
  .o none (.alloc 4 3 33 (.agg [(.bool false), .nilS, .nilS])) .nil)) <| .seq (.rg (.o none (.ld 5 3 true (.t 2)) <|
  .o none (.ld 7 3 true (.t 3)) <|
  .o none (.call (some 6) true (.c (.fn 113 [] [])) [(.t 5)]) <|
  .o none (.call (some 8) true (.c (.fn 113 [] [])) [(.t 7)]) <|
  .o none (.st 3 (.t 2) (.t 6)) <|
  .o none (.st 3 (.t 3) (.t 8)) .nil)) <| .seq (.rg (.o none (.fld 9 0 (.t 2)) <|
  .o none (.ld 10 2 true (.t 9)) <|
  .o none (.fld 11 2 (.t 3)) <|
  .o none (.ld 12 1 false (.t 11)) <|
  .o none (.fld 15 0 (.t 3)) <|
  .o none (.ld 16 2 true (.t 15)) <|
  .o none (.fld 17 2 (.t 2)) <|
  .o none (.ld 18 1 false (.t 17)) <|
  .o none (.fld 22 2 (.t 2)) <|
  .o none (.ld 23 1 false (.t 22)) <|
  .o none (.fld 24 2 (.t 3)) <|
  .o none (.ld 25 1 false (.t 24)) <|
  .o none (.call (some 13) true (.c (.fn 115 [] [])) [(.t 12)]) <|
  .o none (.call (some 14) true (.c (.fn 114 [] [])) [(.t 10), (.t 13)]) <|
  .o none (.call (some 19) true (.c (.fn 115 [] [])) [(.t 18)]) <|
  .o none (.call (some 20) true (.c (.fn 114 [] [])) [(.t 16), (.t 19)]) <|
  .o none (.call (some 21) true (.c (.fn 157 [] [])) [(.t 14), (.t 20)]) <|
  .o none (.call (some 26) true (.c (.fn 63 [] [])) [(.t 23), (.t 25)]) <|
  .o none (.call (some 27) true (.c (.fn 87 [] [])) [(.t 21), (.t 26)]) <|
  .o none (.st 3 (.t 4) (.t 27)) .nil)) <| .ret⟩
theorem c102_ok : compileF Tryz.prog Tryz.f102 = some c102 := by kernel_rfl
def c64 : SFn := ⟨16, [.cell 4 3 true], .seq (.rg (.o none (.box 2 3 33 (.t 0)) <|
  .o none (.box 3 3 33 (.t 1)) <|
  .o none (.alloc 4 3 33 (.agg [(.bool false), .nilS, .nilS])) .nil)) <| .seq (.rg (.o none (.fld 5 0 (.t 2)) <|
  .o none (.ld 6 2 true (.t 5)) <|
  .o none (.fld 7 0 (.t 3)) <|
  .o none (.ld 8 2 true (.t 7)) <|
  .o none (.fld 10 2 (.t 2)) <|
  .o none (.ld 11 1 false (.t 10)) <|
  .o none (.fld 12 2 (.t 3)) <|
  .o none (.ld 13 1 false (.t 12)) <|
  .o none (.call (some 9) true (.c (.fn 114 [] [])) [(.t 6), (.t 8)]) <|
  .o none (.call (some 14) true (.c (.fn 63 [] [])) [(.t 11), (.t 13)]) <|
  .o none (.call (some 15) true (.c (.fn 87 [] [])) [(.t 9), (.t 14)]) <|
  .o none (.st 3 (.t 4) (.t 15)) .nil)) <| .ret⟩
theorem c64_ok : compileF Tryz.prog Tryz.f64 = some c64 := by kernel_rfl
end Go.Proofs.YtjkbalanglgoiaaGreat
namespace Go.Proofs.YtjkbalanglgoiaaGreat
open Go Go.FW
set_option linter.unusedSimpArgs false
set_option linter.unusedVariables false
set_option maxRecDepth 100000
theorem r1_Norm_spec {l : List Nat} (hv : limbs l) (hl : l.length < 2 ^ 42) : FnSpec Tryz.prog 130 [PV.nat l] (· = PV.num (val l)) := by
  have hcut := cut_all hv
  refine fn_of_vc mixed Tryz.func130 rfl c130_ok (by simp [c130]) fun C hP => ?_; simp only [c130]
  simp +decide (disch := first | omega | rfl | (simp +decide only [go_sem, ↓reduceIte] <;> rfl) | fail) only [go_sem, ↓reduceIte, rem64K, quo64K, remI64K, quoI64K, mulK64, mk_empty, sl_3n, app_nil_map, mk_i64, max_nat]
  refine vc_loopF (by repeat (first | exact okSk_ret | exact okSk_retM | exact okSk_retO | apply okSk_back | apply okSk_out | apply okSk_eb | apply okSk_c | apply okSk_o | apply okSk_again | apply okSk_backW)) [(3, 3), (7, 18)] [] (fun m J hp => m ≤ l.length ∧ cut l m = dig (val l) ∧ J 3 = .int .i64 m ∧ hp = hp0) l.length ?_ ?_
  · refine ⟨Nat.le_refl _, hcut, ?_⟩
    simp +decide (disch := first | omega | rfl | (simp +decide only [go_sem, ↓reduceIte] <;> rfl) | fail) only [go_sem, ↓reduceIte, rem64K, quo64K, remI64K, quoI64K, mulK64, mk_empty, sl_3n, app_nil_map, mk_i64, max_nat]
  rintro n J _ ⟨hn, hc, h3, rfl⟩
  simp +decide (disch := first | omega | rfl | (simp +decide only [go_sem, ↓reduceIte, h3] <;> rfl) | fail) only [go_sem, ↓reduceIte, rem64K, quo64K, remI64K, quoI64K, mulK64, mk_empty, sl_3n, app_nil_map, mk_i64, max_nat, h3]
  refine guard_split (fun hg => ?_) (fun hg => ?_)
  · obtain _ | n := n
    · omega
    have e : ((n + 1 : Nat) : Int) - 1 = n := by omega
    simp only [cut] at hc
    simp +decide (disch := first | omega | rfl | (simp +decide only [go_sem, ↓reduceIte, h3, e] <;> rfl) | fail) only [go_sem, ↓reduceIte, rem64K, quo64K, remI64K, quoI64K, mulK64, mk_empty, sl_3n, app_nil_map, mk_i64, max_nat, h3, e]
    refine cond_split (fun hz => ?_) (fun hz => ?_)
    · rw [if_pos (by grind)] at hc
      simp +decide (disch := first | omega | rfl | (simp +decide only [go_sem, ↓reduceIte, h3, e] <;> rfl) | fail) only [go_sem, ↓reduceIte, rem64K, quo64K, remI64K, quoI64K, mulK64, mk_empty, sl_3n, app_nil_map, mk_i64, max_nat, h3, e]
      refine back_ovr n (by omega) ⟨by omega, hc, ?_⟩
      simp +decide (disch := first | omega | rfl | (simp +decide only [go_sem, ↓reduceIte] <;> rfl) | fail) only [go_sem, ↓reduceIte, rem64K, quo64K, remI64K, quoI64K, mulK64, mk_empty, sl_3n, app_nil_map, mk_i64, max_nat]
    · rw [if_neg (by grind)] at hc
      have hlt : (l.take (n + 1)).length < 2 ^ 42 := by rw [List.length_take]; omega
      simp +decide (disch := first | omega | rfl | (simp +decide only [go_sem, ↓reduceIte, h3, e, looks3, List.contains_cons, List.contains_nil, List.flatMap_cons, List.flatMap_nil, List.append_nil] <;> rfl) | fail) only [go_sem, ↓reduceIte, rem64K, quo64K, remI64K, quoI64K, mulK64, mk_empty, sl_3n, app_nil_map, mk_i64, max_nat, h3, e, looks3, List.contains_cons, List.contains_nil, List.flatMap_cons, List.flatMap_nil, List.append_nil]
      exact retV_eq (by rw [List.take_of_length_le (by simp), hc]) rfl
  · obtain rfl : n = 0 := by omega
    simp +decide (disch := first | omega | rfl | (simp +decide only [go_sem, ↓reduceIte, h3, List.take_zero, List.map_nil, List.length_nil] <;> rfl) | fail) only [go_sem, ↓reduceIte, rem64K, quo64K, remI64K, quoI64K, mulK64, mk_empty, sl_3n, app_nil_map, mk_i64, max_nat, h3, List.take_zero, List.map_nil, List.length_nil]
    rw [app_nil_eq (ys := []) rfl (by omega) (by simp) (by simp)]
    simp +decide (disch := first | omega | rfl | (simp +decide only [go_sem, ↓reduceIte, looks3, List.contains_cons, List.contains_nil, List.flatMap_cons, List.flatMap_nil, List.append_nil] <;> rfl) | fail) only [go_sem, ↓reduceIte, rem64K, quo64K, remI64K, quoI64K, mulK64, mk_empty, sl_3n, app_nil_map, mk_i64, max_nat, looks3, List.contains_cons, List.contains_nil, List.flatMap_cons, List.flatMap_nil, List.append_nil]
    exact retV_eq (by show _ = PV.nat (dig (val l)); rw [← hc]; rfl) rfl
theorem r1_Of_spec {n : Nat} (hn : n < 18446744073709551616) : FnSpec Tryz.prog 60 [.int .u64 n] (· = PV.num n) := by
  have hlen := nl_small hn
  unfold nl at hlen
  refine fn_of_vc mixed Tryz.func60 rfl c60_ok (by simp [c60]) fun C hP => ?_; simp only [c60]
  simp +decide (disch := first | omega | rfl | (simp +decide only [go_sem, ↓reduceIte] <;> rfl) | fail) only [go_sem, ↓reduceIte, rem64K, quo64K, remI64K, quoI64K, mulK64, mk_empty, sl_3n, app_nil_map, mk_i64, max_nat]
  refine vc_nilF 3 900 1 111 (by omega) (by simp +decide (disch := first | omega | rfl | (simp +decide only [go_sem, ↓reduceIte] <;> rfl) | fail) only [go_sem, ↓reduceIte, rem64K, quo64K, remI64K, quoI64K, mulK64, mk_empty, sl_3n, app_nil_map, mk_i64, max_nat]) ?_
  refine vc_loopF (by repeat (first | exact okSk_ret | exact okSk_retM | exact okSk_retO | apply okSk_back | apply okSk_out | apply okSk_eb | apply okSk_c | apply okSk_o | apply okSk_again | apply okSk_backW)) [(0, 0), (3, 13)] [10, 11, 900] (fun m J hp => ∃ done : List Nat, dig n = done ++ dig m ∧ m ≤ n ∧ J 0 = .int .u64 m ∧ J 3 = .ms 900 done.length ∧ hp 900 = some ⟨1, 111, u16s done, false⟩) n ?_ ?_
  · refine ⟨[], rfl, Nat.le_refl _, ?_⟩
    simp +decide (disch := first | omega | rfl | (simp +decide only [go_sem, ↓reduceIte] <;> rfl) | fail) only [go_sem, ↓reduceIte, rem64K, quo64K, remI64K, quoI64K, mulK64, mk_empty, sl_3n, app_nil_map, mk_i64, max_nat]
  rintro m J hp ⟨done, hd, hm, h0, h3, hh⟩
  rw [hd, List.length_append] at hlen
  simp +decide (disch := first | omega | rfl | (simp +decide only [go_sem, ↓reduceIte, h0, h3] <;> rfl) | fail) only [go_sem, ↓reduceIte, rem64K, quo64K, remI64K, quoI64K, mulK64, mk_empty, sl_3n, app_nil_map, mk_i64, max_nat, h0, h3]
  refine cond_split (fun hz => ?_) (fun hz => ?_)
  · have hne : m ≠ 0 := by omega
    have hd2 : dig n = (done ++ [m % 65536]) ++ dig (m / 65536) := by rw [hd, dig_pos hne]; simp
    simp +decide (disch := first | omega | rfl | (simp +decide only [go_sem, ↓reduceIte, h0, h3, Nat.mod_mod] <;> rfl) | fail) only [go_sem, ↓reduceIte, rem64K, quo64K, remI64K, quoI64K, mulK64, mk_empty, sl_3n, app_nil_map, mk_i64, max_nat, h0, h3, Nat.mod_mod]
    rw [app_push_map (f := fun (x : Nat) => .int .u16 x) (y := m % 65536) (xs := done) (ty' := 111) (fz := false) (by simp +decide (disch := first | omega | rfl | (simp +decide only [go_sem, ↓reduceIte, hh] <;> rfl) | fail) only [go_sem, ↓reduceIte, rem64K, quo64K, remI64K, quoI64K, mulK64, mk_empty, sl_3n, app_nil_map, mk_i64, max_nat, hh]) (by simp +decide (disch := first | omega | rfl | (simp +decide only [go_sem, ↓reduceIte] <;> rfl) | fail) only [go_sem, ↓reduceIte, rem64K, quo64K, remI64K, quoI64K, mulK64, mk_empty, sl_3n, app_nil_map, mk_i64, max_nat] <;> rfl) (by omega) rfl (by omega) (by omega)]
    simp +decide (disch := first | omega | rfl | (simp +decide only [go_sem, ↓reduceIte, h0, h3] <;> rfl) | fail) only [go_sem, ↓reduceIte, rem64K, quo64K, remI64K, quoI64K, mulK64, mk_empty, sl_3n, app_nil_map, mk_i64, max_nat, h0, h3]
    refine back_ovr (m / 65536) (by omega) ⟨done ++ [m % 65536], hd2, by omega, ?_⟩
    simp +decide (disch := first | omega | rfl | (simp +decide only [go_sem, ↓reduceIte, h0, h3] <;> rfl) | fail) only [go_sem, ↓reduceIte, rem64K, quo64K, remI64K, quoI64K, mulK64, mk_empty, sl_3n, app_nil_map, mk_i64, max_nat, h0, h3]
    simp
  · obtain rfl : m = 0 := by omega
    rw [dig_zero, List.append_nil] at hd
    simp +decide (disch := first | omega | rfl | (simp +decide only [go_sem, ↓reduceIte, h3, hh, looks3, List.contains_cons, List.contains_nil, List.flatMap_cons, List.flatMap_nil, List.append_nil] <;> rfl) | fail) only [go_sem, ↓reduceIte, rem64K, quo64K, remI64K, quoI64K, mulK64, mk_empty, sl_3n, app_nil_map, mk_i64, max_nat, h3, hh, looks3, List.contains_cons, List.contains_nil, List.flatMap_cons, List.flatMap_nil, List.append_nil]
    exact retV_eq (by show _ = PV.nat (dig n); rw [hd, List.take_of_length_le (by simp)]) rfl
theorem r1_limb_spec {a : List Nat} {i : Nat} (ha : limbs a) (hl : a.length < 2 ^ 43) : FnSpec Tryz.prog 134 [PV.nat a, .int .i64 i] (· = .int .i64 (dg a i : Nat)) := by
  refine fn_of_vc mixed Tryz.func134 rfl c134_ok (by simp [c134]) fun C hP => ?_; simp only [c134]
  simp +decide (disch := first | omega | rfl | (simp +decide only [go_sem, ↓reduceIte] <;> rfl) | fail) only [go_sem, ↓reduceIte, rem64K, quo64K, remI64K, quoI64K, mulK64, mk_empty, sl_3n, app_nil_map, mk_i64, max_nat]
  refine cond_split (fun hi => ?_) (fun hi => ?_)
  · have hi' : i < a.length := by omega
    have hai := limbs_get ha hi'
    have hg : dg a i = a[i] := getD_lt hi'
    simp +decide (disch := first | omega | rfl | (simp +decide only [go_sem, ↓reduceIte] <;> rfl) | fail) only [go_sem, ↓reduceIte, rem64K, quo64K, remI64K, quoI64K, mulK64, mk_empty, sl_3n, app_nil_map, mk_i64, max_nat]
    exact retV_eq (by rw [hg]) rfl
  · simp +decide (disch := first | omega | rfl | (simp +decide only [go_sem, ↓reduceIte] <;> rfl) | fail) only [go_sem, ↓reduceIte, rem64K, quo64K, remI64K, quoI64K, mulK64, mk_empty, sl_3n, app_nil_map, mk_i64, max_nat]
    exact retV_eq (by rw [dg, getD_ge (by omega)]; rfl) rfl
theorem r1_short_spec {a : List Nat} (ha : limbs a) (hl : a.length ≤ 4) : FnSpec Tryz.prog 131 [PV.nat a] (· = .int .u64 (val a : Nat)) := by
  have hlt : ∀ k, val (a.drop k) < 18446744073709551616 := fun k => by
    have h1 := val_lt (limbs_drop ha k)
    have : 65536 ^ (a.drop k).length ≤ 65536 ^ 4 := Nat.pow_le_pow_right (by omega) (by rw [List.length_drop]; omega)
    omega
  refine fn_of_vc mixed Tryz.func131 rfl c131_ok (by simp [c131]) fun C hP => ?_; simp only [c131]
  simp +decide (disch := first | omega | rfl | (simp +decide only [go_sem, ↓reduceIte] <;> rfl) | fail) only [go_sem, ↓reduceIte, rem64K, quo64K, remI64K, quoI64K, mulK64, mk_empty, sl_3n, app_nil_map, mk_i64, max_nat]
  refine vc_loopF (by repeat (first | exact okSk_ret | exact okSk_retM | exact okSk_retO | apply okSk_back | apply okSk_out | apply okSk_eb | apply okSk_c | apply okSk_o | apply okSk_again | apply okSk_backW)) [(3, 4), (8, 19)] [] (fun k J hp => k ≤ a.length ∧ J 3 = .int .u64 (val (a.drop k) : Nat) ∧ J 4 = .int .i64 ((k : Int) - 1)) a.length ?_ ?_
  · refine ⟨Nat.le_refl _, ?_⟩
    simp +decide (disch := first | omega | rfl | (simp +decide only [go_sem, ↓reduceIte] <;> rfl) | fail) only [go_sem, ↓reduceIte, rem64K, quo64K, remI64K, quoI64K, mulK64, mk_empty, sl_3n, app_nil_map, mk_i64, max_nat]
    simp [val]
  rintro k J h ⟨hk, h3, h4⟩
  simp +decide (disch := first | omega | rfl | (simp +decide only [go_sem, ↓reduceIte, h3, h4] <;> rfl) | fail) only [go_sem, ↓reduceIte, rem64K, quo64K, remI64K, quoI64K, mulK64, mk_empty, sl_3n, app_nil_map, mk_i64, max_nat, h3, h4]
  refine cond_split (fun hg => ?_) (fun hg => ?_)
  · obtain _ | n := k
    · omega
    have hn : n < a.length := by omega
    have han := limbs_get ha hn
    have e : ((n + 1 : Nat) : Int) - 1 = n := by omega
    have hv := val_drop hn
    have h1 := hlt n
    generalize hxx : a[n] = x at *
    have e2 : val (a.drop (n + 1)) * 65536 + x = val (a.drop n) := by omega
    simp +decide (disch := first | omega | rfl | (simp +decide only [go_sem, ↓reduceIte, h3, h4, e, hxx, e2] <;> rfl) | fail) only [go_sem, ↓reduceIte, rem64K, quo64K, remI64K, quoI64K, mulK64, mk_empty, sl_3n, app_nil_map, mk_i64, max_nat, h3, h4, e, hxx, e2]
    refine back_ovr n (by omega) ⟨by omega, ?_⟩
    simp +decide (disch := first | omega | rfl | (simp +decide only [go_sem, ↓reduceIte] <;> rfl) | fail) only [go_sem, ↓reduceIte, rem64K, quo64K, remI64K, quoI64K, mulK64, mk_empty, sl_3n, app_nil_map, mk_i64, max_nat]
  · obtain rfl : k = 0 := by omega
    simp +decide (disch := first | omega | rfl | (simp +decide only [go_sem, ↓reduceIte, h3, List.drop_zero] <;> rfl) | fail) only [go_sem, ↓reduceIte, rem64K, quo64K, remI64K, quoI64K, mulK64, mk_empty, sl_3n, app_nil_map, mk_i64, max_nat, h3, List.drop_zero]
    exact retV_eq rfl rfl
theorem r1_Cmp_spec {a b : List Nat} (ha : limbs a) (hb : limbs b) (hla : a.length < 2 ^ 42) (hlb : b.length < 2 ^ 42) : FnSpec Tryz.prog 167 [PV.nat a, PV.nat b] (· = .int .i64 (cmpI (val a) (val b))) := by
  refine fn_of_vc mixed Tryz.func167 rfl c167_ok (by simp [c167]) fun C hP => ?_; simp only [c167]
  simp +decide (disch := first | omega | rfl | (simp +decide only [go_sem, ↓reduceIte, max_nat] <;> rfl) | fail) only [go_sem, ↓reduceIte, rem64K, quo64K, remI64K, quoI64K, mulK64, mk_empty, sl_3n, app_nil_map, mk_i64, max_nat, max_nat]
  refine vc_loopF (by repeat (first | exact okSk_ret | exact okSk_retM | exact okSk_retO | apply okSk_back | apply okSk_out | apply okSk_eb | apply okSk_c | apply okSk_o | apply okSk_again | apply okSk_backW)) [(4, 5), (12, 29)] [] (fun k J hp => k ≤ max a.length b.length ∧ val (a.drop k) = val (b.drop k) ∧ J 5 = .int .i64 ((k : Int) - 1)) (max a.length b.length) ?_ ?_
  · refine ⟨Nat.le_refl _, ?_, ?_⟩
    · rw [List.drop_of_length_le (by omega), List.drop_of_length_le (by omega)]
    · simp +decide (disch := first | omega | rfl | (simp +decide only [go_sem, ↓reduceIte] <;> rfl) | fail) only [go_sem, ↓reduceIte, rem64K, quo64K, remI64K, quoI64K, mulK64, mk_empty, sl_3n, app_nil_map, mk_i64, max_nat]
  rintro k J h ⟨hk, hv, h5⟩
  simp +decide (disch := first | omega | rfl | (simp +decide only [go_sem, ↓reduceIte, h5] <;> rfl) | fail) only [go_sem, ↓reduceIte, rem64K, quo64K, remI64K, quoI64K, mulK64, mk_empty, sl_3n, app_nil_map, mk_i64, max_nat, h5]
  refine cond_split (fun hg => ?_) (fun hg => ?_)
  · obtain _ | n := k
    · omega
    have e : ((n + 1 : Nat) : Int) - 1 = n := by omega
    have e1 := val_dropD a n
    have e2 := val_dropD b n
    have d1 := dg_lt ha n
    have d2 := dg_lt hb n
    simp +decide (disch := first | omega | rfl | (simp +decide only [go_sem, ↓reduceIte, h5, e] <;> rfl) | fail) only [go_sem, ↓reduceIte, rem64K, quo64K, remI64K, quoI64K, mulK64, mk_empty, sl_3n, app_nil_map, mk_i64, max_nat, h5, e]
    refine call_eq0 hP (r1_limb_spec ha (by omega)) rfl rfl rfl ?_
    simp +decide (disch := first | omega | rfl | (simp +decide only [go_sem, ↓reduceIte, h5, e] <;> rfl) | fail) only [go_sem, ↓reduceIte, rem64K, quo64K, remI64K, quoI64K, mulK64, mk_empty, sl_3n, app_nil_map, mk_i64, max_nat, h5, e]
    refine call_eq0 hP (r1_limb_spec hb (by omega)) rfl rfl rfl ?_
    simp +decide (disch := first | omega | rfl | (simp +decide only [go_sem, ↓reduceIte, h5, e] <;> rfl) | fail) only [go_sem, ↓reduceIte, rem64K, quo64K, remI64K, quoI64K, mulK64, mk_empty, sl_3n, app_nil_map, mk_i64, max_nat, h5, e]
    refine cond_split (fun hc => ?_) (fun hc => ?_)
    · have hlt := lt_of_dropD (a := a) (b := b) ha (i := n) (by omega)
      simp +decide (disch := first | omega | rfl | (simp +decide only [go_sem, ↓reduceIte] <;> rfl) | fail) only [go_sem, ↓reduceIte, rem64K, quo64K, remI64K, quoI64K, mulK64, mk_empty, sl_3n, app_nil_map, mk_i64, max_nat]
      exact retV_eq (by rw [cmpI_lt hlt]) rfl
    simp +decide (disch := first | omega | rfl | (simp +decide only [go_sem, ↓reduceIte, h5, e] <;> rfl) | fail) only [go_sem, ↓reduceIte, rem64K, quo64K, remI64K, quoI64K, mulK64, mk_empty, sl_3n, app_nil_map, mk_i64, max_nat, h5, e]
    refine call_eq0 hP (r1_limb_spec ha (by omega)) rfl rfl rfl ?_
    simp +decide (disch := first | omega | rfl | (simp +decide only [go_sem, ↓reduceIte, h5, e] <;> rfl) | fail) only [go_sem, ↓reduceIte, rem64K, quo64K, remI64K, quoI64K, mulK64, mk_empty, sl_3n, app_nil_map, mk_i64, max_nat, h5, e]
    refine call_eq0 hP (r1_limb_spec hb (by omega)) rfl rfl rfl ?_
    simp +decide (disch := first | omega | rfl | (simp +decide only [go_sem, ↓reduceIte, h5, e] <;> rfl) | fail) only [go_sem, ↓reduceIte, rem64K, quo64K, remI64K, quoI64K, mulK64, mk_empty, sl_3n, app_nil_map, mk_i64, max_nat, h5, e]
    refine cond_split (fun hc2 => ?_) (fun hc2 => ?_)
    · have hlt := lt_of_dropD (a := b) (b := a) hb (i := n) (by omega)
      simp +decide (disch := first | omega | rfl | (simp +decide only [go_sem, ↓reduceIte] <;> rfl) | fail) only [go_sem, ↓reduceIte, rem64K, quo64K, remI64K, quoI64K, mulK64, mk_empty, sl_3n, app_nil_map, mk_i64, max_nat]
      exact retV_eq (by rw [cmpI_gt hlt]) rfl
    · simp +decide (disch := first | omega | rfl | (simp +decide only [go_sem, ↓reduceIte, h5, e] <;> rfl) | fail) only [go_sem, ↓reduceIte, rem64K, quo64K, remI64K, quoI64K, mulK64, mk_empty, sl_3n, app_nil_map, mk_i64, max_nat, h5, e]
      refine back_ovr n (by omega) ⟨by omega, by omega, ?_⟩
      simp +decide (disch := first | omega | rfl | (simp +decide only [go_sem, ↓reduceIte] <;> rfl) | fail) only [go_sem, ↓reduceIte, rem64K, quo64K, remI64K, quoI64K, mulK64, mk_empty, sl_3n, app_nil_map, mk_i64, max_nat]
  · obtain rfl : k = 0 := by omega
    simp +decide (disch := first | omega | rfl | (simp +decide only [go_sem, ↓reduceIte] <;> rfl) | fail) only [go_sem, ↓reduceIte, rem64K, quo64K, remI64K, quoI64K, mulK64, mk_empty, sl_3n, app_nil_map, mk_i64, max_nat]
    exact retV_eq (by rw [cmpI_eq (by simpa using hv)]) rfl
end Go.Proofs.YtjkbalanglgoiaaGreat
namespace Go.Proofs.YtjkbalanglgoiaaGreat
open Go Go.FW
set_option linter.unusedSimpArgs false
set_option linter.unusedVariables false
set_option maxRecDepth 100000
theorem r1_Valid_spec {a : List Nat} (ha : limbs a) (hl : a.length < 2 ^ 43) : FnSpec Tryz.prog 152 [PV.nat a] (· = .bool (decide (a.getLast? ≠ some 0))) := by
  refine fn_of_vc mixed Tryz.func152 rfl c152_ok (by simp [c152]) fun C hP => ?_; simp only [c152]
  simp +decide (disch := first | omega | rfl | (simp +decide only [go_sem, ↓reduceIte] <;> rfl) | fail) only [go_sem, ↓reduceIte, rem64K, quo64K, remI64K, quoI64K, mulK64, mk_empty, sl_3n, app_nil_map, mk_i64, max_nat]
  refine guard_splitF (fun h0 => ?_) (fun h0 => ?_)
  · have : a = [] := List.length_eq_zero_iff.1 (by omega)
    subst this
    simp +decide (disch := first | omega | rfl | (simp +decide only [go_sem, ↓reduceIte] <;> rfl) | fail) only [go_sem, ↓reduceIte, rem64K, quo64K, remI64K, quoI64K, mulK64, mk_empty, sl_3n, app_nil_map, mk_i64, max_nat]
    exact retV_eq (by simp) rfl
  · obtain ⟨k, hk⟩ : ∃ k, a.length = k + 1 := ⟨a.length - 1, by omega⟩
    have hlast := last_get hk
    have e : ((k + 1 : Nat) : Int) - 1 = k := by omega
    generalize hy : a[k]'(by omega) = y at *
    simp +decide (disch := first | omega | rfl | (simp +decide only [go_sem, ↓reduceIte, hk, e, hy] <;> rfl) | fail) only [go_sem, ↓reduceIte, rem64K, quo64K, remI64K, quoI64K, mulK64, mk_empty, sl_3n, app_nil_map, mk_i64, max_nat, hk, e, hy]
    refine retV_eq (congrArg PV.bool ?_) rfl
    rw [hlast]
    exact decide_eq_decide.2 ⟨fun h h' => h (by injection h' with h'; rw [h']; rfl), fun h h' => h (by rw [show y = 0 by omega])⟩
theorem r1_Same_spec {a b : List Nat} (hla : a.length < 2 ^ 43) (hlb : b.length < 2 ^ 43) : FnSpec Tryz.prog 70 [PV.nat a, PV.nat b] (· = .bool (decide (a = b))) := by
  refine fn_of_vc mixed Tryz.func70 rfl c70_ok (by simp [c70]) fun C hP => ?_; simp only [c70]
  simp +decide (disch := first | omega | rfl | (simp +decide only [go_sem, ↓reduceIte] <;> rfl) | fail) only [go_sem, ↓reduceIte, rem64K, quo64K, remI64K, quoI64K, mulK64, mk_empty, sl_3n, app_nil_map, mk_i64, max_nat]
  refine cond_split (fun h0 => ?_) (fun h0 => ?_)
  · simp +decide (disch := first | omega | rfl | (simp +decide only [go_sem, ↓reduceIte] <;> rfl) | fail) only [go_sem, ↓reduceIte, rem64K, quo64K, remI64K, quoI64K, mulK64, mk_empty, sl_3n, app_nil_map, mk_i64, max_nat]
    exact retV_eq (congrArg PV.bool (by rw [decide_eq_false]; rintro rfl; exact h0 rfl)) rfl
  have hlen : a.length = b.length := by omega
  simp +decide (disch := first | omega | rfl | (simp +decide only [go_sem, ↓reduceIte] <;> rfl) | fail) only [go_sem, ↓reduceIte, rem64K, quo64K, remI64K, quoI64K, mulK64, mk_empty, sl_3n, app_nil_map, mk_i64, max_nat]
  refine vc_loopF (by repeat (first | exact okSk_ret | exact okSk_retM | exact okSk_retO | apply okSk_back | apply okSk_out | apply okSk_eb | apply okSk_c | apply okSk_o | apply okSk_again | apply okSk_backW)) [(4, 5), (11, 25)] [] (fun n J hp => ∃ i, n = a.length - i ∧ i ≤ a.length ∧ a.take i = b.take i ∧ J 5 = .int .i64 (i : Nat)) a.length ?_ ?_
  · refine ⟨0, rfl, by omega, by simp, ?_⟩
    simp +decide (disch := first | omega | rfl | (simp +decide only [go_sem, ↓reduceIte] <;> rfl) | fail) only [go_sem, ↓reduceIte, rem64K, quo64K, remI64K, quoI64K, mulK64, mk_empty, sl_3n, app_nil_map, mk_i64, max_nat]
    rfl
  rintro _ J h ⟨i, rfl, hi, he, h5⟩
  simp +decide (disch := first | omega | rfl | (simp +decide only [go_sem, ↓reduceIte, h5] <;> rfl) | fail) only [go_sem, ↓reduceIte, rem64K, quo64K, remI64K, quoI64K, mulK64, mk_empty, sl_3n, app_nil_map, mk_i64, max_nat, h5]
  refine cond_split (fun hg => ?_) (fun hg => ?_)
  · have hi' : i < a.length := by omega
    have hib : i < b.length := by omega
    have ta := List.take_succ_eq_append_getElem hi'
    have tb := List.take_succ_eq_append_getElem hib
    have hne : a = b → a[i] = b[i] := fun h => by subst h; rfl
    generalize hx : a[i] = x at *
    generalize hy : b[i] = y at *
    simp +decide (disch := first | omega | rfl | (simp +decide only [go_sem, ↓reduceIte, h5, hx, hy] <;> rfl) | fail) only [go_sem, ↓reduceIte, rem64K, quo64K, remI64K, quoI64K, mulK64, mk_empty, sl_3n, app_nil_map, mk_i64, max_nat, h5, hx, hy]
    refine cond_split (fun hc => ?_) (fun hc => ?_)
    · simp +decide (disch := first | omega | rfl | (simp +decide only [go_sem, ↓reduceIte] <;> rfl) | fail) only [go_sem, ↓reduceIte, rem64K, quo64K, remI64K, quoI64K, mulK64, mk_empty, sl_3n, app_nil_map, mk_i64, max_nat]
      exact retV_eq (congrArg PV.bool (by rw [decide_eq_false]; intro h; exact hc (by rw [hne h]))) rfl
    · simp +decide (disch := first | omega | rfl | (simp +decide only [go_sem, ↓reduceIte, h5] <;> rfl) | fail) only [go_sem, ↓reduceIte, rem64K, quo64K, remI64K, quoI64K, mulK64, mk_empty, sl_3n, app_nil_map, mk_i64, max_nat, h5]
      refine back_ovr (a.length - (i + 1)) (by omega) ⟨i + 1, rfl, by omega, by rw [ta, tb, he, show x = y by omega], ?_⟩
      simp +decide (disch := first | omega | rfl | (simp +decide only [go_sem, ↓reduceIte] <;> rfl) | fail) only [go_sem, ↓reduceIte, rem64K, quo64K, remI64K, quoI64K, mulK64, mk_empty, sl_3n, app_nil_map, mk_i64, max_nat]
  · obtain rfl : i = a.length := by omega
    rw [List.take_length, hlen, List.take_length] at he
    simp +decide (disch := first | omega | rfl | (simp +decide only [go_sem, ↓reduceIte] <;> rfl) | fail) only [go_sem, ↓reduceIte, rem64K, quo64K, remI64K, quoI64K, mulK64, mk_empty, sl_3n, app_nil_map, mk_i64, max_nat]
    exact retV_eq (congrArg PV.bool (by rw [he]; simp)) rfl
theorem r1_Add_spec {a b : List Nat} (ha : limbs a) (hb : limbs b) (hla : a.length < 2 ^ 40) (hlb : b.length < 2 ^ 40) : FnSpec Tryz.prog 145 [PV.nat a, PV.nat b] (· = PV.num (val a + val b)) := by
  refine fn_of_vc mixed Tryz.func145 rfl c145_ok (by simp [c145]) fun C hP => ?_; simp only [c145]
  simp +decide (disch := first | omega | rfl | (simp +decide only [go_sem, ↓reduceIte] <;> rfl) | fail) only [go_sem, ↓reduceIte, rem64K, quo64K, remI64K, quoI64K, mulK64, mk_empty, sl_3n, app_nil_map, mk_i64, max_nat]
  refine vc_nilF 5 900 1 111 (by omega) (by simp +decide (disch := first | omega | rfl | (simp +decide only [go_sem, ↓reduceIte] <;> rfl) | fail) only [go_sem, ↓reduceIte, rem64K, quo64K, remI64K, quoI64K, mulK64, mk_empty, sl_3n, app_nil_map, mk_i64, max_nat]) ?_
  refine vc_loopF (by repeat (first | exact okSk_ret | exact okSk_retM | exact okSk_retO | apply okSk_back | apply okSk_out | apply okSk_eb | apply okSk_c | apply okSk_o | apply okSk_again | apply okSk_backW)) [(5, 41)] [38, 39, 900] (fun m J hp => ∃ (i c : Nat) (out : List Nat), m = 2 * (max a.length b.length - i) + c ∧ c ≤ 1 ∧ i ≤ max a.length b.length + 1 ∧ (i ≤ max a.length b.length ∨ c = 0) ∧ out.length = i ∧ limbs out ∧ val out + 65536 ^ i * (c + val (a.drop i) + val (b.drop i)) = val a + val b ∧ J 5 = .ms 900 out.length ∧ J 6 = .int .i64 c ∧ J 7 = .int .i64 i ∧ hp 900 = some ⟨1, 111, u16s out, false⟩) (2 * max a.length b.length) ?_ ?_
  · refine ⟨0, 0, [], rfl, by omega, by omega, by omega, rfl, limbs_nil, by simp [val], ?_⟩
    simp +decide (disch := first | omega | rfl | (simp +decide only [go_sem, ↓reduceIte] <;> rfl) | fail) only [go_sem, ↓reduceIte, rem64K, quo64K, remI64K, quoI64K, mulK64, mk_empty, sl_3n, app_nil_map, mk_i64, max_nat]
    simp
  rintro _ J h ⟨i, c, out, rfl, hc, hi, hi2, hol, hout, hv, h5, h6, h7, hh⟩
  have e1 := val_dropD a i
  have e2 := val_dropD b i
  have d1 := dg_lt ha i
  have d2 := dg_lt hb i
  simp +decide (disch := first | omega | rfl | (simp +decide only [go_sem, ↓reduceIte, h5, h6, h7] <;> rfl) | fail) only [go_sem, ↓reduceIte, rem64K, quo64K, remI64K, quoI64K, mulK64, mk_empty, sl_3n, app_nil_map, mk_i64, max_nat, h5, h6, h7]
  refine guard_splitF (fun hg => ?_) (fun hg => ?_)
  · have hlt : i < max a.length b.length := by omega
    have hs1 : (dg a i + dg b i + c) / 65536 ≤ 1 := by omega
    have hstep : val (out ++ [(dg a i + dg b i + c) % 65536]) + 65536 ^ (i + 1) * ((dg a i + dg b i + c) / 65536 + val (a.drop (i + 1)) + val (b.drop (i + 1))) = val a + val b := by
      rw [val_snoc, hol, Nat.pow_succ, ← hv, e1, e2]
      have := Nat.div_add_mod (dg a i + dg b i + c) 65536
      generalize 65536 ^ i = P at *
      generalize (dg a i + dg b i + c) / 65536 = q at *
      generalize (dg a i + dg b i + c) % 65536 = r at *
      have e : c + (dg a i + 65536 * val (a.drop (i + 1))) + (dg b i + 65536 * val (b.drop (i + 1))) = r + 65536 * (q + val (a.drop (i + 1)) + val (b.drop (i + 1))) := by omega
      rw [e, Nat.mul_add P, Nat.mul_assoc]; omega
    simp +decide (disch := first | omega | rfl | (simp +decide only [go_sem, ↓reduceIte, h5, h6, h7] <;> rfl) | fail) only [go_sem, ↓reduceIte, rem64K, quo64K, remI64K, quoI64K, mulK64, mk_empty, sl_3n, app_nil_map, mk_i64, max_nat, h5, h6, h7]
    refine call_eq0 hP (r1_limb_spec ha (by omega)) rfl rfl rfl ?_
    simp +decide (disch := first | omega | rfl | (simp +decide only [go_sem, ↓reduceIte, h5, h6, h7] <;> rfl) | fail) only [go_sem, ↓reduceIte, rem64K, quo64K, remI64K, quoI64K, mulK64, mk_empty, sl_3n, app_nil_map, mk_i64, max_nat, h5, h6, h7]
    refine call_eq0 hP (r1_limb_spec hb (by omega)) rfl rfl rfl ?_
    simp +decide (disch := first | omega | rfl | (simp +decide only [go_sem, ↓reduceIte, h5, h6, h7, Nat.mod_mod] <;> rfl) | fail) only [go_sem, ↓reduceIte, rem64K, quo64K, remI64K, quoI64K, mulK64, mk_empty, sl_3n, app_nil_map, mk_i64, max_nat, h5, h6, h7, Nat.mod_mod]
    rw [app_push_map (f := fun (x : Nat) => .int .u16 x) (y := (dg a i + dg b i + c) % 65536) (xs := out) (ty' := 111) (fz := false) (by simp +decide (disch := first | omega | rfl | (simp +decide only [go_sem, ↓reduceIte, hh] <;> rfl) | fail) only [go_sem, ↓reduceIte, rem64K, quo64K, remI64K, quoI64K, mulK64, mk_empty, sl_3n, app_nil_map, mk_i64, max_nat, hh]) (by simp +decide (disch := first | omega | rfl | (simp +decide only [go_sem, ↓reduceIte] <;> rfl) | fail) only [go_sem, ↓reduceIte, rem64K, quo64K, remI64K, quoI64K, mulK64, mk_empty, sl_3n, app_nil_map, mk_i64, max_nat] <;> rfl) (by omega) rfl (by omega) (by omega)]
    simp +decide (disch := first | omega | rfl | (simp +decide only [go_sem, ↓reduceIte, h5, h6, h7] <;> rfl) | fail) only [go_sem, ↓reduceIte, rem64K, quo64K, remI64K, quoI64K, mulK64, mk_empty, sl_3n, app_nil_map, mk_i64, max_nat, h5, h6, h7]
    refine back_ovr (2 * (max a.length b.length - (i + 1)) + (dg a i + dg b i + c) / 65536) ?_ ⟨i + 1, (dg a i + dg b i + c) / 65536, out ++ [(dg a i + dg b i + c) % 65536], rfl, hs1, by omega, ?_, by simp [hol], ?_, hstep, ?_⟩
    · by_cases hlt : i < max a.length b.length
      · omega
      · have z1 : dg a i = 0 := by rw [dg, getD_ge (by omega)]
        have z2 : dg b i = 0 := by rw [dg, getD_ge (by omega)]
        rw [z1, z2]; omega
    · by_cases hlt : i < max a.length b.length
      · omega
      · have z1 : dg a i = 0 := by rw [dg, getD_ge (by omega)]
        have z2 : dg b i = 0 := by rw [dg, getD_ge (by omega)]
        rw [z1, z2]; omega
    · rw [limbs_append]; exact ⟨hout, by intro z hz; simp at hz; omega⟩
    · simp +decide (disch := first | omega | rfl | (simp +decide only [go_sem, ↓reduceIte] <;> rfl) | fail) only [go_sem, ↓reduceIte, rem64K, quo64K, remI64K, quoI64K, mulK64, mk_empty, sl_3n, app_nil_map, mk_i64, max_nat]
      simp
  simp +decide (disch := first | omega | rfl | (simp +decide only [go_sem, ↓reduceIte, h5, h6, h7] <;> rfl) | fail) only [go_sem, ↓reduceIte, rem64K, quo64K, remI64K, quoI64K, mulK64, mk_empty, sl_3n, app_nil_map, mk_i64, max_nat, h5, h6, h7]
  refine guard_splitF (fun hg2 => ?_) (fun hg2 => ?_)
  · have hlt : i < max a.length b.length := by omega
    have hs1 : (dg a i + dg b i + c) / 65536 ≤ 1 := by omega
    have hstep : val (out ++ [(dg a i + dg b i + c) % 65536]) + 65536 ^ (i + 1) * ((dg a i + dg b i + c) / 65536 + val (a.drop (i + 1)) + val (b.drop (i + 1))) = val a + val b := by
      rw [val_snoc, hol, Nat.pow_succ, ← hv, e1, e2]
      have := Nat.div_add_mod (dg a i + dg b i + c) 65536
      generalize 65536 ^ i = P at *
      generalize (dg a i + dg b i + c) / 65536 = q at *
      generalize (dg a i + dg b i + c) % 65536 = r at *
      have e : c + (dg a i + 65536 * val (a.drop (i + 1))) + (dg b i + 65536 * val (b.drop (i + 1))) = r + 65536 * (q + val (a.drop (i + 1)) + val (b.drop (i + 1))) := by omega
      rw [e, Nat.mul_add P, Nat.mul_assoc]; omega
    simp +decide (disch := first | omega | rfl | (simp +decide only [go_sem, ↓reduceIte, h5, h6, h7] <;> rfl) | fail) only [go_sem, ↓reduceIte, rem64K, quo64K, remI64K, quoI64K, mulK64, mk_empty, sl_3n, app_nil_map, mk_i64, max_nat, h5, h6, h7]
    refine call_eq0 hP (r1_limb_spec ha (by omega)) rfl rfl rfl ?_
    simp +decide (disch := first | omega | rfl | (simp +decide only [go_sem, ↓reduceIte, h5, h6, h7] <;> rfl) | fail) only [go_sem, ↓reduceIte, rem64K, quo64K, remI64K, quoI64K, mulK64, mk_empty, sl_3n, app_nil_map, mk_i64, max_nat, h5, h6, h7]
    refine call_eq0 hP (r1_limb_spec hb (by omega)) rfl rfl rfl ?_
    simp +decide (disch := first | omega | rfl | (simp +decide only [go_sem, ↓reduceIte, h5, h6, h7, Nat.mod_mod] <;> rfl) | fail) only [go_sem, ↓reduceIte, rem64K, quo64K, remI64K, quoI64K, mulK64, mk_empty, sl_3n, app_nil_map, mk_i64, max_nat, h5, h6, h7, Nat.mod_mod]
    rw [app_push_map (f := fun (x : Nat) => .int .u16 x) (y := (dg a i + dg b i + c) % 65536) (xs := out) (ty' := 111) (fz := false) (by simp +decide (disch := first | omega | rfl | (simp +decide only [go_sem, ↓reduceIte, hh] <;> rfl) | fail) only [go_sem, ↓reduceIte, rem64K, quo64K, remI64K, quoI64K, mulK64, mk_empty, sl_3n, app_nil_map, mk_i64, max_nat, hh]) (by simp +decide (disch := first | omega | rfl | (simp +decide only [go_sem, ↓reduceIte] <;> rfl) | fail) only [go_sem, ↓reduceIte, rem64K, quo64K, remI64K, quoI64K, mulK64, mk_empty, sl_3n, app_nil_map, mk_i64, max_nat] <;> rfl) (by omega) rfl (by omega) (by omega)]
    simp +decide (disch := first | omega | rfl | (simp +decide only [go_sem, ↓reduceIte, h5, h6, h7] <;> rfl) | fail) only [go_sem, ↓reduceIte, rem64K, quo64K, remI64K, quoI64K, mulK64, mk_empty, sl_3n, app_nil_map, mk_i64, max_nat, h5, h6, h7]
    refine back_ovr (2 * (max a.length b.length - (i + 1)) + (dg a i + dg b i + c) / 65536) ?_ ⟨i + 1, (dg a i + dg b i + c) / 65536, out ++ [(dg a i + dg b i + c) % 65536], rfl, hs1, by omega, ?_, by simp [hol], ?_, hstep, ?_⟩
    · by_cases hlt : i < max a.length b.length
      · omega
      · have z1 : dg a i = 0 := by rw [dg, getD_ge (by omega)]
        have z2 : dg b i = 0 := by rw [dg, getD_ge (by omega)]
        rw [z1, z2]; omega
    · by_cases hlt : i < max a.length b.length
      · omega
      · have z1 : dg a i = 0 := by rw [dg, getD_ge (by omega)]
        have z2 : dg b i = 0 := by rw [dg, getD_ge (by omega)]
        rw [z1, z2]; omega
    · rw [limbs_append]; exact ⟨hout, by intro z hz; simp at hz; omega⟩
    · simp +decide (disch := first | omega | rfl | (simp +decide only [go_sem, ↓reduceIte] <;> rfl) | fail) only [go_sem, ↓reduceIte, rem64K, quo64K, remI64K, quoI64K, mulK64, mk_empty, sl_3n, app_nil_map, mk_i64, max_nat]
      simp
  simp +decide (disch := first | omega | rfl | (simp +decide only [go_sem, ↓reduceIte, h5, h6, h7] <;> rfl) | fail) only [go_sem, ↓reduceIte, rem64K, quo64K, remI64K, quoI64K, mulK64, mk_empty, sl_3n, app_nil_map, mk_i64, max_nat, h5, h6, h7]
  refine cond_split (fun hg3 => ?_) (fun hg3 => ?_)
  · have hib : i ≤ max a.length b.length := by omega
    have hs1 : (dg a i + dg b i + c) / 65536 ≤ 1 := by omega
    have hstep : val (out ++ [(dg a i + dg b i + c) % 65536]) + 65536 ^ (i + 1) * ((dg a i + dg b i + c) / 65536 + val (a.drop (i + 1)) + val (b.drop (i + 1))) = val a + val b := by
      rw [val_snoc, hol, Nat.pow_succ, ← hv, e1, e2]
      have := Nat.div_add_mod (dg a i + dg b i + c) 65536
      generalize 65536 ^ i = P at *
      generalize (dg a i + dg b i + c) / 65536 = q at *
      generalize (dg a i + dg b i + c) % 65536 = r at *
      have e : c + (dg a i + 65536 * val (a.drop (i + 1))) + (dg b i + 65536 * val (b.drop (i + 1))) = r + 65536 * (q + val (a.drop (i + 1)) + val (b.drop (i + 1))) := by omega
      rw [e, Nat.mul_add P, Nat.mul_assoc]; omega
    simp +decide (disch := first | omega | rfl | (simp +decide only [go_sem, ↓reduceIte, h5, h6, h7] <;> rfl) | fail) only [go_sem, ↓reduceIte, rem64K, quo64K, remI64K, quoI64K, mulK64, mk_empty, sl_3n, app_nil_map, mk_i64, max_nat, h5, h6, h7]
    refine call_eq0 hP (r1_limb_spec ha (by omega)) rfl rfl rfl ?_
    simp +decide (disch := first | omega | rfl | (simp +decide only [go_sem, ↓reduceIte, h5, h6, h7] <;> rfl) | fail) only [go_sem, ↓reduceIte, rem64K, quo64K, remI64K, quoI64K, mulK64, mk_empty, sl_3n, app_nil_map, mk_i64, max_nat, h5, h6, h7]
    refine call_eq0 hP (r1_limb_spec hb (by omega)) rfl rfl rfl ?_
    simp +decide (disch := first | omega | rfl | (simp +decide only [go_sem, ↓reduceIte, h5, h6, h7, Nat.mod_mod] <;> rfl) | fail) only [go_sem, ↓reduceIte, rem64K, quo64K, remI64K, quoI64K, mulK64, mk_empty, sl_3n, app_nil_map, mk_i64, max_nat, h5, h6, h7, Nat.mod_mod]
    rw [app_push_map (f := fun (x : Nat) => .int .u16 x) (y := (dg a i + dg b i + c) % 65536) (xs := out) (ty' := 111) (fz := false) (by simp +decide (disch := first | omega | rfl | (simp +decide only [go_sem, ↓reduceIte, hh] <;> rfl) | fail) only [go_sem, ↓reduceIte, rem64K, quo64K, remI64K, quoI64K, mulK64, mk_empty, sl_3n, app_nil_map, mk_i64, max_nat, hh]) (by simp +decide (disch := first | omega | rfl | (simp +decide only [go_sem, ↓reduceIte] <;> rfl) | fail) only [go_sem, ↓reduceIte, rem64K, quo64K, remI64K, quoI64K, mulK64, mk_empty, sl_3n, app_nil_map, mk_i64, max_nat] <;> rfl) (by omega) rfl (by omega) (by omega)]
    simp +decide (disch := first | omega | rfl | (simp +decide only [go_sem, ↓reduceIte, h5, h6, h7] <;> rfl) | fail) only [go_sem, ↓reduceIte, rem64K, quo64K, remI64K, quoI64K, mulK64, mk_empty, sl_3n, app_nil_map, mk_i64, max_nat, h5, h6, h7]
    refine back_ovr (2 * (max a.length b.length - (i + 1)) + (dg a i + dg b i + c) / 65536) ?_ ⟨i + 1, (dg a i + dg b i + c) / 65536, out ++ [(dg a i + dg b i + c) % 65536], rfl, hs1, by omega, ?_, by simp [hol], ?_, hstep, ?_⟩
    · by_cases hlt : i < max a.length b.length
      · omega
      · have z1 : dg a i = 0 := by rw [dg, getD_ge (by omega)]
        have z2 : dg b i = 0 := by rw [dg, getD_ge (by omega)]
        rw [z1, z2]; omega
    · by_cases hlt : i < max a.length b.length
      · omega
      · have z1 : dg a i = 0 := by rw [dg, getD_ge (by omega)]
        have z2 : dg b i = 0 := by rw [dg, getD_ge (by omega)]
        rw [z1, z2]; omega
    · rw [limbs_append]; exact ⟨hout, by intro z hz; simp at hz; omega⟩
    · simp +decide (disch := first | omega | rfl | (simp +decide only [go_sem, ↓reduceIte] <;> rfl) | fail) only [go_sem, ↓reduceIte, rem64K, quo64K, remI64K, quoI64K, mulK64, mk_empty, sl_3n, app_nil_map, mk_i64, max_nat]
      simp
  · obtain rfl : c = 0 := by omega
    rw [List.drop_of_length_le (by omega), List.drop_of_length_le (by omega)] at hv
    simp only [val, Nat.add_zero, Nat.mul_zero] at hv
    simp +decide (disch := first | omega | rfl | (simp +decide only [go_sem, ↓reduceIte, h5, hh] <;> rfl) | fail) only [go_sem, ↓reduceIte, rem64K, quo64K, remI64K, quoI64K, mulK64, mk_empty, sl_3n, app_nil_map, mk_i64, max_nat, h5, hh]
    refine call_last hP (r1_Norm_spec hout (by omega)) (by simp +decide (disch := first | omega | rfl | (simp +decide only [go_sem, ↓reduceIte, hh, looks3, List.contains_cons, List.contains_nil, List.flatMap_cons, List.flatMap_nil, List.append_nil] <;> rfl) | fail) only [go_sem, ↓reduceIte, rem64K, quo64K, remI64K, quoI64K, mulK64, mk_empty, sl_3n, app_nil_map, mk_i64, max_nat, hh, looks3, List.contains_cons, List.contains_nil, List.flatMap_cons, List.flatMap_nil, List.append_nil]; simp [List.take_of_length_le]) rfl fun hp' => ?_
    simp +decide (disch := first | omega | rfl | (simp +decide only [go_sem, ↓reduceIte] <;> rfl) | fail) only [go_sem, ↓reduceIte, rem64K, quo64K, remI64K, quoI64K, mulK64, mk_empty, sl_3n, app_nil_map, mk_i64, max_nat]
    exact retV_eq (by rw [hv]) rfl
end Go.Proofs.YtjkbalanglgoiaaGreat
namespace Go.Proofs.YtjkbalanglgoiaaGreat
open Go Go.FW
set_option linter.unusedSimpArgs false
set_option linter.unusedVariables false
set_option maxRecDepth 100000
theorem r1_Sub_spec {a b : List Nat} (ha : limbs a) (hb : limbs b) (hla : a.length < 2 ^ 40) (hlb : b.length < 2 ^ 40) : FnSpec Tryz.prog 133 [PV.nat a, PV.nat b] (· = if val a < val b then .tup [PV.num 0, .int .i64 2] else .tup [PV.num (val a - val b), .int .i64 0]) := by
  refine fn_of_vc mixed Tryz.func133 rfl c133_ok (by simp [c133]) fun C hP => ?_; simp only [c133]
  simp +decide (disch := first | omega | rfl | (simp +decide only [go_sem, ↓reduceIte] <;> rfl) | fail) only [go_sem, ↓reduceIte, rem64K, quo64K, remI64K, quoI64K, mulK64, mk_empty, sl_3n, app_nil_map, mk_i64, max_nat]
  refine call_eq0 hP (r1_Cmp_spec ha hb (by omega) (by omega)) rfl rfl rfl ?_
  simp +decide (disch := first | omega | rfl | (simp +decide only [go_sem, ↓reduceIte] <;> rfl) | fail) only [go_sem, ↓reduceIte, rem64K, quo64K, remI64K, quoI64K, mulK64, mk_empty, sl_3n, app_nil_map, mk_i64, max_nat]
  refine cond_split (fun hc => ?_) (fun hc => ?_)
  · rw [if_pos (cmpI_neg.1 hc)]
    simp +decide (disch := first | omega | rfl | (simp +decide only [go_sem, ↓reduceIte] <;> rfl) | fail) only [go_sem, ↓reduceIte, rem64K, quo64K, remI64K, quoI64K, mulK64, mk_empty, sl_3n, app_nil_map, mk_i64, max_nat]
    exact ret2 rfl rfl rfl nil_num0 (le_refl _)
  have hge : ¬ val a < val b := fun h => hc (cmpI_neg.2 h)
  rw [if_neg hge]
  simp +decide (disch := first | omega | rfl | (simp +decide only [go_sem, ↓reduceIte] <;> rfl) | fail) only [go_sem, ↓reduceIte, rem64K, quo64K, remI64K, quoI64K, mulK64, mk_empty, sl_3n, app_nil_map, mk_i64, max_nat]
  refine vc_nilF 6 900 1 111 (by omega) (by simp +decide (disch := first | omega | rfl | (simp +decide only [go_sem, ↓reduceIte] <;> rfl) | fail) only [go_sem, ↓reduceIte, rem64K, quo64K, remI64K, quoI64K, mulK64, mk_empty, sl_3n, app_nil_map, mk_i64, max_nat]) ?_
  refine vc_loopF (by repeat (first | exact okSk_ret | exact okSk_retM | exact okSk_retO | apply okSk_back | apply okSk_out | apply okSk_eb | apply okSk_c | apply okSk_o | apply okSk_again | apply okSk_backW)) [(6, 9), (14, 37)] [36, 37, 900] (fun m J hp => ∃ (i c : Nat) (out : List Nat), m = a.length - i ∧ c ≤ 1 ∧ i ≤ a.length ∧ out.length = i ∧ limbs out ∧ val (a.take i) + 65536 ^ i * c = val out + val (b.take i) ∧ J 6 = .ms 900 out.length ∧ J 7 = .int .i64 c ∧ J 8 = .int .i64 i ∧ hp 900 = some ⟨1, 111, u16s out, false⟩) a.length ?_ ?_
  · refine ⟨0, 0, [], rfl, by omega, by omega, rfl, limbs_nil, by simp [val], ?_⟩
    simp +decide (disch := first | omega | rfl | (simp +decide only [go_sem, ↓reduceIte] <;> rfl) | fail) only [go_sem, ↓reduceIte, rem64K, quo64K, remI64K, quoI64K, mulK64, mk_empty, sl_3n, app_nil_map, mk_i64, max_nat]
    simp
  rintro _ J h ⟨i, c, out, rfl, hc1, hi, hol, hout, hv, h6, h7, h8, hh⟩
  simp +decide (disch := first | omega | rfl | (simp +decide only [go_sem, ↓reduceIte, h6, h7, h8] <;> rfl) | fail) only [go_sem, ↓reduceIte, rem64K, quo64K, remI64K, quoI64K, mulK64, mk_empty, sl_3n, app_nil_map, mk_i64, max_nat, h6, h7, h8]
  refine cond_split (fun hg => ?_) (fun hg => ?_)
  · have hi' : i < a.length := by omega
    have e1 := val_take_succD a i
    have e2 := val_take_succD b i
    have d1 := dg_lt ha i
    have d2 := dg_lt hb i
    simp +decide (disch := first | omega | rfl | (simp +decide only [go_sem, ↓reduceIte, h6, h7, h8] <;> rfl) | fail) only [go_sem, ↓reduceIte, rem64K, quo64K, remI64K, quoI64K, mulK64, mk_empty, sl_3n, app_nil_map, mk_i64, max_nat, h6, h7, h8]
    refine call_eq0 hP (r1_limb_spec ha (by omega)) rfl rfl rfl ?_
    simp +decide (disch := first | omega | rfl | (simp +decide only [go_sem, ↓reduceIte, h6, h7, h8] <;> rfl) | fail) only [go_sem, ↓reduceIte, rem64K, quo64K, remI64K, quoI64K, mulK64, mk_empty, sl_3n, app_nil_map, mk_i64, max_nat, h6, h7, h8]
    refine call_eq0 hP (r1_limb_spec hb (by omega)) rfl rfl rfl ?_
    simp +decide (disch := first | omega | rfl | (simp +decide only [go_sem, ↓reduceIte, h6, h7, h8] <;> rfl) | fail) only [go_sem, ↓reduceIte, rem64K, quo64K, remI64K, quoI64K, mulK64, mk_empty, sl_3n, app_nil_map, mk_i64, max_nat, h6, h7, h8]
    have step : ∀ (d c' : Nat), d < 65536 → c' ≤ 1 → dg a i + 65536 * c' = d + dg b i + c → val (a.take (i + 1)) + 65536 ^ (i + 1) * c' = val (out ++ [d]) + val (b.take (i + 1)) := fun d c' _ _ h3 => by
      rw [val_snoc, hol, e1, e2, Nat.pow_succ]
      generalize 65536 ^ i = P at *
      have : P * (dg a i + 65536 * c') = P * (d + dg b i + c) := by rw [h3]
      rw [Nat.mul_add, ← Nat.mul_assoc, Nat.mul_add, Nat.mul_add] at this
      omega
    refine cond_split (fun hd => ?_) (fun hd => ?_)
    · obtain ⟨d, hd1⟩ : ∃ d : Nat, (dg a i : Int) - (dg b i : Int) - (c : Int) + 65536 = d := ⟨((dg a i : Int) - (dg b i : Int) - (c : Int) + 65536).toNat, by omega⟩
      have hst := step d 1 (by omega) (by omega) (by omega)
      simp +decide (disch := first | omega | rfl | (simp +decide only [go_sem, ↓reduceIte, h6, h7, h8, hd1] <;> rfl) | fail) only [go_sem, ↓reduceIte, rem64K, quo64K, remI64K, quoI64K, mulK64, mk_empty, sl_3n, app_nil_map, mk_i64, max_nat, h6, h7, h8, hd1]
      rw [app_push_map (f := fun (x : Nat) => .int .u16 x) (y := d) (xs := out) (ty' := 111) (fz := false) (by simp +decide (disch := first | omega | rfl | (simp +decide only [go_sem, ↓reduceIte, hh] <;> rfl) | fail) only [go_sem, ↓reduceIte, rem64K, quo64K, remI64K, quoI64K, mulK64, mk_empty, sl_3n, app_nil_map, mk_i64, max_nat, hh]) (by simp +decide (disch := first | omega | rfl | (simp +decide only [go_sem, ↓reduceIte, Nat.mod_eq_of_lt (by omega : d < 65536)] <;> rfl) | fail) only [go_sem, ↓reduceIte, rem64K, quo64K, remI64K, quoI64K, mulK64, mk_empty, sl_3n, app_nil_map, mk_i64, max_nat, Nat.mod_eq_of_lt (by omega : d < 65536)]) (by omega) rfl (by omega) (by omega)]
      simp +decide (disch := first | omega | rfl | (simp +decide only [go_sem, ↓reduceIte, h6, h7, h8] <;> rfl) | fail) only [go_sem, ↓reduceIte, rem64K, quo64K, remI64K, quoI64K, mulK64, mk_empty, sl_3n, app_nil_map, mk_i64, max_nat, h6, h7, h8]
      refine back_ovr (a.length - (i + 1)) (by omega) ⟨i + 1, 1, out ++ [d], rfl, by omega, by omega, by simp [hol], ?_, hst, ?_⟩
      · rw [limbs_append]; exact ⟨hout, by intro z hz; simp at hz; omega⟩
      · simp +decide (disch := first | omega | rfl | (simp +decide only [go_sem, ↓reduceIte] <;> rfl) | fail) only [go_sem, ↓reduceIte, rem64K, quo64K, remI64K, quoI64K, mulK64, mk_empty, sl_3n, app_nil_map, mk_i64, max_nat]
        simp
    · obtain ⟨d, hd1⟩ : ∃ d : Nat, (dg a i : Int) - (dg b i : Int) - (c : Int) = d := ⟨((dg a i : Int) - (dg b i : Int) - (c : Int)).toNat, by omega⟩
      have hst := step d 0 (by omega) (by omega) (by omega)
      simp +decide (disch := first | omega | rfl | (simp +decide only [go_sem, ↓reduceIte, h6, h7, h8, hd1] <;> rfl) | fail) only [go_sem, ↓reduceIte, rem64K, quo64K, remI64K, quoI64K, mulK64, mk_empty, sl_3n, app_nil_map, mk_i64, max_nat, h6, h7, h8, hd1]
      rw [app_push_map (f := fun (x : Nat) => .int .u16 x) (y := d) (xs := out) (ty' := 111) (fz := false) (by simp +decide (disch := first | omega | rfl | (simp +decide only [go_sem, ↓reduceIte, hh] <;> rfl) | fail) only [go_sem, ↓reduceIte, rem64K, quo64K, remI64K, quoI64K, mulK64, mk_empty, sl_3n, app_nil_map, mk_i64, max_nat, hh]) (by simp +decide (disch := first | omega | rfl | (simp +decide only [go_sem, ↓reduceIte, Nat.mod_eq_of_lt (by omega : d < 65536)] <;> rfl) | fail) only [go_sem, ↓reduceIte, rem64K, quo64K, remI64K, quoI64K, mulK64, mk_empty, sl_3n, app_nil_map, mk_i64, max_nat, Nat.mod_eq_of_lt (by omega : d < 65536)]) (by omega) rfl (by omega) (by omega)]
      simp +decide (disch := first | omega | rfl | (simp +decide only [go_sem, ↓reduceIte, h6, h7, h8] <;> rfl) | fail) only [go_sem, ↓reduceIte, rem64K, quo64K, remI64K, quoI64K, mulK64, mk_empty, sl_3n, app_nil_map, mk_i64, max_nat, h6, h7, h8]
      refine back_ovr (a.length - (i + 1)) (by omega) ⟨i + 1, 0, out ++ [d], rfl, by omega, by omega, by simp [hol], ?_, hst, ?_⟩
      · rw [limbs_append]; exact ⟨hout, by intro z hz; simp at hz; omega⟩
      · simp +decide (disch := first | omega | rfl | (simp +decide only [go_sem, ↓reduceIte] <;> rfl) | fail) only [go_sem, ↓reduceIte, rem64K, quo64K, remI64K, quoI64K, mulK64, mk_empty, sl_3n, app_nil_map, mk_i64, max_nat]
        simp
  · obtain rfl : i = a.length := by omega
    have hbz : val (b.drop a.length) = 0 := val_zero_of (by have := val_lt ha; omega)
    have hbs := val_splitD b a.length
    rw [hbz, Nat.mul_zero, Nat.add_zero] at hbs
    rw [List.take_length, ← hbs] at hv
    have hvo := val_lt hout
    rw [hol] at hvo
    have hc0 : c = 0 := by
      match c, hc1 with
      | 0, _ => rfl
      | 1, _ => exfalso; have := val_lt ha; omega
    subst hc0
    simp +decide (disch := first | omega | rfl | (simp +decide only [go_sem, ↓reduceIte, h6, hh] <;> rfl) | fail) only [go_sem, ↓reduceIte, rem64K, quo64K, remI64K, quoI64K, mulK64, mk_empty, sl_3n, app_nil_map, mk_i64, max_nat, h6, hh]
    refine call_last hP (r1_Norm_spec hout (by omega)) (by simp +decide (disch := first | omega | rfl | (simp +decide only [go_sem, ↓reduceIte, hh, looks3, List.contains_cons, List.contains_nil, List.flatMap_cons, List.flatMap_nil, List.append_nil] <;> rfl) | fail) only [go_sem, ↓reduceIte, rem64K, quo64K, remI64K, quoI64K, mulK64, mk_empty, sl_3n, app_nil_map, mk_i64, max_nat, hh, looks3, List.contains_cons, List.contains_nil, List.flatMap_cons, List.flatMap_nil, List.append_nil]; simp [List.take_of_length_le]) rfl fun hp' => ?_
    simp +decide (disch := first | omega | rfl | (simp +decide only [go_sem, ↓reduceIte] <;> rfl) | fail) only [go_sem, ↓reduceIte, rem64K, quo64K, remI64K, quoI64K, mulK64, mk_empty, sl_3n, app_nil_map, mk_i64, max_nat]
    exact ret2 rfl rfl rfl (le_of_eq (congrArg PV.num (by omega))) (le_refl _)
theorem r1_Mul_spec {a b : List Nat} (ha : limbs a) (hb : limbs b) (hla : a.length < 2 ^ 40) (hlb : b.length < 2 ^ 40) : FnSpec Tryz.prog 63 [PV.nat a, PV.nat b] (· = PV.num (val a * val b)) := by
  refine fn_of_vc mixed Tryz.func63 rfl c63_ok (by simp [c63]) fun C hP => ?_; simp only [c63]
  simp +decide (disch := first | omega | rfl | (simp +decide only [go_sem, ↓reduceIte] <;> rfl) | fail) only [go_sem, ↓reduceIte, rem64K, quo64K, remI64K, quoI64K, mulK64, mk_empty, sl_3n, app_nil_map, mk_i64, max_nat]
  refine vc_loopF (by repeat (first | exact okSk_ret | exact okSk_retM | exact okSk_retO | apply okSk_back | apply okSk_out | apply okSk_eb | apply okSk_c | apply okSk_o | apply okSk_again | apply okSk_backW)) [(6, 9), (17, 62)] [] (fun m J hp => ∃ (i : Nat) (L : List Nat), m = a.length - i ∧ i ≤ a.length ∧ L.length = a.length + b.length + 1 ∧ limbs L ∧ val L = val (a.take i) * val b ∧ J 6 = .int .i64 i ∧ hp = updH hp0 16 ⟨1, 111, u16s L, false⟩) a.length ?_ ?_
  · refine ⟨0, List.replicate (a.length + b.length + 1) 0, rfl, by omega, by simp, ?_, by simp [val, val_zeros], ?_⟩
    · intro z hz; rw [List.eq_of_mem_replicate hz]; omega
    · simp +decide (disch := first | omega | rfl | (simp +decide only [go_sem, ↓reduceIte] <;> rfl) | fail) only [go_sem, ↓reduceIte, rem64K, quo64K, remI64K, quoI64K, mulK64, mk_empty, sl_3n, app_nil_map, mk_i64, max_nat]
      simp
  rintro _ J _ ⟨i, L, rfl, hi, hLl, hL, hv, h6, rfl⟩
  simp +decide (disch := first | omega | rfl | (simp +decide only [go_sem, ↓reduceIte, h6] <;> rfl) | fail) only [go_sem, ↓reduceIte, rem64K, quo64K, remI64K, quoI64K, mulK64, mk_empty, sl_3n, app_nil_map, mk_i64, max_nat, h6]
  refine cond_split (fun hg => ?_) (fun hg => ?_)
  · have hi' : i < a.length := by omega
    have hai := limbs_get ha hi'
    have hts := val_take_succ hi'
    have hz0 : dg L (i + b.length) = 0 := by
      apply dg_of_zero
      apply val_zero_of
      rw [hv, Nat.pow_add]
      have h1 := val_take_lt ha i (by omega)
      have h2 := val_lt hb
      exact Nat.mul_lt_mul'' h1 h2
    generalize hxx : a[i] = ai at *
    simp +decide (disch := first | omega | rfl | (simp +decide only [go_sem, ↓reduceIte, h6, hxx] <;> rfl) | fail) only [go_sem, ↓reduceIte, rem64K, quo64K, remI64K, quoI64K, mulK64, mk_empty, sl_3n, app_nil_map, mk_i64, max_nat, h6, hxx]
    refine vc_loopF (by repeat (first | exact okSk_ret | exact okSk_retM | exact okSk_retO | apply okSk_back | apply okSk_out | apply okSk_eb | apply okSk_c | apply okSk_o | apply okSk_again | apply okSk_backW)) [(7, 9), (23, 62)] [] (fun m J hp => ∃ (k c : Nat) (M : List Nat), m = b.length + 1 - k ∧ k ≤ b.length + 1 ∧ (k ≤ b.length ∨ c = 0) ∧ c < 65536 ∧ M.length = L.length ∧ limbs M ∧ val M + 65536 ^ (i + k) * (c + ai * val (b.drop k)) = val L + 65536 ^ i * (ai * val b) ∧ (∀ j, i + k ≤ j → dg M j = dg L j) ∧ J 7 = .int .u64 c ∧ J 8 = .int .i64 k ∧ hp = updH hp0 16 ⟨1, 111, u16s M, false⟩) (b.length + 1) ?_ ?_
    · refine ⟨0, 0, L, rfl, by omega, by omega, by omega, rfl, hL, by simp, fun _ _ => rfl, ?_⟩
      simp +decide (disch := first | omega | rfl | (simp +decide only [go_sem, ↓reduceIte, h6] <;> rfl) | fail) only [go_sem, ↓reduceIte, rem64K, quo64K, remI64K, quoI64K, mulK64, mk_empty, sl_3n, app_nil_map, mk_i64, max_nat, h6]
      simp
    rintro _ J2 _ ⟨k, c, M, rfl, hk, hk2, hc, hMl, hM, hw, hsame, h7, h8, rfl⟩
    have e2 := val_dropD b k
    have d2 := dg_lt hb k
    simp +decide (disch := first | omega | rfl | (simp +decide only [go_sem, ↓reduceIte, h6, h7, h8] <;> rfl) | fail) only [go_sem, ↓reduceIte, rem64K, quo64K, remI64K, quoI64K, mulK64, mk_empty, sl_3n, app_nil_map, mk_i64, max_nat, h6, h7, h8]
    refine guard_splitF (fun hkb => ?_) (fun hkb => ?_)
    · have hkb' : k ≤ b.length := by omega
      have hj : i + k < M.length := by omega
      have hx := limbs_get hM hj
      have hset := fun v => val_set (v := v) hj
      have hmx := mul_limbs hai d2
      have hdx : dg M (i + k) = M[i + k] := getD_lt hj
      generalize hxm : M[i + k] = x at *
      have hdm := Nat.div_add_mod (x + ai * dg b k + c) 65536
      have hnew := mul_round (T := val L + 65536 ^ i * (ai * val b)) (hset ((x + ai * dg b k + c) % 65536)) (by rw [← e2]; exact hw) hdm
      have hr := Nat.mod_lt (x + ai * dg b k + c) (show 0 < 65536 by omega)
      have hq : (x + ai * dg b k + c) / 65536 < 65536 := by omega
      have hq0 : ¬ k < b.length → (x + ai * dg b k + c) / 65536 = 0 := fun h => by
        have z1 : dg b k = 0 := by rw [dg, getD_ge (by omega)]
        have z2 : x = 0 := by rw [← hdx, hsame _ (Nat.le_refl _), show i + k = i + b.length by omega, hz0]
        rw [z1, z2]; omega
      have hlims : limbs (M.set (i + k) ((x + ai * dg b k + c) % 65536)) := fun z hz => by
        rcases List.mem_or_eq_of_mem_set hz with h | h
        · exact hM z h
        · omega
      have e5 : IntKind.u64.wrap ((ai * dg b k : Nat) : Int) = ((ai * dg b k : Nat) : Int) := wrap_u64 (by omega) (by omega)
      simp +decide (disch := first | omega | rfl | (simp +decide only [go_sem, ↓reduceIte, h6, h7, h8, hxx, hxm] <;> rfl) | fail) only [go_sem, ↓reduceIte, rem64K, quo64K, remI64K, quoI64K, mulK64, mk_empty, sl_3n, app_nil_map, mk_i64, max_nat, h6, h7, h8, hxx, hxm]
      refine call_eq0 hP (r1_limb_spec hb (by omega)) rfl rfl rfl ?_
      simp +decide (disch := first | omega | rfl | (simp +decide only [go_sem, ↓reduceIte, h6, h7, h8, hxx, hxm, e5, Nat.mod_mod] <;> rfl) | fail) only [go_sem, ↓reduceIte, rem64K, quo64K, remI64K, quoI64K, mulK64, mk_empty, sl_3n, app_nil_map, mk_i64, max_nat, h6, h7, h8, hxx, hxm, e5, Nat.mod_mod]
      refine back_ovr (b.length + 1 - (k + 1)) (by omega) ⟨k + 1, (x + ai * dg b k + c) / 65536, M.set (i + k) ((x + ai * dg b k + c) % 65536), rfl, by omega, ?_, hq, by rw [List.length_set]; exact hMl, hlims, ?_, ?_, ?_⟩
      · by_cases h : k < b.length
        · omega
        · exact .inr (hq0 h)
      · rw [← Nat.add_assoc, Nat.pow_succ]; exact hnew
      · intro j hj2
        rw [dg_set_ne (by omega)]; exact hsame j (by omega)
      · simp +decide (disch := first | omega | rfl | (simp +decide only [go_sem, ↓reduceIte, h6, h7, h8] <;> rfl) | fail) only [go_sem, ↓reduceIte, rem64K, quo64K, remI64K, quoI64K, mulK64, mk_empty, sl_3n, app_nil_map, mk_i64, max_nat, h6, h7, h8]
    simp +decide (disch := first | omega | rfl | (simp +decide only [go_sem, ↓reduceIte, h6, h7, h8] <;> rfl) | fail) only [go_sem, ↓reduceIte, rem64K, quo64K, remI64K, quoI64K, mulK64, mk_empty, sl_3n, app_nil_map, mk_i64, max_nat, h6, h7, h8]
    refine cond_split (fun hc0 => ?_) (fun hc0 => ?_)
    · have hkb' : k ≤ b.length := by omega
      have hj : i + k < M.length := by omega
      have hx := limbs_get hM hj
      have hset := fun v => val_set (v := v) hj
      have hmx := mul_limbs hai d2
      have hdx : dg M (i + k) = M[i + k] := getD_lt hj
      generalize hxm : M[i + k] = x at *
      have hdm := Nat.div_add_mod (x + ai * dg b k + c) 65536
      have hnew := mul_round (T := val L + 65536 ^ i * (ai * val b)) (hset ((x + ai * dg b k + c) % 65536)) (by rw [← e2]; exact hw) hdm
      have hr := Nat.mod_lt (x + ai * dg b k + c) (show 0 < 65536 by omega)
      have hq : (x + ai * dg b k + c) / 65536 < 65536 := by omega
      have hq0 : ¬ k < b.length → (x + ai * dg b k + c) / 65536 = 0 := fun h => by
        have z1 : dg b k = 0 := by rw [dg, getD_ge (by omega)]
        have z2 : x = 0 := by rw [← hdx, hsame _ (Nat.le_refl _), show i + k = i + b.length by omega, hz0]
        rw [z1, z2]; omega
      have hlims : limbs (M.set (i + k) ((x + ai * dg b k + c) % 65536)) := fun z hz => by
        rcases List.mem_or_eq_of_mem_set hz with h | h
        · exact hM z h
        · omega
      have e5 : IntKind.u64.wrap ((ai * dg b k : Nat) : Int) = ((ai * dg b k : Nat) : Int) := wrap_u64 (by omega) (by omega)
      simp +decide (disch := first | omega | rfl | (simp +decide only [go_sem, ↓reduceIte, h6, h7, h8, hxx, hxm] <;> rfl) | fail) only [go_sem, ↓reduceIte, rem64K, quo64K, remI64K, quoI64K, mulK64, mk_empty, sl_3n, app_nil_map, mk_i64, max_nat, h6, h7, h8, hxx, hxm]
      refine call_eq0 hP (r1_limb_spec hb (by omega)) rfl rfl rfl ?_
      simp +decide (disch := first | omega | rfl | (simp +decide only [go_sem, ↓reduceIte, h6, h7, h8, hxx, hxm, e5, Nat.mod_mod] <;> rfl) | fail) only [go_sem, ↓reduceIte, rem64K, quo64K, remI64K, quoI64K, mulK64, mk_empty, sl_3n, app_nil_map, mk_i64, max_nat, h6, h7, h8, hxx, hxm, e5, Nat.mod_mod]
      refine back_ovr (b.length + 1 - (k + 1)) (by omega) ⟨k + 1, (x + ai * dg b k + c) / 65536, M.set (i + k) ((x + ai * dg b k + c) % 65536), rfl, by omega, ?_, hq, by rw [List.length_set]; exact hMl, hlims, ?_, ?_, ?_⟩
      · by_cases h : k < b.length
        · omega
        · exact .inr (hq0 h)
      · rw [← Nat.add_assoc, Nat.pow_succ]; exact hnew
      · intro j hj2
        rw [dg_set_ne (by omega)]; exact hsame j (by omega)
      · simp +decide (disch := first | omega | rfl | (simp +decide only [go_sem, ↓reduceIte, h6, h7, h8] <;> rfl) | fail) only [go_sem, ↓reduceIte, rem64K, quo64K, remI64K, quoI64K, mulK64, mk_empty, sl_3n, app_nil_map, mk_i64, max_nat, h6, h7, h8]
    · obtain rfl : c = 0 := by omega
      rw [List.drop_of_length_le (by omega)] at hw
      simp only [val, Nat.mul_zero, Nat.add_zero] at hw
      simp +decide (disch := first | omega | rfl | (simp +decide only [go_sem, ↓reduceIte, h6, h7, h8] <;> rfl) | fail) only [go_sem, ↓reduceIte, rem64K, quo64K, remI64K, quoI64K, mulK64, mk_empty, sl_3n, app_nil_map, mk_i64, max_nat, h6, h7, h8]
      simp (disch := decide) only [killFs_nil, ovr_sub]
      refine back_ovr (a.length - (i + 1)) (by omega) ⟨i + 1, M, rfl, by omega, by omega, hM, ?_, ?_⟩
      · rw [hw, hv, hts, Nat.add_mul, Nat.mul_assoc]
      · simp +decide (disch := first | omega | rfl | (simp +decide only [go_sem, ↓reduceIte] <;> rfl) | fail) only [go_sem, ↓reduceIte, rem64K, quo64K, remI64K, quoI64K, mulK64, mk_empty, sl_3n, app_nil_map, mk_i64, max_nat]
  · obtain rfl : i = a.length := by omega
    rw [List.take_length] at hv
    simp +decide (disch := first | omega | rfl | (simp +decide only [go_sem, ↓reduceIte] <;> rfl) | fail) only [go_sem, ↓reduceIte, rem64K, quo64K, remI64K, quoI64K, mulK64, mk_empty, sl_3n, app_nil_map, mk_i64, max_nat]
    refine call_last hP (r1_Norm_spec hL (by omega)) (by simp +decide (disch := first | omega | rfl | (simp +decide only [go_sem, ↓reduceIte, looks3, List.contains_cons, List.contains_nil, List.flatMap_cons, List.flatMap_nil, List.append_nil] <;> rfl) | fail) only [go_sem, ↓reduceIte, rem64K, quo64K, remI64K, quoI64K, mulK64, mk_empty, sl_3n, app_nil_map, mk_i64, max_nat, looks3, List.contains_cons, List.contains_nil, List.flatMap_cons, List.flatMap_nil, List.append_nil]; simp [List.take_of_length_le, hLl]) rfl fun hp' => ?_
    simp +decide (disch := first | omega | rfl | (simp +decide only [go_sem, ↓reduceIte] <;> rfl) | fail) only [go_sem, ↓reduceIte, rem64K, quo64K, remI64K, quoI64K, mulK64, mk_empty, sl_3n, app_nil_map, mk_i64, max_nat]
    exact retV_eq (by rw [hv]) rfl
end Go.Proofs.YtjkbalanglgoiaaGreat
namespace Go.Proofs.YtjkbalanglgoiaaGreat
open Go Go.FW
set_option linter.unusedSimpArgs false
set_option linter.unusedVariables false
set_option maxRecDepth 100000
theorem r1_Mul_num {x y : Nat} (hx : nl x < 2 ^ 40) (hy : nl y < 2 ^ 40) : FnSpec Tryz.prog 63 [PV.num x, PV.num y] (· = PV.num (x * y)) := by
  have := r1_Mul_spec (limbs_dig x) (limbs_dig y) hx hy
  rwa [val_dig, val_dig] at this
theorem r1_Cmp_num {x y : Nat} (hx : nl x < 2 ^ 42) (hy : nl y < 2 ^ 42) : FnSpec Tryz.prog 167 [PV.num x, PV.num y] (· = .int .i64 (cmpI x y)) := by
  have := r1_Cmp_spec (limbs_dig x) (limbs_dig y) hx hy
  rwa [val_dig, val_dig] at this
theorem r1_Sub_num {x y : Nat} (hx : nl x < 2 ^ 40) (hy : nl y < 2 ^ 40) (h : y ≤ x) : FnSpec Tryz.prog 133 [PV.num x, PV.num y] (· = .tup [PV.num (x - y), .int .i64 0]) := by
  have := r1_Sub_spec (limbs_dig x) (limbs_dig y) hx hy
  rwa [val_dig, val_dig, if_neg (by omega)] at this
theorem cmpI_le {x y : Nat} : cmpI x y ≤ 0 ↔ x ≤ y := by unfold cmpI; split <;> (try split) <;> omega
theorem r1_digit_spec {x y : Nat} (hx : nl x < 2 ^ 38) (hy : nl y < 2 ^ 38) (hy0 : 0 < y) : FnSpec Tryz.prog 132 [PV.num x, PV.num y] (· = .int .u64 (min 65535 (x / y) : Nat)) := by
  have hq2 : ∀ (n d : Nat) fr hp K, n < 18446744073709551616 → binK .quo false (.int .u64 (n : Int)) (.int .u64 2) d fr hp K = K (upd fr d (.int .u64 ((n / 2 : Nat) : Int))) hp := fun n d fr hp K h => by
    rw [show (2 : Int) = ((2 : Nat) : Int) from rfl, quo_u64 (by omega) h]
  refine fn_of_vc mixed Tryz.func132 rfl c132_ok (by simp [c132]) fun C hP => ?_; simp only [c132]
  simp +decide (disch := first | omega | rfl | (simp +decide only [go_sem, ↓reduceIte] <;> rfl) | fail) only [go_sem, ↓reduceIte, rem64K, quo64K, remI64K, quoI64K, mulK64, mk_empty, sl_3n, app_nil_map, mk_i64, max_nat]
  refine vc_loopF (by repeat (first | exact okSk_ret | exact okSk_retM | exact okSk_retO | apply okSk_back | apply okSk_out | apply okSk_eb | apply okSk_c | apply okSk_o | apply okSk_again | apply okSk_backW)) [(5, 25)] [] (fun m J hp => ∃ lo hi : Nat, m = hi - lo ∧ lo ≤ hi ∧ hi ≤ 65535 ∧ y * lo ≤ x ∧ (hi = 65535 ∨ x < y * (hi + 1)) ∧ J 5 = .int .u64 lo ∧ J 6 = .int .u64 hi) 65535 ?_ ?_
  · refine ⟨0, 65535, rfl, by omega, by omega, by omega, .inl rfl, ?_⟩
    simp +decide (disch := first | omega | rfl | (simp +decide only [go_sem, ↓reduceIte] <;> rfl) | fail) only [go_sem, ↓reduceIte, rem64K, quo64K, remI64K, quoI64K, mulK64, mk_empty, sl_3n, app_nil_map, mk_i64, max_nat]
    simp
  rintro _ J h ⟨lo, hi, rfl, h1, h2, h3, h4, h5, h6⟩
  simp +decide (disch := first | omega | rfl | (simp +decide only [go_sem, ↓reduceIte, h5, h6] <;> rfl) | fail) only [go_sem, ↓reduceIte, rem64K, quo64K, remI64K, quoI64K, mulK64, mk_empty, sl_3n, app_nil_map, mk_i64, max_nat, h5, h6]
  refine cond_split (fun hg => ?_) (fun hg => ?_)
  · have hsz : nl ((lo + hi + 1) / 2) ≤ 4 := nl_small (by omega)
    have hm := nl_mul y ((lo + hi + 1) / 2)
    generalize hmid : (lo + hi + 1) / 2 = mid at *
    simp +decide (disch := first | omega | rfl | (simp +decide only [go_sem, ↓reduceIte, h5, h6, hq2, hmid] <;> rfl) | fail) only [go_sem, ↓reduceIte, rem64K, quo64K, remI64K, quoI64K, mulK64, mk_empty, sl_3n, app_nil_map, mk_i64, max_nat, h5, h6, hq2, hmid]
    refine call_eq0 hP (r1_Of_spec (n := mid) (by omega)) rfl rfl rfl ?_
    simp +decide (disch := first | omega | rfl | (simp +decide only [go_sem, ↓reduceIte, h5, h6] <;> rfl) | fail) only [go_sem, ↓reduceIte, rem64K, quo64K, remI64K, quoI64K, mulK64, mk_empty, sl_3n, app_nil_map, mk_i64, max_nat, h5, h6]
    refine call_eq0 hP (r1_Mul_num (x := y) (y := mid) (by omega) (by omega)) rfl rfl rfl ?_
    simp +decide (disch := first | omega | rfl | (simp +decide only [go_sem, ↓reduceIte, h5, h6] <;> rfl) | fail) only [go_sem, ↓reduceIte, rem64K, quo64K, remI64K, quoI64K, mulK64, mk_empty, sl_3n, app_nil_map, mk_i64, max_nat, h5, h6]
    refine call_eq0 hP (r1_Cmp_num (x := y * mid) (y := x) (by omega) (by omega)) rfl rfl rfl ?_
    simp +decide (disch := first | omega | rfl | (simp +decide only [go_sem, ↓reduceIte, h5, h6] <;> rfl) | fail) only [go_sem, ↓reduceIte, rem64K, quo64K, remI64K, quoI64K, mulK64, mk_empty, sl_3n, app_nil_map, mk_i64, max_nat, h5, h6]
    refine cond_split (fun hc => ?_) (fun hc => ?_)
    · rw [cmpI_le] at hc
      simp +decide (disch := first | omega | rfl | (simp +decide only [go_sem, ↓reduceIte, h5, h6] <;> rfl) | fail) only [go_sem, ↓reduceIte, rem64K, quo64K, remI64K, quoI64K, mulK64, mk_empty, sl_3n, app_nil_map, mk_i64, max_nat, h5, h6]
      refine back_ovr (hi - mid) (by omega) ⟨mid, hi, rfl, by omega, h2, hc, h4, ?_⟩
      simp +decide (disch := first | omega | rfl | (simp +decide only [go_sem, ↓reduceIte, h6] <;> rfl) | fail) only [go_sem, ↓reduceIte, rem64K, quo64K, remI64K, quoI64K, mulK64, mk_empty, sl_3n, app_nil_map, mk_i64, max_nat, h6]
    · rw [cmpI_le] at hc
      obtain ⟨n, rfl⟩ : ∃ n, mid = n + 1 := ⟨mid - 1, by omega⟩
      have e : ((n + 1 : Nat) : Int) - 1 = n := by omega
      simp +decide (disch := first | omega | rfl | (simp +decide only [go_sem, ↓reduceIte, h5, h6, e] <;> rfl) | fail) only [go_sem, ↓reduceIte, rem64K, quo64K, remI64K, quoI64K, mulK64, mk_empty, sl_3n, app_nil_map, mk_i64, max_nat, h5, h6, e]
      refine back_ovr (n - lo) (by omega) ⟨lo, n, rfl, by omega, by omega, h3, .inr (by omega), ?_⟩
      simp +decide (disch := first | omega | rfl | (simp +decide only [go_sem, ↓reduceIte, h5] <;> rfl) | fail) only [go_sem, ↓reduceIte, rem64K, quo64K, remI64K, quoI64K, mulK64, mk_empty, sl_3n, app_nil_map, mk_i64, max_nat, h5]
  · obtain rfl : lo = hi := by omega
    simp +decide (disch := first | omega | rfl | (simp +decide only [go_sem, ↓reduceIte, h5] <;> rfl) | fail) only [go_sem, ↓reduceIte, rem64K, quo64K, remI64K, quoI64K, mulK64, mk_empty, sl_3n, app_nil_map, mk_i64, max_nat, h5]
    refine retV_eq ?_ rfl
    have hle : lo ≤ x / y := (Nat.le_div_iff_mul_le hy0).2 (by rw [Nat.mul_comm]; exact h3)
    rcases h4 with rfl | h4
    · rw [Nat.min_eq_left hle]
    · have : x / y < lo + 1 := (Nat.div_lt_iff_lt_mul hy0).2 (by rw [Nat.mul_comm]; exact h4)
      congr 2; omega
theorem r1_DivMod_spec {a b : List Nat} (ha : limbs a) (hb : limbs b) (hla : a.length < 2 ^ 36) (hlb : b.length < 2 ^ 36) : FnSpec Tryz.prog 62 [PV.nat a, PV.nat b]
    (· = if val b = 0 then .tup [PV.num 0, PV.num 0, .int .i64 3] else .tup [PV.num (val a / val b), PV.num (val a % val b), .int .i64 0]) := by
  have hda := nl_le ha
  have hdb := nl_le hb
  refine fn_of_vc mixed Tryz.func62 rfl c62_ok (by simp [c62]) fun C hP => ?_; simp only [c62]
  simp +decide (disch := first | omega | rfl | (simp +decide only [go_sem, ↓reduceIte] <;> rfl) | fail) only [go_sem, ↓reduceIte, rem64K, quo64K, remI64K, quoI64K, mulK64, mk_empty, sl_3n, app_nil_map, mk_i64, max_nat]
  refine call_eq0 hP (r1_Norm_spec ha (by omega)) rfl rfl rfl ?_
  simp +decide (disch := first | omega | rfl | (simp +decide only [go_sem, ↓reduceIte] <;> rfl) | fail) only [go_sem, ↓reduceIte, rem64K, quo64K, remI64K, quoI64K, mulK64, mk_empty, sl_3n, app_nil_map, mk_i64, max_nat]
  refine call_eq0 hP (r1_Norm_spec hb (by omega)) rfl rfl rfl ?_
  simp +decide (disch := first | omega | rfl | (simp +decide only [go_sem, ↓reduceIte] <;> rfl) | fail) only [go_sem, ↓reduceIte, rem64K, quo64K, remI64K, quoI64K, mulK64, mk_empty, sl_3n, app_nil_map, mk_i64, max_nat]
  generalize val a = x at *
  generalize val b = y at *
  unfold nl at hda hdb
  refine cond_split (fun hz => ?_) (fun hz => ?_)
  · have hy0 : y = 0 := dig_eq_nil.1 (dig_nil_of (by omega))
    simp +decide (disch := first | omega | rfl | (simp +decide only [go_sem, ↓reduceIte] <;> rfl) | fail) only [go_sem, ↓reduceIte, rem64K, quo64K, remI64K, quoI64K, mulK64, mk_empty, sl_3n, app_nil_map, mk_i64, max_nat]
    rw [if_pos hy0]
    exact ret3 rfl rfl rfl rfl nil_num0 nil_num0 (le_refl _)
  have hy0 : y ≠ 0 := fun h => by rw [h, dig_zero] at hz; simp at hz
  rw [if_neg hy0]
  have hyp : 0 < y := Nat.pos_of_ne_zero hy0
  have hxl := limbs_dig x
  have hyl := limbs_dig y
  have hxv := val_dig x
  have hyv := val_dig y
  simp +decide (disch := first | omega | rfl | (simp +decide only [go_sem, ↓reduceIte] <;> rfl) | fail) only [go_sem, ↓reduceIte, rem64K, quo64K, remI64K, quoI64K, mulK64, mk_empty, sl_3n, app_nil_map, mk_i64, max_nat]
  refine guard_split (fun h1 => ?_) (fun h1 => ?_)
  · simp +decide (disch := first | omega | rfl | (simp +decide only [go_sem, ↓reduceIte] <;> rfl) | fail) only [go_sem, ↓reduceIte, rem64K, quo64K, remI64K, quoI64K, mulK64, mk_empty, sl_3n, app_nil_map, mk_i64, max_nat]
    refine cond_split (fun h2 => ?_) (fun h2 => ?_)
    · have hx64 := nl_small'.1 (show nl x ≤ 4 by unfold nl; omega)
      have hy64 := nl_small'.1 (show nl y ≤ 4 by unfold nl; omega)
      have hq := Nat.div_le_self x y
      have hr := Nat.mod_lt x hyp
      simp +decide (disch := first | omega | rfl | (simp +decide only [go_sem, ↓reduceIte] <;> rfl) | fail) only [go_sem, ↓reduceIte, rem64K, quo64K, remI64K, quoI64K, mulK64, mk_empty, sl_3n, app_nil_map, mk_i64, max_nat]
      refine call_eq0 hP (r1_short_spec hxl (by omega)) rfl rfl rfl ?_
      simp +decide (disch := first | omega | rfl | (simp +decide only [go_sem, ↓reduceIte, hxv] <;> rfl) | fail) only [go_sem, ↓reduceIte, rem64K, quo64K, remI64K, quoI64K, mulK64, mk_empty, sl_3n, app_nil_map, mk_i64, max_nat, hxv]
      refine call_eq0 hP (r1_short_spec hyl (by omega)) rfl rfl rfl ?_
      simp +decide (disch := first | omega | rfl | (simp +decide only [go_sem, ↓reduceIte, hxv, hyv, quo_u64] <;> rfl) | fail) only [go_sem, ↓reduceIte, rem64K, quo64K, remI64K, quoI64K, mulK64, mk_empty, sl_3n, app_nil_map, mk_i64, max_nat, hxv, hyv, quo_u64]
      refine call_eq0 hP (r1_Of_spec (n := x / y) (by omega)) rfl rfl rfl ?_
      simp +decide (disch := first | omega | rfl | (simp +decide only [go_sem, ↓reduceIte] <;> rfl) | fail) only [go_sem, ↓reduceIte, rem64K, quo64K, remI64K, quoI64K, mulK64, mk_empty, sl_3n, app_nil_map, mk_i64, max_nat]
      refine call_eq0 hP (r1_short_spec hxl (by omega)) rfl rfl rfl ?_
      simp +decide (disch := first | omega | rfl | (simp +decide only [go_sem, ↓reduceIte, hxv] <;> rfl) | fail) only [go_sem, ↓reduceIte, rem64K, quo64K, remI64K, quoI64K, mulK64, mk_empty, sl_3n, app_nil_map, mk_i64, max_nat, hxv]
      refine call_eq0 hP (r1_short_spec hyl (by omega)) rfl rfl rfl ?_
      simp +decide (disch := first | omega | rfl | (simp +decide only [go_sem, ↓reduceIte, hxv, hyv, rem_nat] <;> rfl) | fail) only [go_sem, ↓reduceIte, rem64K, quo64K, remI64K, quoI64K, mulK64, mk_empty, sl_3n, app_nil_map, mk_i64, max_nat, hxv, hyv, rem_nat]
      refine call_eq0 hP (r1_Of_spec (n := x % y) (by omega)) rfl rfl rfl ?_
      simp +decide (disch := first | omega | rfl | (simp +decide only [go_sem, ↓reduceIte] <;> rfl) | fail) only [go_sem, ↓reduceIte, rem64K, quo64K, remI64K, quoI64K, mulK64, mk_empty, sl_3n, app_nil_map, mk_i64, max_nat]
      exact ret3 rfl rfl rfl rfl (le_refl _) (le_refl _) (le_refl _)
    · have hsep := trivial
      simp +decide (disch := first | omega | rfl | (simp +decide only [go_sem, ↓reduceIte] <;> rfl) | fail) only [go_sem, ↓reduceIte, rem64K, quo64K, remI64K, quoI64K, mulK64, mk_empty, sl_3n, app_nil_map, mk_i64, max_nat]
      refine vc_nilD 7 1 (by simp +decide (disch := first | omega | rfl | (simp +decide only [go_sem, ↓reduceIte] <;> rfl) | fail) only [go_sem, ↓reduceIte, rem64K, quo64K, remI64K, quoI64K, mulK64, mk_empty, sl_3n, app_nil_map, mk_i64, max_nat]) ?_
      refine vc_nilD 8 1 (by simp +decide (disch := first | omega | rfl | (simp +decide only [go_sem, ↓reduceIte] <;> rfl) | fail) only [go_sem, ↓reduceIte, rem64K, quo64K, remI64K, quoI64K, mulK64, mk_empty, sl_3n, app_nil_map, mk_i64, max_nat]) ?_
      refine vc_loopS (by repeat (first | exact okSk_ret | exact okSk_retM | exact okSk_retO | apply okSk_back | apply okSk_out | apply okSk_eb | apply okSk_c | apply okSk_o | apply okSk_again | apply okSk_backW)) [(7, 10), (41, 69)] [49, 51, 58, 60] (fun k J hp => ∃ qs, k ≤ (dig x).length ∧ qs.length = (dig x).length - k ∧ limbs qs ∧ val qs = val ((dig x).drop k) / y ∧ J 7 = .sl 1 (u16s qs) ∧ J 8 = PV.num (val ((dig x).drop k) % y) ∧ J 9 = .int .i64 ((k : Int) - 1)) (dig x).length ?_ ?_
      · refine ⟨[], Nat.le_refl _, by simp, limbs_nil, by simp [val], ?_⟩
        simp +decide (disch := first | omega | rfl | (simp +decide only [go_sem, ↓reduceIte] <;> rfl) | fail) only [go_sem, ↓reduceIte, rem64K, quo64K, remI64K, quoI64K, mulK64, mk_empty, sl_3n, app_nil_map, mk_i64, max_nat]
        simp [val, dig_zero]
      rintro k J h ⟨qs, hk, hql, hqs, hqv, h7, h8, h9⟩
      simp +decide (disch := first | omega | rfl | (simp +decide only [go_sem, ↓reduceIte, h7, h8, h9] <;> rfl) | fail) only [go_sem, ↓reduceIte, rem64K, quo64K, remI64K, quoI64K, mulK64, mk_empty, sl_3n, app_nil_map, mk_i64, max_nat, h7, h8, h9]
      have hr := Nat.mod_lt (val ((dig x).drop k)) hyp
      refine cond_split (fun hg => ?_) (fun hg => ?_)
      · obtain _ | n := k
        · omega
        have hn : n < (dig x).length := by omega
        have han := limbs_get hxl hn
        have e : ((n + 1 : Nat) : Int) - 1 = n := by omega
        have hst := place_step (x := (dig x)[n]) hyp hqv
        rw [← val_drop hn] at hst
        generalize hV : val ((dig x).drop (n + 1)) % y = r at *
        generalize hxx : (dig x)[n] = xi at *
        have hrl : (dig r).length ≤ (dig y).length := nl_mono (Nat.le_of_lt hr)
        have hlim : limbs ([xi] ++ dig r) := by rw [limbs_append]; exact ⟨by intro z hz; simp at hz; omega, limbs_dig r⟩
        have hvl : val ([xi] ++ dig r) = r * 65536 + xi := by rw [val_append, val_dig]; simp [val]; omega
        have hlt : (r * 65536 + xi) / y < 65536 := by
          rw [Nat.div_lt_iff_lt_mul hyp]
          have : (r + 1) * 65536 ≤ y * 65536 := Nat.mul_le_mul_right _ hr
          omega
        have hnR : nl (r * 65536 + xi) ≤ (dig y).length + 1 := by
          have := nl_le hlim
          rw [hvl, List.length_append] at this
          simp at this; omega
        have hdm := Nat.div_add_mod (r * 65536 + xi) y
        have hnm : nl (y * ((r * 65536 + xi) / y)) ≤ (dig y).length + 1 := Nat.le_trans (nl_mono (by omega)) hnR
        have hn4 : nl ((r * 65536 + xi) / y) ≤ 4 := nl_small (by omega)
        have hsub : r * 65536 + xi - y * ((r * 65536 + xi) / y) = (r * 65536 + xi) % y := by omega
        simp +decide (disch := first | omega | rfl | (simp +decide only [go_sem, ↓reduceIte, h7, h8, h9, e, hxx] <;> rfl) | fail) only [go_sem, ↓reduceIte, rem64K, quo64K, remI64K, quoI64K, mulK64, mk_empty, sl_3n, app_nil_map, mk_i64, max_nat, h7, h8, h9, e, hxx]
        rw [app_map (f := fun (x : Nat) => .int .u16 x) (xs := [xi]) (ys := dig r) (n := 1) (by simp +decide (disch := first | omega | rfl | (simp +decide only [go_sem, ↓reduceIte] <;> rfl) | fail) only [go_sem, ↓reduceIte, rem64K, quo64K, remI64K, quoI64K, mulK64, mk_empty, sl_3n, app_nil_map, mk_i64, max_nat] <;> rfl) rfl (by omega) (by omega) (by omega)]
        simp +decide (disch := first | omega | rfl | (simp +decide only [go_sem, ↓reduceIte, h7, h8, h9, e, hxx] <;> rfl) | fail) only [go_sem, ↓reduceIte, rem64K, quo64K, remI64K, quoI64K, mulK64, mk_empty, sl_3n, app_nil_map, mk_i64, max_nat, h7, h8, h9, e, hxx]
        refine call_eq hP (r1_Norm_spec (l := [xi] ++ dig r) hlim (by simp; omega)) (by simp +decide (disch := first | omega | rfl | (simp +decide only [go_sem, ↓reduceIte, looks3, List.contains_cons, List.contains_nil, List.flatMap_cons, List.flatMap_nil, List.append_nil] <;> rfl) | fail) only [go_sem, ↓reduceIte, rem64K, quo64K, remI64K, quoI64K, mulK64, mk_empty, sl_3n, app_nil_map, mk_i64, max_nat, looks3, List.contains_cons, List.contains_nil, List.flatMap_cons, List.flatMap_nil, List.append_nil]; simp [Nat.add_comm 1, List.take_of_length_le]) rfl ?_
        rw [hvl]
        simp +decide (disch := first | omega | rfl | (simp +decide only [go_sem, ↓reduceIte, h7, h8, h9, e, hxx] <;> rfl) | fail) only [go_sem, ↓reduceIte, rem64K, quo64K, remI64K, quoI64K, mulK64, mk_empty, sl_3n, app_nil_map, mk_i64, max_nat, h7, h8, h9, e, hxx]
        refine call_eq0 hP (r1_digit_spec (x := r * 65536 + xi) (y := y) (by omega) (by unfold nl; omega) hyp) rfl rfl rfl ?_
        rw [Nat.min_eq_right (by omega : (r * 65536 + xi) / y ≤ 65535)]
        generalize hD : (r * 65536 + xi) / y = D at *
        simp +decide (disch := first | omega | rfl | (simp +decide only [go_sem, ↓reduceIte, h7, h8, h9, e, hxx, Nat.mod_eq_of_lt hlt] <;> rfl) | fail) only [go_sem, ↓reduceIte, rem64K, quo64K, remI64K, quoI64K, mulK64, mk_empty, sl_3n, app_nil_map, mk_i64, max_nat, h7, h8, h9, e, hxx, Nat.mod_eq_of_lt hlt]
        rw [app_map (f := fun (x : Nat) => .int .u16 x) (xs := [D]) (ys := qs) (n := 1) (by simp +decide (disch := first | omega | rfl | (simp +decide only [go_sem, ↓reduceIte] <;> rfl) | fail) only [go_sem, ↓reduceIte, rem64K, quo64K, remI64K, quoI64K, mulK64, mk_empty, sl_3n, app_nil_map, mk_i64, max_nat] <;> rfl) rfl (by omega) (by omega) (by omega)]
        simp +decide (disch := first | omega | rfl | (simp +decide only [go_sem, ↓reduceIte, h7, h8, h9, e, hxx] <;> rfl) | fail) only [go_sem, ↓reduceIte, rem64K, quo64K, remI64K, quoI64K, mulK64, mk_empty, sl_3n, app_nil_map, mk_i64, max_nat, h7, h8, h9, e, hxx]
        refine call_eq0 hP (r1_Of_spec (n := D) (by omega)) rfl rfl rfl ?_
        simp +decide (disch := first | omega | rfl | (simp +decide only [go_sem, ↓reduceIte, h7, h8, h9, e] <;> rfl) | fail) only [go_sem, ↓reduceIte, rem64K, quo64K, remI64K, quoI64K, mulK64, mk_empty, sl_3n, app_nil_map, mk_i64, max_nat, h7, h8, h9, e]
        refine call_eq0 hP (r1_Mul_num (x := y) (y := D) (by unfold nl; omega) (by omega)) rfl rfl rfl ?_
        simp +decide (disch := first | omega | rfl | (simp +decide only [go_sem, ↓reduceIte, h7, h8, h9, e] <;> rfl) | fail) only [go_sem, ↓reduceIte, rem64K, quo64K, remI64K, quoI64K, mulK64, mk_empty, sl_3n, app_nil_map, mk_i64, max_nat, h7, h8, h9, e]
        refine call_eq0 hP (r1_Sub_num (x := r * 65536 + xi) (y := y * D) (by omega) (by omega) (by omega)) rfl rfl rfl ?_
        rw [hsub]
        simp +decide (disch := first | omega | rfl | (simp +decide only [go_sem, ↓reduceIte, h7, h8, h9, e] <;> rfl) | fail) only [go_sem, ↓reduceIte, rem64K, quo64K, remI64K, quoI64K, mulK64, mk_empty, sl_3n, app_nil_map, mk_i64, max_nat, h7, h8, h9, e]
        refine backW_snap 7 n rfl ?_ (by omega) ⟨D :: qs, by omega, by simp; omega, ?_, ?_, ?_⟩
        · simp +decide (disch := first | omega | rfl | (simp +decide only [go_sem, ↓reduceIte, looks3, List.contains_cons, List.contains_nil, List.flatMap_cons, List.flatMap_nil, List.append_nil] <;> rfl) | fail) only [go_sem, ↓reduceIte, rem64K, quo64K, remI64K, quoI64K, mulK64, mk_empty, sl_3n, app_nil_map, mk_i64, max_nat, looks3, List.contains_cons, List.contains_nil, List.flatMap_cons, List.flatMap_nil, List.append_nil]
        · rw [limbs_cons]; exact ⟨hlt, hqs⟩
        · rw [val, hst.1]
        · simp +decide (disch := first | omega | rfl | (simp +decide only [go_sem, ↓reduceIte, looks3, List.contains_cons, List.contains_nil, List.flatMap_cons, List.flatMap_nil, List.append_nil, hst.2] <;> rfl) | fail) only [go_sem, ↓reduceIte, rem64K, quo64K, remI64K, quoI64K, mulK64, mk_empty, sl_3n, app_nil_map, mk_i64, max_nat, looks3, List.contains_cons, List.contains_nil, List.flatMap_cons, List.flatMap_nil, List.append_nil, hst.2]
          simp [Nat.add_comm 1, List.take_of_length_le]
      · obtain rfl : k = 0 := by omega
        rw [List.drop_zero, hxv] at hqv h8
        simp +decide (disch := first | omega | rfl | (simp +decide only [go_sem, ↓reduceIte, h7, h8] <;> rfl) | fail) only [go_sem, ↓reduceIte, rem64K, quo64K, remI64K, quoI64K, mulK64, mk_empty, sl_3n, app_nil_map, mk_i64, max_nat, h7, h8]
        refine call_eq0 hP (r1_Norm_spec hqs (by omega)) rfl rfl rfl ?_
        simp +decide (disch := first | omega | rfl | (simp +decide only [go_sem, ↓reduceIte, h7, h8] <;> rfl) | fail) only [go_sem, ↓reduceIte, rem64K, quo64K, remI64K, quoI64K, mulK64, mk_empty, sl_3n, app_nil_map, mk_i64, max_nat, h7, h8]
        exact ret3 rfl rfl rfl rfl (le_of_eq (by rw [hqv])) (le_refl _) (le_refl _)
  · have hsep := trivial
    simp +decide (disch := first | omega | rfl | (simp +decide only [go_sem, ↓reduceIte] <;> rfl) | fail) only [go_sem, ↓reduceIte, rem64K, quo64K, remI64K, quoI64K, mulK64, mk_empty, sl_3n, app_nil_map, mk_i64, max_nat]
    refine vc_nilD 7 1 (by simp +decide (disch := first | omega | rfl | (simp +decide only [go_sem, ↓reduceIte] <;> rfl) | fail) only [go_sem, ↓reduceIte, rem64K, quo64K, remI64K, quoI64K, mulK64, mk_empty, sl_3n, app_nil_map, mk_i64, max_nat]) ?_
    refine vc_nilD 8 1 (by simp +decide (disch := first | omega | rfl | (simp +decide only [go_sem, ↓reduceIte] <;> rfl) | fail) only [go_sem, ↓reduceIte, rem64K, quo64K, remI64K, quoI64K, mulK64, mk_empty, sl_3n, app_nil_map, mk_i64, max_nat]) ?_
    refine vc_loopS (by repeat (first | exact okSk_ret | exact okSk_retM | exact okSk_retO | apply okSk_back | apply okSk_out | apply okSk_eb | apply okSk_c | apply okSk_o | apply okSk_again | apply okSk_backW)) [(7, 10), (41, 69)] [49, 51, 58, 60] (fun k J hp => ∃ qs, k ≤ (dig x).length ∧ qs.length = (dig x).length - k ∧ limbs qs ∧ val qs = val ((dig x).drop k) / y ∧ J 7 = .sl 1 (u16s qs) ∧ J 8 = PV.num (val ((dig x).drop k) % y) ∧ J 9 = .int .i64 ((k : Int) - 1)) (dig x).length ?_ ?_
    · refine ⟨[], Nat.le_refl _, by simp, limbs_nil, by simp [val], ?_⟩
      simp +decide (disch := first | omega | rfl | (simp +decide only [go_sem, ↓reduceIte] <;> rfl) | fail) only [go_sem, ↓reduceIte, rem64K, quo64K, remI64K, quoI64K, mulK64, mk_empty, sl_3n, app_nil_map, mk_i64, max_nat]
      simp [val, dig_zero]
    rintro k J h ⟨qs, hk, hql, hqs, hqv, h7, h8, h9⟩
    simp +decide (disch := first | omega | rfl | (simp +decide only [go_sem, ↓reduceIte, h7, h8, h9] <;> rfl) | fail) only [go_sem, ↓reduceIte, rem64K, quo64K, remI64K, quoI64K, mulK64, mk_empty, sl_3n, app_nil_map, mk_i64, max_nat, h7, h8, h9]
    have hr := Nat.mod_lt (val ((dig x).drop k)) hyp
    refine cond_split (fun hg => ?_) (fun hg => ?_)
    · obtain _ | n := k
      · omega
      have hn : n < (dig x).length := by omega
      have han := limbs_get hxl hn
      have e : ((n + 1 : Nat) : Int) - 1 = n := by omega
      have hst := place_step (x := (dig x)[n]) hyp hqv
      rw [← val_drop hn] at hst
      generalize hV : val ((dig x).drop (n + 1)) % y = r at *
      generalize hxx : (dig x)[n] = xi at *
      have hrl : (dig r).length ≤ (dig y).length := nl_mono (Nat.le_of_lt hr)
      have hlim : limbs ([xi] ++ dig r) := by rw [limbs_append]; exact ⟨by intro z hz; simp at hz; omega, limbs_dig r⟩
      have hvl : val ([xi] ++ dig r) = r * 65536 + xi := by rw [val_append, val_dig]; simp [val]; omega
      have hlt : (r * 65536 + xi) / y < 65536 := by
        rw [Nat.div_lt_iff_lt_mul hyp]
        have : (r + 1) * 65536 ≤ y * 65536 := Nat.mul_le_mul_right _ hr
        omega
      have hnR : nl (r * 65536 + xi) ≤ (dig y).length + 1 := by
        have := nl_le hlim
        rw [hvl, List.length_append] at this
        simp at this; omega
      have hdm := Nat.div_add_mod (r * 65536 + xi) y
      have hnm : nl (y * ((r * 65536 + xi) / y)) ≤ (dig y).length + 1 := Nat.le_trans (nl_mono (by omega)) hnR
      have hn4 : nl ((r * 65536 + xi) / y) ≤ 4 := nl_small (by omega)
      have hsub : r * 65536 + xi - y * ((r * 65536 + xi) / y) = (r * 65536 + xi) % y := by omega
      simp +decide (disch := first | omega | rfl | (simp +decide only [go_sem, ↓reduceIte, h7, h8, h9, e, hxx] <;> rfl) | fail) only [go_sem, ↓reduceIte, rem64K, quo64K, remI64K, quoI64K, mulK64, mk_empty, sl_3n, app_nil_map, mk_i64, max_nat, h7, h8, h9, e, hxx]
      rw [app_map (f := fun (x : Nat) => .int .u16 x) (xs := [xi]) (ys := dig r) (n := 1) (by simp +decide (disch := first | omega | rfl | (simp +decide only [go_sem, ↓reduceIte] <;> rfl) | fail) only [go_sem, ↓reduceIte, rem64K, quo64K, remI64K, quoI64K, mulK64, mk_empty, sl_3n, app_nil_map, mk_i64, max_nat] <;> rfl) rfl (by omega) (by omega) (by omega)]
      simp +decide (disch := first | omega | rfl | (simp +decide only [go_sem, ↓reduceIte, h7, h8, h9, e, hxx] <;> rfl) | fail) only [go_sem, ↓reduceIte, rem64K, quo64K, remI64K, quoI64K, mulK64, mk_empty, sl_3n, app_nil_map, mk_i64, max_nat, h7, h8, h9, e, hxx]
      refine call_eq hP (r1_Norm_spec (l := [xi] ++ dig r) hlim (by simp; omega)) (by simp +decide (disch := first | omega | rfl | (simp +decide only [go_sem, ↓reduceIte, looks3, List.contains_cons, List.contains_nil, List.flatMap_cons, List.flatMap_nil, List.append_nil] <;> rfl) | fail) only [go_sem, ↓reduceIte, rem64K, quo64K, remI64K, quoI64K, mulK64, mk_empty, sl_3n, app_nil_map, mk_i64, max_nat, looks3, List.contains_cons, List.contains_nil, List.flatMap_cons, List.flatMap_nil, List.append_nil]; simp [Nat.add_comm 1, List.take_of_length_le]) rfl ?_
      rw [hvl]
      simp +decide (disch := first | omega | rfl | (simp +decide only [go_sem, ↓reduceIte, h7, h8, h9, e, hxx] <;> rfl) | fail) only [go_sem, ↓reduceIte, rem64K, quo64K, remI64K, quoI64K, mulK64, mk_empty, sl_3n, app_nil_map, mk_i64, max_nat, h7, h8, h9, e, hxx]
      refine call_eq0 hP (r1_digit_spec (x := r * 65536 + xi) (y := y) (by omega) (by unfold nl; omega) hyp) rfl rfl rfl ?_
      rw [Nat.min_eq_right (by omega : (r * 65536 + xi) / y ≤ 65535)]
      generalize hD : (r * 65536 + xi) / y = D at *
      simp +decide (disch := first | omega | rfl | (simp +decide only [go_sem, ↓reduceIte, h7, h8, h9, e, hxx, Nat.mod_eq_of_lt hlt] <;> rfl) | fail) only [go_sem, ↓reduceIte, rem64K, quo64K, remI64K, quoI64K, mulK64, mk_empty, sl_3n, app_nil_map, mk_i64, max_nat, h7, h8, h9, e, hxx, Nat.mod_eq_of_lt hlt]
      rw [app_map (f := fun (x : Nat) => .int .u16 x) (xs := [D]) (ys := qs) (n := 1) (by simp +decide (disch := first | omega | rfl | (simp +decide only [go_sem, ↓reduceIte] <;> rfl) | fail) only [go_sem, ↓reduceIte, rem64K, quo64K, remI64K, quoI64K, mulK64, mk_empty, sl_3n, app_nil_map, mk_i64, max_nat] <;> rfl) rfl (by omega) (by omega) (by omega)]
      simp +decide (disch := first | omega | rfl | (simp +decide only [go_sem, ↓reduceIte, h7, h8, h9, e, hxx] <;> rfl) | fail) only [go_sem, ↓reduceIte, rem64K, quo64K, remI64K, quoI64K, mulK64, mk_empty, sl_3n, app_nil_map, mk_i64, max_nat, h7, h8, h9, e, hxx]
      refine call_eq0 hP (r1_Of_spec (n := D) (by omega)) rfl rfl rfl ?_
      simp +decide (disch := first | omega | rfl | (simp +decide only [go_sem, ↓reduceIte, h7, h8, h9, e] <;> rfl) | fail) only [go_sem, ↓reduceIte, rem64K, quo64K, remI64K, quoI64K, mulK64, mk_empty, sl_3n, app_nil_map, mk_i64, max_nat, h7, h8, h9, e]
      refine call_eq0 hP (r1_Mul_num (x := y) (y := D) (by unfold nl; omega) (by omega)) rfl rfl rfl ?_
      simp +decide (disch := first | omega | rfl | (simp +decide only [go_sem, ↓reduceIte, h7, h8, h9, e] <;> rfl) | fail) only [go_sem, ↓reduceIte, rem64K, quo64K, remI64K, quoI64K, mulK64, mk_empty, sl_3n, app_nil_map, mk_i64, max_nat, h7, h8, h9, e]
      refine call_eq0 hP (r1_Sub_num (x := r * 65536 + xi) (y := y * D) (by omega) (by omega) (by omega)) rfl rfl rfl ?_
      rw [hsub]
      simp +decide (disch := first | omega | rfl | (simp +decide only [go_sem, ↓reduceIte, h7, h8, h9, e] <;> rfl) | fail) only [go_sem, ↓reduceIte, rem64K, quo64K, remI64K, quoI64K, mulK64, mk_empty, sl_3n, app_nil_map, mk_i64, max_nat, h7, h8, h9, e]
      refine backW_snap 7 n rfl ?_ (by omega) ⟨D :: qs, by omega, by simp; omega, ?_, ?_, ?_⟩
      · simp +decide (disch := first | omega | rfl | (simp +decide only [go_sem, ↓reduceIte, looks3, List.contains_cons, List.contains_nil, List.flatMap_cons, List.flatMap_nil, List.append_nil] <;> rfl) | fail) only [go_sem, ↓reduceIte, rem64K, quo64K, remI64K, quoI64K, mulK64, mk_empty, sl_3n, app_nil_map, mk_i64, max_nat, looks3, List.contains_cons, List.contains_nil, List.flatMap_cons, List.flatMap_nil, List.append_nil]
      · rw [limbs_cons]; exact ⟨hlt, hqs⟩
      · rw [val, hst.1]
      · simp +decide (disch := first | omega | rfl | (simp +decide only [go_sem, ↓reduceIte, looks3, List.contains_cons, List.contains_nil, List.flatMap_cons, List.flatMap_nil, List.append_nil, hst.2] <;> rfl) | fail) only [go_sem, ↓reduceIte, rem64K, quo64K, remI64K, quoI64K, mulK64, mk_empty, sl_3n, app_nil_map, mk_i64, max_nat, looks3, List.contains_cons, List.contains_nil, List.flatMap_cons, List.flatMap_nil, List.append_nil, hst.2]
        simp [Nat.add_comm 1, List.take_of_length_le]
    · obtain rfl : k = 0 := by omega
      rw [List.drop_zero, hxv] at hqv h8
      simp +decide (disch := first | omega | rfl | (simp +decide only [go_sem, ↓reduceIte, h7, h8] <;> rfl) | fail) only [go_sem, ↓reduceIte, rem64K, quo64K, remI64K, quoI64K, mulK64, mk_empty, sl_3n, app_nil_map, mk_i64, max_nat, h7, h8]
      refine call_eq0 hP (r1_Norm_spec hqs (by omega)) rfl rfl rfl ?_
      simp +decide (disch := first | omega | rfl | (simp +decide only [go_sem, ↓reduceIte, h7, h8] <;> rfl) | fail) only [go_sem, ↓reduceIte, rem64K, quo64K, remI64K, quoI64K, mulK64, mk_empty, sl_3n, app_nil_map, mk_i64, max_nat, h7, h8]
      exact ret3 rfl rfl rfl rfl (le_of_eq (by rw [hqv])) (le_refl _) (le_refl _)
end Go.Proofs.YtjkbalanglgoiaaGreat
namespace Go.Proofs.YtjkbalanglgoiaaGreat
open Go Go.FW
set_option linter.unusedSimpArgs false
set_option linter.unusedVariables false
set_option maxRecDepth 100000
theorem r1_DivMod_num {x y : Nat} (hx : nl x < 2 ^ 36) (hy : nl y < 2 ^ 36) (h0 : y ≠ 0) : FnSpec Tryz.prog 62 [PV.num x, PV.num y] (· = .tup [PV.num (x / y), PV.num (x % y), .int .i64 0]) := by
  have := r1_DivMod_spec (limbs_dig x) (limbs_dig y) hx hy
  rwa [val_dig, val_dig, if_neg h0] at this
theorem r1_Gcd_spec {a b : List Nat} (ha : limbs a) (hb : limbs b) (hla : a.length < 2 ^ 36) (hlb : b.length < 2 ^ 36) : FnSpec Tryz.prog 61 [PV.nat a, PV.nat b] (· = PV.num (Nat.gcd (val a) (val b))) := by
  have hda := nl_le ha
  have hdb := nl_le hb
  refine fn_of_vc mixed Tryz.func61 rfl c61_ok (by simp [c61]) fun C hP => ?_; simp only [c61]
  simp +decide (disch := first | omega | rfl | (simp +decide only [go_sem, ↓reduceIte] <;> rfl) | fail) only [go_sem, ↓reduceIte, rem64K, quo64K, remI64K, quoI64K, mulK64, mk_empty, sl_3n, app_nil_map, mk_i64, max_nat]
  refine call_eq0 hP (r1_Norm_spec ha (by omega)) rfl rfl rfl ?_
  simp +decide (disch := first | omega | rfl | (simp +decide only [go_sem, ↓reduceIte] <;> rfl) | fail) only [go_sem, ↓reduceIte, rem64K, quo64K, remI64K, quoI64K, mulK64, mk_empty, sl_3n, app_nil_map, mk_i64, max_nat]
  refine call_eq0 hP (r1_Norm_spec hb (by omega)) rfl rfl rfl ?_
  simp +decide (disch := first | omega | rfl | (simp +decide only [go_sem, ↓reduceIte] <;> rfl) | fail) only [go_sem, ↓reduceIte, rem64K, quo64K, remI64K, quoI64K, mulK64, mk_empty, sl_3n, app_nil_map, mk_i64, max_nat]
  refine vc_loopF (by repeat (first | exact okSk_ret | exact okSk_retM | exact okSk_retO | apply okSk_back | apply okSk_out | apply okSk_eb | apply okSk_c | apply okSk_o | apply okSk_again | apply okSk_backW)) [(0, 1), (5, 7), (12, 23)] [] (fun m J hp => ∃ x y, m = y ∧ Nat.gcd x y = Nat.gcd (val a) (val b) ∧ nl x < 2 ^ 36 ∧ nl y < 2 ^ 36 ∧ J 0 = PV.num x ∧ J 1 = PV.num y ∧ hp = hp0) (val b) ?_ ?_
  · refine ⟨val a, val b, rfl, rfl, by omega, by omega, ?_⟩
    simp +decide (disch := first | omega | rfl | (simp +decide only [go_sem, ↓reduceIte] <;> rfl) | fail) only [go_sem, ↓reduceIte, rem64K, quo64K, remI64K, quoI64K, mulK64, mk_empty, sl_3n, app_nil_map, mk_i64, max_nat]
  rintro y J _ ⟨x, _, rfl, hg, hx, hy, h0, h1, rfl⟩
  generalize Nat.gcd (val a) (val b) = g at *
  simp +decide (disch := first | omega | rfl | (simp +decide only [go_sem, ↓reduceIte, h0, h1] <;> rfl) | fail) only [go_sem, ↓reduceIte, rem64K, quo64K, remI64K, quoI64K, mulK64, mk_empty, sl_3n, app_nil_map, mk_i64, max_nat, h0, h1]
  refine cond_split (fun hc => ?_) (fun hc => ?_)
  · have hy0 : y ≠ 0 := fun h => by rw [h, dig_zero] at hc; simp at hc
    have hmod := nl_mono (Nat.le_of_lt (Nat.mod_lt x (Nat.pos_of_ne_zero hy0)))
    simp +decide (disch := first | omega | rfl | (simp +decide only [go_sem, ↓reduceIte, h0, h1] <;> rfl) | fail) only [go_sem, ↓reduceIte, rem64K, quo64K, remI64K, quoI64K, mulK64, mk_empty, sl_3n, app_nil_map, mk_i64, max_nat, h0, h1]
    refine call_eq0 hP (r1_DivMod_num (x := x) (y := y) hx hy hy0) rfl rfl rfl ?_
    simp +decide (disch := first | omega | rfl | (simp +decide only [go_sem, ↓reduceIte, h0, h1] <;> rfl) | fail) only [go_sem, ↓reduceIte, rem64K, quo64K, remI64K, quoI64K, mulK64, mk_empty, sl_3n, app_nil_map, mk_i64, max_nat, h0, h1]
    refine back_ovr (x % y) (Nat.mod_lt _ (Nat.pos_of_ne_zero hy0)) ⟨y, x % y, rfl, ?_, hy, by omega, ?_⟩
    · rw [← hg, Nat.gcd_comm x y, Nat.gcd_rec y x, Nat.gcd_comm]
    · simp +decide (disch := first | omega | rfl | (simp +decide only [go_sem, ↓reduceIte] <;> rfl) | fail) only [go_sem, ↓reduceIte, rem64K, quo64K, remI64K, quoI64K, mulK64, mk_empty, sl_3n, app_nil_map, mk_i64, max_nat]
  · have hy0 : y = 0 := dig_eq_nil.1 (dig_nil_of (by omega))
    subst hy0
    simp +decide (disch := first | omega | rfl | (simp +decide only [go_sem, ↓reduceIte, h0] <;> rfl) | fail) only [go_sem, ↓reduceIte, rem64K, quo64K, remI64K, quoI64K, mulK64, mk_empty, sl_3n, app_nil_map, mk_i64, max_nat, h0]
    exact retV_eq (by rw [← hg, Nat.gcd_zero_right]) rfl
end Go.Proofs.YtjkbalanglgoiaaGreat
namespace Go.Proofs.YtjkbalanglgoiaaGreat
open Go Go.FW
set_option linter.unusedSimpArgs false
set_option linter.unusedVariables false
set_option maxRecDepth 100000
theorem r2_of_spec {n : Bool} {a : List Nat} (ha : limbs a) (hla : a.length < 2 ^ 42) : FnSpec Tryz.prog 144 [.bool n, PV.nat a] (· = PV.zz (zv n a)) := by
  refine fn_of_vc mixed Tryz.func144 rfl c144_ok (by simp [c144]) fun C hP => ?_; simp only [c144]
  simp +decide (disch := first | omega | rfl | (simp +decide only [go_sem, ↓reduceIte] <;> rfl) | fail) only [go_sem, ↓reduceIte, rem64K, quo64K, remI64K, quoI64K, mulK64, mk_empty, sl_3n, app_nil_map, mk_i64, max_nat]
  refine call_eq0 hP (r1_Norm_spec ha hla) rfl rfl rfl ?_
  simp +decide (disch := first | omega | rfl | (simp +decide only [go_sem, ↓reduceIte] <;> rfl) | fail) only [go_sem, ↓reduceIte, rem64K, quo64K, remI64K, quoI64K, mulK64, mk_empty, sl_3n, app_nil_map, mk_i64, max_nat]
  refine guard_bool (fun hn => ?_) (fun hn => ?_)
  all_goals
    simp +decide (disch := first | omega | rfl | (simp +decide only [go_sem, ↓reduceIte] <;> rfl) | fail) only [go_sem, ↓reduceIte, rem64K, quo64K, remI64K, quoI64K, mulK64, mk_empty, sl_3n, app_nil_map, mk_i64, max_nat]
    refine ret_1 ?_
    simp +decide (disch := first | omega | rfl | (simp +decide only [go_sem, ↓reduceIte] <;> rfl) | fail) only [go_sem, ↓reduceIte, rem64K, quo64K, remI64K, quoI64K, mulK64, mk_empty, sl_3n, app_nil_map, mk_i64, max_nat]
    exact retV_eq (by have := zz_made n (val a); rw [hn] at this; subst hn; simpa [zv] using this) rfl
theorem r2_Norm_spec {n : Bool} {a : List Nat} (ha : limbs a) (hla : a.length < 2 ^ 42) : FnSpec Tryz.prog 136 [PV.zi n a] (· = PV.zz (zv n a)) := by
  refine fn_of_vc mixed Tryz.func136 rfl c136_ok (by simp [c136]) fun C hP => ?_; simp only [c136]
  simp +decide (disch := first | omega | rfl | (simp +decide only [go_sem, ↓reduceIte] <;> rfl) | fail) only [go_sem, ↓reduceIte, rem64K, quo64K, remI64K, quoI64K, mulK64, mk_empty, sl_3n, app_nil_map, mk_i64, max_nat]
  refine call_eq0 hP (r2_of_spec ha hla) rfl rfl rfl ?_
  simp +decide (disch := first | omega | rfl | (simp +decide only [go_sem, ↓reduceIte] <;> rfl) | fail) only [go_sem, ↓reduceIte, rem64K, quo64K, remI64K, quoI64K, mulK64, mk_empty, sl_3n, app_nil_map, mk_i64, max_nat]
  refine ret_1 ?_
  simp +decide (disch := first | omega | rfl | (simp +decide only [go_sem, ↓reduceIte] <;> rfl) | fail) only [go_sem, ↓reduceIte, rem64K, quo64K, remI64K, quoI64K, mulK64, mk_empty, sl_3n, app_nil_map, mk_i64, max_nat]
  exact retV_eq rfl rfl
theorem r2_Mul_spec {n m : Bool} {a b : List Nat} (ha : limbs a) (hb : limbs b) (hla : a.length < 2 ^ 40) (hlb : b.length < 2 ^ 40) : FnSpec Tryz.prog 114 [PV.zi n a, PV.zi m b] (· = PV.zz (zv n a * zv m b)) := by
  have hr : nl (val a * val b) < 2 ^ 42 := by have := nl_mul (val a) (val b); have := nl_le ha; have := nl_le hb; omega
  refine fn_of_vc mixed Tryz.func114 rfl c114_ok (by simp [c114]) fun C hP => ?_; simp only [c114]
  simp +decide (disch := first | omega | rfl | (simp +decide only [go_sem, ↓reduceIte] <;> rfl) | fail) only [go_sem, ↓reduceIte, rem64K, quo64K, remI64K, quoI64K, mulK64, mk_empty, sl_3n, app_nil_map, mk_i64, max_nat]
  refine call_eq0 hP (r1_Mul_spec ha hb hla hlb) rfl rfl rfl ?_
  simp +decide (disch := first | omega | rfl | (simp +decide only [go_sem, ↓reduceIte] <;> rfl) | fail) only [go_sem, ↓reduceIte, rem64K, quo64K, remI64K, quoI64K, mulK64, mk_empty, sl_3n, app_nil_map, mk_i64, max_nat]
  refine call_eq0 hP (r2_of_spec (n := !(n == m)) (limbs_dig (val a * val b)) hr) rfl rfl rfl ?_
  simp +decide (disch := first | omega | rfl | (simp +decide only [go_sem, ↓reduceIte] <;> rfl) | fail) only [go_sem, ↓reduceIte, rem64K, quo64K, remI64K, quoI64K, mulK64, mk_empty, sl_3n, app_nil_map, mk_i64, max_nat]
  refine ret_1 ?_
  simp +decide (disch := first | omega | rfl | (simp +decide only [go_sem, ↓reduceIte] <;> rfl) | fail) only [go_sem, ↓reduceIte, rem64K, quo64K, remI64K, quoI64K, mulK64, mk_empty, sl_3n, app_nil_map, mk_i64, max_nat]
  exact retV_eq (congrArg PV.zz (by rw [zv_num]; unfold zv; cases n <;> cases m <;> simp [Int.neg_mul, Int.mul_neg])) rfl
theorem r2_Of_spec {x : Int} (h1 : -9223372036854775808 ≤ x) (h2 : x ≤ 9223372036854775807) : FnSpec Tryz.prog 85 [.int .i64 x] (· = PV.zz x) := by
  refine fn_of_vc mixed Tryz.func85 rfl c85_ok (by simp [c85]) fun C hP => ?_; simp only [c85]
  simp +decide (disch := first | omega | rfl | (simp +decide only [go_sem, ↓reduceIte] <;> rfl) | fail) only [go_sem, ↓reduceIte, rem64K, quo64K, remI64K, quoI64K, mulK64, mk_empty, sl_3n, app_nil_map, mk_i64, max_nat]
  refine cond_split (fun hc => ?_) (fun hc => ?_)
  · obtain ⟨y, hy⟩ : ∃ y : Nat, x = -((y : Int) + 1) := ⟨(-(x + 1)).toNat, by omega⟩
    have e1 : IntKind.i64.wrap (x + 1) = -(y : Int) := by rw [wrap_i64 (by omega) (by omega)]; omega
    have e2 : IntKind.i64.wrap (0 - -(y : Int)) = (y : Int) := by rw [wrap_i64 (by omega) (by omega)]; omega
    have e3 : IntKind.u64.wrap (y : Int) = (y : Int) := wrap_u64 (by omega) (by omega)
    have hl1 : nl y ≤ 4 := nl_small (by omega)
    have hl2 : nl (y + 1) ≤ 4 := nl_small (by omega)
    simp +decide (disch := first | omega | rfl | (simp +decide only [go_sem, ↓reduceIte, e1, e2, e3] <;> rfl) | fail) only [go_sem, ↓reduceIte, rem64K, quo64K, remI64K, quoI64K, mulK64, mk_empty, sl_3n, app_nil_map, mk_i64, max_nat, e1, e2, e3]
    refine call_eq0 hP (r1_Of_spec (n := y) (by omega)) rfl rfl rfl ?_
    simp +decide (disch := first | omega | rfl | (simp +decide only [go_sem, ↓reduceIte] <;> rfl) | fail) only [go_sem, ↓reduceIte, rem64K, quo64K, remI64K, quoI64K, mulK64, mk_empty, sl_3n, app_nil_map, mk_i64, max_nat]
    refine call_eq0 hP (r1_Of_spec (n := 1) (by omega)) rfl rfl rfl ?_
    simp +decide (disch := first | omega | rfl | (simp +decide only [go_sem, ↓reduceIte] <;> rfl) | fail) only [go_sem, ↓reduceIte, rem64K, quo64K, remI64K, quoI64K, mulK64, mk_empty, sl_3n, app_nil_map, mk_i64, max_nat]
    refine call_eq0 hP (r1_Add_spec (limbs_dig y) (limbs_dig 1) (show nl y < _ by omega) (show nl 1 < _ by rw [nl_one]; omega)) rfl rfl rfl ?_
    simp +decide (disch := first | omega | rfl | (simp +decide only [go_sem, ↓reduceIte] <;> rfl) | fail) only [go_sem, ↓reduceIte, rem64K, quo64K, remI64K, quoI64K, mulK64, mk_empty, sl_3n, app_nil_map, mk_i64, max_nat]
    refine call_eq0 hP (r2_of_spec (n := true) (limbs_dig (val (dig y) + val (dig 1))) (show nl _ < _ by rw [val_dig, val_dig]; omega)) rfl rfl rfl ?_
    simp +decide (disch := first | omega | rfl | (simp +decide only [go_sem, ↓reduceIte] <;> rfl) | fail) only [go_sem, ↓reduceIte, rem64K, quo64K, remI64K, quoI64K, mulK64, mk_empty, sl_3n, app_nil_map, mk_i64, max_nat]
    refine ret_1 ?_
    simp +decide (disch := first | omega | rfl | (simp +decide only [go_sem, ↓reduceIte] <;> rfl) | fail) only [go_sem, ↓reduceIte, rem64K, quo64K, remI64K, quoI64K, mulK64, mk_empty, sl_3n, app_nil_map, mk_i64, max_nat]
    exact retV_eq (congrArg PV.zz (by rw [zv_num, val_dig, val_dig]; simp; omega)) rfl
  · obtain ⟨y, rfl⟩ : ∃ y : Nat, x = y := ⟨x.toNat, by omega⟩
    have hl1 : nl y ≤ 4 := nl_small (by omega)
    simp +decide (disch := first | omega | rfl | (simp +decide only [go_sem, ↓reduceIte] <;> rfl) | fail) only [go_sem, ↓reduceIte, rem64K, quo64K, remI64K, quoI64K, mulK64, mk_empty, sl_3n, app_nil_map, mk_i64, max_nat]
    refine call_eq0 hP (r1_Of_spec (by omega)) rfl rfl rfl ?_
    simp +decide (disch := first | omega | rfl | (simp +decide only [go_sem, ↓reduceIte] <;> rfl) | fail) only [go_sem, ↓reduceIte, rem64K, quo64K, remI64K, quoI64K, mulK64, mk_empty, sl_3n, app_nil_map, mk_i64, max_nat]
    refine call_eq0 hP (r2_of_spec (n := false) (limbs_dig y) (show nl _ < _ by omega)) rfl rfl rfl ?_
    simp +decide (disch := first | omega | rfl | (simp +decide only [go_sem, ↓reduceIte] <;> rfl) | fail) only [go_sem, ↓reduceIte, rem64K, quo64K, remI64K, quoI64K, mulK64, mk_empty, sl_3n, app_nil_map, mk_i64, max_nat]
    refine ret_1 ?_
    simp +decide (disch := first | omega | rfl | (simp +decide only [go_sem, ↓reduceIte] <;> rfl) | fail) only [go_sem, ↓reduceIte, rem64K, quo64K, remI64K, quoI64K, mulK64, mk_empty, sl_3n, app_nil_map, mk_i64, max_nat]
    exact retV_eq (congrArg PV.zz (by rw [zv_num]; simp)) rfl
theorem r2_Sign_spec {n : Bool} {a : List Nat} (ha : limbs a) (hla : a.length < 2 ^ 42) : FnSpec Tryz.prog 66 [PV.zi n a] (· = .int .i64 (sgn (zv n a))) := by
  refine fn_of_vc mixed Tryz.func66 rfl c66_ok (by simp [c66]) fun C hP => ?_; simp only [c66]
  simp +decide (disch := first | omega | rfl | (simp +decide only [go_sem, ↓reduceIte] <;> rfl) | fail) only [go_sem, ↓reduceIte, rem64K, quo64K, remI64K, quoI64K, mulK64, mk_empty, sl_3n, app_nil_map, mk_i64, max_nat]
  refine call_eq0 hP (r2_Norm_spec ha hla) rfl rfl rfl ?_
  generalize zv n a = z
  simp +decide (disch := first | omega | rfl | (simp +decide only [go_sem, ↓reduceIte] <;> rfl) | fail) only [go_sem, ↓reduceIte, rem64K, quo64K, remI64K, quoI64K, mulK64, mk_empty, sl_3n, app_nil_map, mk_i64, max_nat]
  refine cond_split (fun hz => ?_) (fun hz => ?_)
  · have : z = 0 := by have := dig_eq_nil.1 (dig_nil_of (n := z.natAbs) (by omega)); omega
    subst this
    simp +decide (disch := first | omega | rfl | (simp +decide only [go_sem, ↓reduceIte] <;> rfl) | fail) only [go_sem, ↓reduceIte, rem64K, quo64K, remI64K, quoI64K, mulK64, mk_empty, sl_3n, app_nil_map, mk_i64, max_nat]
    exact retV_eq rfl rfl
  · have h0 : z ≠ 0 := fun h => by subst h; exact hz (by simp [dig_zero])
    simp +decide (disch := first | omega | rfl | (simp +decide only [go_sem, ↓reduceIte] <;> rfl) | fail) only [go_sem, ↓reduceIte, rem64K, quo64K, remI64K, quoI64K, mulK64, mk_empty, sl_3n, app_nil_map, mk_i64, max_nat]
    refine cond_bool (fun hn => ?_) (fun hn => ?_)
    · have hn : z < 0 := by simpa using hn
      simp +decide (disch := first | omega | rfl | (simp +decide only [go_sem, ↓reduceIte] <;> rfl) | fail) only [go_sem, ↓reduceIte, rem64K, quo64K, remI64K, quoI64K, mulK64, mk_empty, sl_3n, app_nil_map, mk_i64, max_nat]
      exact retV_eq (by rw [sgn, if_pos hn]) rfl
    · have hn : ¬ z < 0 := by simpa using hn
      simp +decide (disch := first | omega | rfl | (simp +decide only [go_sem, ↓reduceIte] <;> rfl) | fail) only [go_sem, ↓reduceIte, rem64K, quo64K, remI64K, quoI64K, mulK64, mk_empty, sl_3n, app_nil_map, mk_i64, max_nat]
      exact retV_eq (by rw [sgn, if_neg hn, if_pos (by omega)]) rfl
theorem r2_Right_spec {n : Bool} {a : List Nat} (ha : limbs a) (hla : a.length < 2 ^ 42) : FnSpec Tryz.prog 151 [PV.zi n a] (· = .bool (intOk n a)) := by
  refine fn_of_vc mixed Tryz.func151 rfl c151_ok (by simp [c151]) fun C hP => ?_; simp only [c151]
  simp +decide (disch := first | omega | rfl | (simp +decide only [go_sem, ↓reduceIte] <;> rfl) | fail) only [go_sem, ↓reduceIte, rem64K, quo64K, remI64K, quoI64K, mulK64, mk_empty, sl_3n, app_nil_map, mk_i64, max_nat]
  refine call_eq0 hP (r1_Valid_spec ha (by omega)) rfl rfl rfl ?_
  simp +decide (disch := first | omega | rfl | (simp +decide only [go_sem, ↓reduceIte] <;> rfl) | fail) only [go_sem, ↓reduceIte, rem64K, quo64K, remI64K, quoI64K, mulK64, mk_empty, sl_3n, app_nil_map, mk_i64, max_nat]
  refine guard_bool (fun hv => ?_) (fun hv => ?_)
  · simp +decide (disch := first | omega | rfl | (simp +decide only [go_sem, ↓reduceIte] <;> rfl) | fail) only [go_sem, ↓reduceIte, rem64K, quo64K, remI64K, quoI64K, mulK64, mk_empty, sl_3n, app_nil_map, mk_i64, max_nat]
    refine guard_bool (fun hn => ?_) (fun hn => ?_)
    · simp +decide (disch := first | omega | rfl | (simp +decide only [go_sem, ↓reduceIte] <;> rfl) | fail) only [go_sem, ↓reduceIte, rem64K, quo64K, remI64K, quoI64K, mulK64, mk_empty, sl_3n, app_nil_map, mk_i64, max_nat]
      exact retV_eq (congrArg PV.bool (by unfold intOk; subst hn; cases a <;> simp_all <;> omega)) rfl
    · simp +decide (disch := first | omega | rfl | (simp +decide only [go_sem, ↓reduceIte] <;> rfl) | fail) only [go_sem, ↓reduceIte, rem64K, quo64K, remI64K, quoI64K, mulK64, mk_empty, sl_3n, app_nil_map, mk_i64, max_nat]
      exact retV_eq (congrArg PV.bool (by unfold intOk; subst hn; cases a <;> simp_all)) rfl
  · simp +decide (disch := first | omega | rfl | (simp +decide only [go_sem, ↓reduceIte] <;> rfl) | fail) only [go_sem, ↓reduceIte, rem64K, quo64K, remI64K, quoI64K, mulK64, mk_empty, sl_3n, app_nil_map, mk_i64, max_nat]
    exact retV_eq (congrArg PV.bool (by unfold intOk; cases a <;> simp_all)) rfl
theorem r2_Cmp_spec {n m : Bool} {a b : List Nat} (ha : limbs a) (hb : limbs b) (hla : a.length < 2 ^ 41) (hlb : b.length < 2 ^ 41) : FnSpec Tryz.prog 146 [PV.zi n a, PV.zi m b] (· = .int .i64 (cmpZ (zv n a) (zv m b))) := by
  have hx : nl (zv n a).natAbs < 2 ^ 41 := by rw [zv_natAbs]; have := nl_le ha; omega
  have hy : nl (zv m b).natAbs < 2 ^ 41 := by rw [zv_natAbs]; have := nl_le hb; omega
  refine fn_of_vc mixed Tryz.func146 rfl c146_ok (by simp [c146]) fun C hP => ?_; simp only [c146]
  simp +decide (disch := first | omega | rfl | (simp +decide only [go_sem, ↓reduceIte] <;> rfl) | fail) only [go_sem, ↓reduceIte, rem64K, quo64K, remI64K, quoI64K, mulK64, mk_empty, sl_3n, app_nil_map, mk_i64, max_nat]
  refine call_eq0 hP (r2_Norm_spec ha (by omega)) rfl rfl rfl ?_
  simp +decide (disch := first | omega | rfl | (simp +decide only [go_sem, ↓reduceIte] <;> rfl) | fail) only [go_sem, ↓reduceIte, rem64K, quo64K, remI64K, quoI64K, mulK64, mk_empty, sl_3n, app_nil_map, mk_i64, max_nat]
  refine call_eq0 hP (r2_Norm_spec hb (by omega)) rfl rfl rfl ?_
  generalize zv n a = x at *
  generalize zv m b = y at *
  have lx : (dig x.natAbs).length < 2 ^ 41 := hx
  have ly : (dig y.natAbs).length < 2 ^ 41 := hy
  by_cases hx0 : x < 0 <;> by_cases hy0 : y < 0
  · simp +decide (disch := first | omega | rfl | (simp +decide only [go_sem, ↓reduceIte, hx0, hy0] <;> rfl) | fail) only [go_sem, ↓reduceIte, rem64K, quo64K, remI64K, quoI64K, mulK64, mk_empty, sl_3n, app_nil_map, mk_i64, max_nat, hx0, hy0]
    refine call_eq0 hP (r1_Cmp_spec (limbs_dig y.natAbs) (limbs_dig x.natAbs) (by omega) (by omega)) rfl rfl rfl ?_
    simp +decide (disch := first | omega | rfl | (simp +decide only [go_sem, ↓reduceIte] <;> rfl) | fail) only [go_sem, ↓reduceIte, rem64K, quo64K, remI64K, quoI64K, mulK64, mk_empty, sl_3n, app_nil_map, mk_i64, max_nat]
    exact retV_eq (congrArg (PV.int .i64) (by rw [val_dig, val_dig]; unfold cmpI cmpZ; split <;> split <;> (try split) <;> (try split) <;> omega)) rfl
  · simp +decide (disch := first | omega | rfl | (simp +decide only [go_sem, ↓reduceIte, hx0, hy0] <;> rfl) | fail) only [go_sem, ↓reduceIte, rem64K, quo64K, remI64K, quoI64K, mulK64, mk_empty, sl_3n, app_nil_map, mk_i64, max_nat, hx0, hy0]
    exact retV_eq (congrArg (PV.int .i64) (by unfold cmpZ; rw [if_pos (by omega)])) rfl
  · simp +decide (disch := first | omega | rfl | (simp +decide only [go_sem, ↓reduceIte, hx0, hy0] <;> rfl) | fail) only [go_sem, ↓reduceIte, rem64K, quo64K, remI64K, quoI64K, mulK64, mk_empty, sl_3n, app_nil_map, mk_i64, max_nat, hx0, hy0]
    exact retV_eq (congrArg (PV.int .i64) (by unfold cmpZ; rw [if_neg (by omega), if_pos (by omega)])) rfl
  · simp +decide (disch := first | omega | rfl | (simp +decide only [go_sem, ↓reduceIte, hx0, hy0] <;> rfl) | fail) only [go_sem, ↓reduceIte, rem64K, quo64K, remI64K, quoI64K, mulK64, mk_empty, sl_3n, app_nil_map, mk_i64, max_nat, hx0, hy0]
    refine call_eq0 hP (r1_Cmp_spec (limbs_dig x.natAbs) (limbs_dig y.natAbs) (by omega) (by omega)) rfl rfl rfl ?_
    simp +decide (disch := first | omega | rfl | (simp +decide only [go_sem, ↓reduceIte] <;> rfl) | fail) only [go_sem, ↓reduceIte, rem64K, quo64K, remI64K, quoI64K, mulK64, mk_empty, sl_3n, app_nil_map, mk_i64, max_nat]
    exact retV_eq (congrArg (PV.int .i64) (by rw [val_dig, val_dig]; unfold cmpI cmpZ; split <;> split <;> (try split) <;> (try split) <;> omega)) rfl
theorem r2_Add_spec {n m : Bool} {a b : List Nat} (ha : limbs a) (hb : limbs b) (hla : a.length < 2 ^ 40) (hlb : b.length < 2 ^ 40) : FnSpec Tryz.prog 157 [PV.zi n a, PV.zi m b] (· = PV.zz (zv n a + zv m b)) := by
  have hda := nl_le ha
  have hdb := nl_le hb
  refine fn_of_vc mixed Tryz.func157 rfl c157_ok (by simp [c157]) fun C hP => ?_; simp only [c157]
  simp +decide (disch := first | omega | rfl | (simp +decide only [go_sem, ↓reduceIte] <;> rfl) | fail) only [go_sem, ↓reduceIte, rem64K, quo64K, remI64K, quoI64K, mulK64, mk_empty, sl_3n, app_nil_map, mk_i64, max_nat]
  refine cond_bool (fun hnm => ?_) (fun hnm => ?_)
  · have hnm : n = m := by simpa using hnm
    subst hnm
    have hr := nl_add (val a) (val b)
    simp +decide (disch := first | omega | rfl | (simp +decide only [go_sem, ↓reduceIte] <;> rfl) | fail) only [go_sem, ↓reduceIte, rem64K, quo64K, remI64K, quoI64K, mulK64, mk_empty, sl_3n, app_nil_map, mk_i64, max_nat]
    refine call_eq0 hP (r1_Add_spec ha hb hla hlb) rfl rfl rfl ?_
    simp +decide (disch := first | omega | rfl | (simp +decide only [go_sem, ↓reduceIte] <;> rfl) | fail) only [go_sem, ↓reduceIte, rem64K, quo64K, remI64K, quoI64K, mulK64, mk_empty, sl_3n, app_nil_map, mk_i64, max_nat]
    refine call_eq0 hP (r2_of_spec (n := n) (limbs_dig (val a + val b)) (show nl _ < _ by omega)) rfl rfl rfl ?_
    simp +decide (disch := first | omega | rfl | (simp +decide only [go_sem, ↓reduceIte] <;> rfl) | fail) only [go_sem, ↓reduceIte, rem64K, quo64K, remI64K, quoI64K, mulK64, mk_empty, sl_3n, app_nil_map, mk_i64, max_nat]
    refine ret_1 ?_
    simp +decide (disch := first | omega | rfl | (simp +decide only [go_sem, ↓reduceIte] <;> rfl) | fail) only [go_sem, ↓reduceIte, rem64K, quo64K, remI64K, quoI64K, mulK64, mk_empty, sl_3n, app_nil_map, mk_i64, max_nat]
    exact retV_eq (congrArg PV.zz (by rw [zv_num]; unfold zv; split <;> simp <;> omega)) rfl
  have hnm : n = !m := by cases n <;> cases m <;> simp_all
  subst hnm
  simp +decide (disch := first | omega | rfl | (simp +decide only [go_sem, ↓reduceIte] <;> rfl) | fail) only [go_sem, ↓reduceIte, rem64K, quo64K, remI64K, quoI64K, mulK64, mk_empty, sl_3n, app_nil_map, mk_i64, max_nat]
  refine call_eq0 hP (r1_Sub_spec ha hb hla hlb) rfl rfl rfl ?_
  by_cases hc : val a < val b
  · rw [if_pos hc]
    have hr := nl_mono (Nat.sub_le (val b) (val a))
    simp +decide (disch := first | omega | rfl | (simp +decide only [go_sem, ↓reduceIte] <;> rfl) | fail) only [go_sem, ↓reduceIte, rem64K, quo64K, remI64K, quoI64K, mulK64, mk_empty, sl_3n, app_nil_map, mk_i64, max_nat]
    refine call_eq0 hP (r1_Sub_spec hb ha hlb hla) rfl rfl rfl ?_
    rw [if_neg (by omega)]
    simp +decide (disch := first | omega | rfl | (simp +decide only [go_sem, ↓reduceIte] <;> rfl) | fail) only [go_sem, ↓reduceIte, rem64K, quo64K, remI64K, quoI64K, mulK64, mk_empty, sl_3n, app_nil_map, mk_i64, max_nat]
    refine call_eq0 hP (r2_of_spec (n := m) (limbs_dig (val b - val a)) (show nl _ < _ by omega)) rfl rfl rfl ?_
    simp +decide (disch := first | omega | rfl | (simp +decide only [go_sem, ↓reduceIte] <;> rfl) | fail) only [go_sem, ↓reduceIte, rem64K, quo64K, remI64K, quoI64K, mulK64, mk_empty, sl_3n, app_nil_map, mk_i64, max_nat]
    refine ret_1 ?_
    simp +decide (disch := first | omega | rfl | (simp +decide only [go_sem, ↓reduceIte] <;> rfl) | fail) only [go_sem, ↓reduceIte, rem64K, quo64K, remI64K, quoI64K, mulK64, mk_empty, sl_3n, app_nil_map, mk_i64, max_nat]
    exact retV_eq (congrArg PV.zz (by rw [zv_num]; unfold zv; cases m <;> simp <;> omega)) rfl
  · rw [if_neg hc]
    have hr := nl_mono (Nat.sub_le (val a) (val b))
    simp +decide (disch := first | omega | rfl | (simp +decide only [go_sem, ↓reduceIte] <;> rfl) | fail) only [go_sem, ↓reduceIte, rem64K, quo64K, remI64K, quoI64K, mulK64, mk_empty, sl_3n, app_nil_map, mk_i64, max_nat]
    refine call_eq0 hP (r2_of_spec (n := !m) (limbs_dig (val a - val b)) (show nl _ < _ by omega)) rfl rfl rfl ?_
    simp +decide (disch := first | omega | rfl | (simp +decide only [go_sem, ↓reduceIte] <;> rfl) | fail) only [go_sem, ↓reduceIte, rem64K, quo64K, remI64K, quoI64K, mulK64, mk_empty, sl_3n, app_nil_map, mk_i64, max_nat]
    refine ret_1 ?_
    simp +decide (disch := first | omega | rfl | (simp +decide only [go_sem, ↓reduceIte] <;> rfl) | fail) only [go_sem, ↓reduceIte, rem64K, quo64K, remI64K, quoI64K, mulK64, mk_empty, sl_3n, app_nil_map, mk_i64, max_nat]
    exact retV_eq (congrArg PV.zz (by rw [zv_num]; unfold zv; cases m <;> simp <;> omega)) rfl
end Go.Proofs.YtjkbalanglgoiaaGreat
namespace Go.Proofs.YtjkbalanglgoiaaGreat
open Go Go.FW
set_option linter.unusedSimpArgs false
set_option linter.unusedVariables false
set_option maxRecDepth 100000
theorem r1_DivMod_by {a : List Nat} {g : Nat} (ha : limbs a) (hx : a.length < 2 ^ 36) (hy : nl g < 2 ^ 36) (h0 : g ≠ 0) : FnSpec Tryz.prog 62 [PV.nat a, PV.num g] (· = .tup [PV.num (val a / g), PV.num (val a % g), .int .i64 0]) := by
  have := r1_DivMod_spec ha (limbs_dig g) hx hy
  rwa [val_dig, if_neg h0] at this
theorem zv_div (n : Bool) (a : List Nat) (D : Nat) : zv n (dig (val a / Nat.gcd (val a) D)) = zv n a / (Nat.gcd (zv n a).natAbs D : Int) := by
  rw [zv_natAbs, zv_num]
  unfold zv
  cases n
  · simp
  · have hd : ((Nat.gcd (val a) D : Nat) : Int) ∣ (val a : Int) := Int.natCast_dvd_natCast.2 (Nat.gcd_dvd_left _ _)
    simp only [if_true]
    rw [Int.neg_ediv_of_dvd hd, Int.natCast_ediv]
theorem r3_over_spec {n : Bool} {a d : List Nat} (ha : limbs a) (hd : limbs d) (hla : a.length < 2 ^ 36) (hld : d.length < 2 ^ 36) : FnSpec Tryz.prog 87 [PV.zi n a, PV.nat d] (· = PV.rat (rv n a d)) := by
  have hna := nl_le ha
  have hnd := nl_le hd
  refine fn_of_vc mixed Tryz.func87 rfl c87_ok (by simp [c87]) fun C hP => ?_; simp only [c87]
  simp +decide (disch := first | omega | rfl | (simp +decide only [go_sem, ↓reduceIte] <;> rfl) | fail) only [go_sem, ↓reduceIte, rem64K, quo64K, remI64K, quoI64K, mulK64, mk_empty, sl_3n, app_nil_map, mk_i64, max_nat]
  refine call_eq0 hP (r1_Norm_spec hd (by omega)) rfl rfl rfl ?_
  simp +decide (disch := first | omega | rfl | (simp +decide only [go_sem, ↓reduceIte] <;> rfl) | fail) only [go_sem, ↓reduceIte, rem64K, quo64K, remI64K, quoI64K, mulK64, mk_empty, sl_3n, app_nil_map, mk_i64, max_nat]
  refine cond_split (fun hz => ?_) (fun hz => ?_)
  · have h0 : val d = 0 := dig_eq_nil.1 (dig_nil_of (n := val d) (by omega))
    simp +decide (disch := first | omega | rfl | (simp +decide only [go_sem, ↓reduceIte] <;> rfl) | fail) only [go_sem, ↓reduceIte, rem64K, quo64K, remI64K, quoI64K, mulK64, mk_empty, sl_3n, app_nil_map, mk_i64, max_nat]
    refine call_eq0 hP (r1_Of_spec (n := 1) (by omega)) rfl rfl rfl ?_
    simp +decide (disch := first | omega | rfl | (simp +decide only [go_sem, ↓reduceIte] <;> rfl) | fail) only [go_sem, ↓reduceIte, rem64K, quo64K, remI64K, quoI64K, mulK64, mk_empty, sl_3n, app_nil_map, mk_i64, max_nat]
    refine ret_1 ?_
    simp +decide (disch := first | omega | rfl | (simp +decide only [go_sem, ↓reduceIte] <;> rfl) | fail) only [go_sem, ↓reduceIte, rem64K, quo64K, remI64K, quoI64K, mulK64, mk_empty, sl_3n, app_nil_map, mk_i64, max_nat]
    exact (by unfold rv; rw [mkRat_zero' (.inl h0), dig_one]; exact retV_le rat_0le rfl)
  · have h0 : val d ≠ 0 := fun h => by rw [h, dig_zero] at hz; exact hz rfl
    have hg0 : Nat.gcd (val a) (val d) ≠ 0 := fun h => h0 (Nat.gcd_eq_zero_iff.1 h).2
    have hg := nl_mono (Nat.gcd_le_right (val a) (Nat.pos_of_ne_zero h0))
    have hq := nl_div (val a) (Nat.gcd (val a) (val d))
    simp +decide (disch := first | omega | rfl | (simp +decide only [go_sem, ↓reduceIte] <;> rfl) | fail) only [go_sem, ↓reduceIte, rem64K, quo64K, remI64K, quoI64K, mulK64, mk_empty, sl_3n, app_nil_map, mk_i64, max_nat]
    refine call_eq0 hP (r1_Gcd_spec ha hd hla hld) rfl rfl rfl ?_
    simp +decide (disch := first | omega | rfl | (simp +decide only [go_sem, ↓reduceIte] <;> rfl) | fail) only [go_sem, ↓reduceIte, rem64K, quo64K, remI64K, quoI64K, mulK64, mk_empty, sl_3n, app_nil_map, mk_i64, max_nat]
    refine call_eq0 hP (r1_DivMod_by ha hla (by omega) hg0) rfl rfl rfl ?_
    simp +decide (disch := first | omega | rfl | (simp +decide only [go_sem, ↓reduceIte] <;> rfl) | fail) only [go_sem, ↓reduceIte, rem64K, quo64K, remI64K, quoI64K, mulK64, mk_empty, sl_3n, app_nil_map, mk_i64, max_nat]
    refine call_eq0 hP (r1_DivMod_by hd hld (by omega) hg0) rfl rfl rfl ?_
    simp +decide (disch := first | omega | rfl | (simp +decide only [go_sem, ↓reduceIte] <;> rfl) | fail) only [go_sem, ↓reduceIte, rem64K, quo64K, remI64K, quoI64K, mulK64, mk_empty, sl_3n, app_nil_map, mk_i64, max_nat]
    refine call_eq0 hP (r2_Norm_spec (n := n) (limbs_dig (val a / Nat.gcd (val a) (val d))) (show nl _ < _ by omega)) rfl rfl rfl ?_
    rw [zv_div]
    have hm := mkRat_num (z := zv n a) h0
    simp +decide (disch := first | omega | rfl | (simp +decide only [go_sem, ↓reduceIte] <;> rfl) | fail) only [go_sem, ↓reduceIte, rem64K, quo64K, remI64K, quoI64K, mulK64, mk_empty, sl_3n, app_nil_map, mk_i64, max_nat]
    refine ret_1 ?_
    simp +decide (disch := first | omega | rfl | (simp +decide only [go_sem, ↓reduceIte] <;> rfl) | fail) only [go_sem, ↓reduceIte, rem64K, quo64K, remI64K, quoI64K, mulK64, mk_empty, sl_3n, app_nil_map, mk_i64, max_nat]
    exact retV_eq (by unfold rv; rw [PV.rat, hm.1, hm.2, zv_natAbs]) rfl
theorem r3_Norm_spec {n : Bool} {a d : List Nat} {k : Nat} (hp : Raw k n a d) (hk : k < 2 ^ 36) : FnSpec Tryz.prog 113 [PV.rr n a d] (· = PV.rat (rv n a d)) := by
  obtain ⟨ha, hd, sa, sd, k1⟩ := hp
  refine fn_of_vc mixed Tryz.func113 rfl c113_ok (by simp [c113]) fun C hP => ?_; simp only [c113]
  simp +decide (disch := first | omega | rfl | (simp +decide only [go_sem, ↓reduceIte] <;> rfl) | fail) only [go_sem, ↓reduceIte, rem64K, quo64K, remI64K, quoI64K, mulK64, mk_empty, sl_3n, app_nil_map, mk_i64, max_nat]
  refine call_eq0 hP (r3_over_spec (n := n) ha hd (by omega) (by omega)) rfl rfl rfl ?_
  simp +decide (disch := first | omega | rfl | (simp +decide only [go_sem, ↓reduceIte] <;> rfl) | fail) only [go_sem, ↓reduceIte, rem64K, quo64K, remI64K, quoI64K, mulK64, mk_empty, sl_3n, app_nil_map, mk_i64, max_nat]
  refine ret_1 ?_
  simp +decide (disch := first | omega | rfl | (simp +decide only [go_sem, ↓reduceIte] <;> rfl) | fail) only [go_sem, ↓reduceIte, rem64K, quo64K, remI64K, quoI64K, mulK64, mk_empty, sl_3n, app_nil_map, mk_i64, max_nat]
  exact retV_eq rfl rfl
theorem r3_over_zz {z : Int} {D : Nat} (hz : nl z.natAbs < 2 ^ 36) (hD : nl D < 2 ^ 36) : FnSpec Tryz.prog 87 [PV.zz z, PV.num D] (· = PV.rat (mkRat z D)) := by
  have := r3_over_spec (n := decide (z < 0)) (limbs_dig z.natAbs) (limbs_dig D) hz hD
  rwa [rv, zv_of, val_dig] at this
theorem r3_Of_spec {x : Int} (h1 : -9223372036854775808 ≤ x) (h2 : x ≤ 9223372036854775807) : FnSpec Tryz.prog 36 [.int .i64 x] (· = PV.rat (x : Rat)) := by
  have hl1 : nl x.natAbs ≤ 4 := nl_small (by omega)
  refine fn_of_vc mixed Tryz.func36 rfl c36_ok (by simp [c36]) fun C hP => ?_; simp only [c36]
  simp +decide (disch := first | omega | rfl | (simp +decide only [go_sem, ↓reduceIte] <;> rfl) | fail) only [go_sem, ↓reduceIte, rem64K, quo64K, remI64K, quoI64K, mulK64, mk_empty, sl_3n, app_nil_map, mk_i64, max_nat]
  refine call_eq0 hP (r2_Of_spec h1 h2) rfl rfl rfl ?_
  simp +decide (disch := first | omega | rfl | (simp +decide only [go_sem, ↓reduceIte] <;> rfl) | fail) only [go_sem, ↓reduceIte, rem64K, quo64K, remI64K, quoI64K, mulK64, mk_empty, sl_3n, app_nil_map, mk_i64, max_nat]
  refine call_eq0 hP (r1_Of_spec (n := 1) (by omega)) rfl rfl rfl ?_
  simp +decide (disch := first | omega | rfl | (simp +decide only [go_sem, ↓reduceIte] <;> rfl) | fail) only [go_sem, ↓reduceIte, rem64K, quo64K, remI64K, quoI64K, mulK64, mk_empty, sl_3n, app_nil_map, mk_i64, max_nat]
  refine call_eq0 hP (r3_over_zz (z := x) (D := 1) (by omega) (by rw [nl_one]; omega)) rfl rfl rfl ?_
  simp +decide (disch := first | omega | rfl | (simp +decide only [go_sem, ↓reduceIte] <;> rfl) | fail) only [go_sem, ↓reduceIte, rem64K, quo64K, remI64K, quoI64K, mulK64, mk_empty, sl_3n, app_nil_map, mk_i64, max_nat]
  refine ret_1 ?_
  simp +decide (disch := first | omega | rfl | (simp +decide only [go_sem, ↓reduceIte] <;> rfl) | fail) only [go_sem, ↓reduceIte, rem64K, quo64K, remI64K, quoI64K, mulK64, mk_empty, sl_3n, app_nil_map, mk_i64, max_nat]
  exact retV_eq (congrArg PV.rat (Rat.mkRat_one x)) rfl
theorem r3_whole_spec (d : List Nat) : FnSpec Tryz.prog 115 [PV.nat d] (· = PV.zi false d) := by
  refine fn_of_vc mixed Tryz.func115 rfl c115_ok (by simp [c115]) fun C hP => ?_; simp only [c115]
  simp +decide (disch := first | omega | rfl | (simp +decide only [go_sem, ↓reduceIte] <;> rfl) | fail) only [go_sem, ↓reduceIte, rem64K, quo64K, remI64K, quoI64K, mulK64, mk_empty, sl_3n, app_nil_map, mk_i64, max_nat]
  refine ret_1 ?_
  simp +decide (disch := first | omega | rfl | (simp +decide only [go_sem, ↓reduceIte] <;> rfl) | fail) only [go_sem, ↓reduceIte, rem64K, quo64K, remI64K, quoI64K, mulK64, mk_empty, sl_3n, app_nil_map, mk_i64, max_nat]
  exact retV_eq rfl rfl
theorem r2_Sign_zz {x : Int} (hx : nl x.natAbs < 2 ^ 42) : FnSpec Tryz.prog 66 [PV.zz x] (· = .int .i64 (sgn x)) := by
  have := r2_Sign_spec (n := decide (x < 0)) (limbs_dig x.natAbs) hx
  rwa [zv_of] at this
theorem r3_Sign_spec {n : Bool} {a d : List Nat} {k : Nat} (hp : Raw k n a d) (hk : k < 2 ^ 36) : FnSpec Tryz.prog 93 [PV.rr n a d] (· = .int .i64 (sgnQ (rv n a d))) := by
  have hs := hp.rs
  unfold FW.rs at hs
  refine fn_of_vc mixed Tryz.func93 rfl c93_ok (by simp [c93]) fun C hP => ?_; simp only [c93]
  simp +decide (disch := first | omega | rfl | (simp +decide only [go_sem, ↓reduceIte] <;> rfl) | fail) only [go_sem, ↓reduceIte, rem64K, quo64K, remI64K, quoI64K, mulK64, mk_empty, sl_3n, app_nil_map, mk_i64, max_nat]
  refine call_eq0 hP (r3_Norm_spec hp hk) rfl rfl rfl ?_
  simp +decide (disch := first | omega | rfl | (simp +decide only [go_sem, ↓reduceIte] <;> rfl) | fail) only [go_sem, ↓reduceIte, rem64K, quo64K, remI64K, quoI64K, mulK64, mk_empty, sl_3n, app_nil_map, mk_i64, max_nat]
  refine call_eq0 hP (r2_Sign_zz (x := (rv n a d).num) (by omega)) rfl rfl rfl ?_
  simp +decide (disch := first | omega | rfl | (simp +decide only [go_sem, ↓reduceIte] <;> rfl) | fail) only [go_sem, ↓reduceIte, rem64K, quo64K, remI64K, quoI64K, mulK64, mk_empty, sl_3n, app_nil_map, mk_i64, max_nat]
  exact retV_eq rfl rfl
end Go.Proofs.YtjkbalanglgoiaaGreat
namespace Go.Proofs.YtjkbalanglgoiaaGreat
open Go Go.FW
set_option linter.unusedSimpArgs false
set_option linter.unusedVariables false
set_option maxRecDepth 100000
theorem r2_Mul_zw {x : Int} {d : Nat} (hx : nl x.natAbs < 2 ^ 40) (hy : nl d < 2 ^ 40) : FnSpec Tryz.prog 114 [PV.zz x, PV.zi false (dig d)] (· = PV.zz (x * (d : Int))) := by
  have := r2_Mul_spec (n := decide (x < 0)) (m := false) (limbs_dig x.natAbs) (limbs_dig d) hx hy
  rwa [zv_of, zv_false, val_dig] at this
theorem r2_Add_zz {x y : Int} (hx : nl x.natAbs < 2 ^ 40) (hy : nl y.natAbs < 2 ^ 40) : FnSpec Tryz.prog 157 [PV.zz x, PV.zz y] (· = PV.zz (x + y)) := by
  have := r2_Add_spec (n := decide (x < 0)) (m := decide (y < 0)) (limbs_dig x.natAbs) (limbs_dig y.natAbs) hx hy
  rwa [zv_of, zv_of] at this
theorem r2_Cmp_zz {x y : Int} (hx : nl x.natAbs < 2 ^ 41) (hy : nl y.natAbs < 2 ^ 41) : FnSpec Tryz.prog 146 [PV.zz x, PV.zz y] (· = .int .i64 (cmpZ x y)) := by
  have := r2_Cmp_spec (n := decide (x < 0)) (m := decide (y < 0)) (limbs_dig x.natAbs) (limbs_dig y.natAbs) hx hy
  rwa [zv_of, zv_of] at this
theorem r3_Mul_spec {n m : Bool} {a d b c : List Nat} {k : Nat} (hp : Raw k n a d) (hq : Raw k m b c) (hk : k < 2 ^ 34) : FnSpec Tryz.prog 64 [PV.rr n a d, PV.rr m b c] (· = PV.rat (rv n a d * rv m b c)) := by
  obtain ⟨ha, hd, sa, sd, k1⟩ := hp
  obtain ⟨hb, hc, sb, sc, k2⟩ := hq
  have h1 := nl_natAbs_mul (zv n a) (zv m b)
  have h2 := nl_mul (val d) (val c)
  rw [zv_natAbs, zv_natAbs] at h1
  have e1 := nl_le ha
  have e2 := nl_le hd
  have e3 := nl_le hb
  have e4 := nl_le hc
  refine fn_of_vc mixed Tryz.func64 rfl c64_ok (by simp [c64]) fun C hP => ?_; simp only [c64]
  simp +decide (disch := first | omega | rfl | (simp +decide only [go_sem, ↓reduceIte] <;> rfl) | fail) only [go_sem, ↓reduceIte, rem64K, quo64K, remI64K, quoI64K, mulK64, mk_empty, sl_3n, app_nil_map, mk_i64, max_nat]
  refine call_eq0 hP (r2_Mul_spec (n := n) (m := m) ha hb (by omega) (by omega)) rfl rfl rfl ?_
  simp +decide (disch := first | omega | rfl | (simp +decide only [go_sem, ↓reduceIte] <;> rfl) | fail) only [go_sem, ↓reduceIte, rem64K, quo64K, remI64K, quoI64K, mulK64, mk_empty, sl_3n, app_nil_map, mk_i64, max_nat]
  refine call_eq0 hP (r1_Mul_spec hd hc (by omega) (by omega)) rfl rfl rfl ?_
  simp +decide (disch := first | omega | rfl | (simp +decide only [go_sem, ↓reduceIte] <;> rfl) | fail) only [go_sem, ↓reduceIte, rem64K, quo64K, remI64K, quoI64K, mulK64, mk_empty, sl_3n, app_nil_map, mk_i64, max_nat]
  refine call_eq0 hP (r3_over_zz (z := zv n a * zv m b) (D := val d * val c) (by omega) (by omega)) rfl rfl rfl ?_
  simp +decide (disch := first | omega | rfl | (simp +decide only [go_sem, ↓reduceIte] <;> rfl) | fail) only [go_sem, ↓reduceIte, rem64K, quo64K, remI64K, quoI64K, mulK64, mk_empty, sl_3n, app_nil_map, mk_i64, max_nat]
  refine ret_1 ?_
  simp +decide (disch := first | omega | rfl | (simp +decide only [go_sem, ↓reduceIte] <;> rfl) | fail) only [go_sem, ↓reduceIte, rem64K, quo64K, remI64K, quoI64K, mulK64, mk_empty, sl_3n, app_nil_map, mk_i64, max_nat]
  exact retV_eq (congrArg PV.rat (Rat.mkRat_mul_mkRat _ _ _ _).symm) rfl
theorem r3_Cmp_spec {n m : Bool} {a d b c : List Nat} {k : Nat} (hp : Raw k n a d) (hq : Raw k m b c) (hk : k < 2 ^ 34) : FnSpec Tryz.prog 86 [PV.rr n a d, PV.rr m b c] (· = .int .i64 (cmpQ (rv n a d) (rv m b c))) := by
  have hx := hp.rs
  have hy := hq.rs
  unfold FW.rs at hx hy
  refine fn_of_vc mixed Tryz.func86 rfl c86_ok (by simp [c86]) fun C hP => ?_; simp only [c86]
  simp +decide (disch := first | omega | rfl | (simp +decide only [go_sem, ↓reduceIte] <;> rfl) | fail) only [go_sem, ↓reduceIte, rem64K, quo64K, remI64K, quoI64K, mulK64, mk_empty, sl_3n, app_nil_map, mk_i64, max_nat]
  refine call_eq0 hP (r3_Norm_spec hp (by omega)) rfl rfl rfl ?_
  simp +decide (disch := first | omega | rfl | (simp +decide only [go_sem, ↓reduceIte] <;> rfl) | fail) only [go_sem, ↓reduceIte, rem64K, quo64K, remI64K, quoI64K, mulK64, mk_empty, sl_3n, app_nil_map, mk_i64, max_nat]
  refine call_eq0 hP (r3_Norm_spec hq (by omega)) rfl rfl rfl ?_
  generalize rv n a d = p at *
  generalize rv m b c = q at *
  have h1 := nl_natAbs_mul p.num (q.den : Int)
  have h2 := nl_natAbs_mul q.num (p.den : Int)
  rw [Int.natAbs_natCast] at h1 h2
  simp +decide (disch := first | omega | rfl | (simp +decide only [go_sem, ↓reduceIte] <;> rfl) | fail) only [go_sem, ↓reduceIte, rem64K, quo64K, remI64K, quoI64K, mulK64, mk_empty, sl_3n, app_nil_map, mk_i64, max_nat]
  refine call_eq0 hP (r3_whole_spec (dig q.den)) rfl rfl rfl ?_
  simp +decide (disch := first | omega | rfl | (simp +decide only [go_sem, ↓reduceIte] <;> rfl) | fail) only [go_sem, ↓reduceIte, rem64K, quo64K, remI64K, quoI64K, mulK64, mk_empty, sl_3n, app_nil_map, mk_i64, max_nat]
  refine call_eq0 hP (r2_Mul_zw (x := p.num) (d := q.den) (by omega) (by omega)) rfl rfl rfl ?_
  simp +decide (disch := first | omega | rfl | (simp +decide only [go_sem, ↓reduceIte] <;> rfl) | fail) only [go_sem, ↓reduceIte, rem64K, quo64K, remI64K, quoI64K, mulK64, mk_empty, sl_3n, app_nil_map, mk_i64, max_nat]
  refine call_eq0 hP (r3_whole_spec (dig p.den)) rfl rfl rfl ?_
  simp +decide (disch := first | omega | rfl | (simp +decide only [go_sem, ↓reduceIte] <;> rfl) | fail) only [go_sem, ↓reduceIte, rem64K, quo64K, remI64K, quoI64K, mulK64, mk_empty, sl_3n, app_nil_map, mk_i64, max_nat]
  refine call_eq0 hP (r2_Mul_zw (x := q.num) (d := p.den) (by omega) (by omega)) rfl rfl rfl ?_
  simp +decide (disch := first | omega | rfl | (simp +decide only [go_sem, ↓reduceIte] <;> rfl) | fail) only [go_sem, ↓reduceIte, rem64K, quo64K, remI64K, quoI64K, mulK64, mk_empty, sl_3n, app_nil_map, mk_i64, max_nat]
  refine call_eq0 hP (r2_Cmp_zz (x := p.num * (q.den : Int)) (y := q.num * (p.den : Int)) (by omega) (by omega)) rfl rfl rfl ?_
  simp +decide (disch := first | omega | rfl | (simp +decide only [go_sem, ↓reduceIte] <;> rfl) | fail) only [go_sem, ↓reduceIte, rem64K, quo64K, remI64K, quoI64K, mulK64, mk_empty, sl_3n, app_nil_map, mk_i64, max_nat]
  exact retV_eq (congrArg (PV.int .i64) (by rw [← cmpQ_mk p.den_nz q.den_nz, Rat.mkRat_self, Rat.mkRat_self])) rfl
theorem r3_Equal_spec {n m : Bool} {a d b c : List Nat} {k : Nat} (hp : Raw k n a d) (hq : Raw k m b c) (hk : k < 2 ^ 34) : FnSpec Tryz.prog 35 [PV.rr n a d, PV.rr m b c] (· = .bool (decide (rv n a d = rv m b c))) := by
  refine fn_of_vc mixed Tryz.func35 rfl c35_ok (by simp [c35]) fun C hP => ?_; simp only [c35]
  simp +decide (disch := first | omega | rfl | (simp +decide only [go_sem, ↓reduceIte] <;> rfl) | fail) only [go_sem, ↓reduceIte, rem64K, quo64K, remI64K, quoI64K, mulK64, mk_empty, sl_3n, app_nil_map, mk_i64, max_nat]
  refine call_eq0 hP (r3_Cmp_spec hp hq hk) rfl rfl rfl ?_
  simp +decide (disch := first | omega | rfl | (simp +decide only [go_sem, ↓reduceIte] <;> rfl) | fail) only [go_sem, ↓reduceIte, rem64K, quo64K, remI64K, quoI64K, mulK64, mk_empty, sl_3n, app_nil_map, mk_i64, max_nat]
  exact retV_eq (congrArg PV.bool (decide_eq_decide.2 cmpQ_zero)) rfl
theorem r3_Add_spec {n m : Bool} {a d b c : List Nat} {k : Nat} (hp : Raw k n a d) (hq : Raw k m b c) (hk : k < 2 ^ 34) : FnSpec Tryz.prog 102 [PV.rr n a d, PV.rr m b c] (· = PV.rat (rv n a d + rv m b c)) := by
  have hx := hp.rs
  have hy := hq.rs
  unfold FW.rs at hx hy
  refine fn_of_vc mixed Tryz.func102 rfl c102_ok (by simp [c102]) fun C hP => ?_; simp only [c102]
  simp +decide (disch := first | omega | rfl | (simp +decide only [go_sem, ↓reduceIte] <;> rfl) | fail) only [go_sem, ↓reduceIte, rem64K, quo64K, remI64K, quoI64K, mulK64, mk_empty, sl_3n, app_nil_map, mk_i64, max_nat]
  refine call_eq0 hP (r3_Norm_spec hp (by omega)) rfl rfl rfl ?_
  simp +decide (disch := first | omega | rfl | (simp +decide only [go_sem, ↓reduceIte] <;> rfl) | fail) only [go_sem, ↓reduceIte, rem64K, quo64K, remI64K, quoI64K, mulK64, mk_empty, sl_3n, app_nil_map, mk_i64, max_nat]
  refine call_eq0 hP (r3_Norm_spec hq (by omega)) rfl rfl rfl ?_
  generalize rv n a d = p at *
  generalize rv m b c = q at *
  have h1 := nl_natAbs_mul p.num (q.den : Int)
  have h2 := nl_natAbs_mul q.num (p.den : Int)
  have h3 := nl_natAbs_add (p.num * (q.den : Int)) (q.num * (p.den : Int))
  have h4 := nl_mul p.den q.den
  rw [Int.natAbs_natCast] at h1 h2
  simp +decide (disch := first | omega | rfl | (simp +decide only [go_sem, ↓reduceIte] <;> rfl) | fail) only [go_sem, ↓reduceIte, rem64K, quo64K, remI64K, quoI64K, mulK64, mk_empty, sl_3n, app_nil_map, mk_i64, max_nat]
  refine call_eq0 hP (r3_whole_spec (dig q.den)) rfl rfl rfl ?_
  simp +decide (disch := first | omega | rfl | (simp +decide only [go_sem, ↓reduceIte] <;> rfl) | fail) only [go_sem, ↓reduceIte, rem64K, quo64K, remI64K, quoI64K, mulK64, mk_empty, sl_3n, app_nil_map, mk_i64, max_nat]
  refine call_eq0 hP (r2_Mul_zw (x := p.num) (d := q.den) (by omega) (by omega)) rfl rfl rfl ?_
  simp +decide (disch := first | omega | rfl | (simp +decide only [go_sem, ↓reduceIte] <;> rfl) | fail) only [go_sem, ↓reduceIte, rem64K, quo64K, remI64K, quoI64K, mulK64, mk_empty, sl_3n, app_nil_map, mk_i64, max_nat]
  refine call_eq0 hP (r3_whole_spec (dig p.den)) rfl rfl rfl ?_
  simp +decide (disch := first | omega | rfl | (simp +decide only [go_sem, ↓reduceIte] <;> rfl) | fail) only [go_sem, ↓reduceIte, rem64K, quo64K, remI64K, quoI64K, mulK64, mk_empty, sl_3n, app_nil_map, mk_i64, max_nat]
  refine call_eq0 hP (r2_Mul_zw (x := q.num) (d := p.den) (by omega) (by omega)) rfl rfl rfl ?_
  simp +decide (disch := first | omega | rfl | (simp +decide only [go_sem, ↓reduceIte] <;> rfl) | fail) only [go_sem, ↓reduceIte, rem64K, quo64K, remI64K, quoI64K, mulK64, mk_empty, sl_3n, app_nil_map, mk_i64, max_nat]
  refine call_eq0 hP (r2_Add_zz (x := p.num * (q.den : Int)) (y := q.num * (p.den : Int)) (by omega) (by omega)) rfl rfl rfl ?_
  simp +decide (disch := first | omega | rfl | (simp +decide only [go_sem, ↓reduceIte] <;> rfl) | fail) only [go_sem, ↓reduceIte, rem64K, quo64K, remI64K, quoI64K, mulK64, mk_empty, sl_3n, app_nil_map, mk_i64, max_nat]
  refine call_eq0 hP (r1_Mul_num (x := p.den) (y := q.den) (by omega) (by omega)) rfl rfl rfl ?_
  simp +decide (disch := first | omega | rfl | (simp +decide only [go_sem, ↓reduceIte] <;> rfl) | fail) only [go_sem, ↓reduceIte, rem64K, quo64K, remI64K, quoI64K, mulK64, mk_empty, sl_3n, app_nil_map, mk_i64, max_nat]
  refine call_eq0 hP (r3_over_zz (z := p.num * (q.den : Int) + q.num * (p.den : Int)) (D := p.den * q.den) (by omega) (by omega)) rfl rfl rfl ?_
  simp +decide (disch := first | omega | rfl | (simp +decide only [go_sem, ↓reduceIte] <;> rfl) | fail) only [go_sem, ↓reduceIte, rem64K, quo64K, remI64K, quoI64K, mulK64, mk_empty, sl_3n, app_nil_map, mk_i64, max_nat]
  refine ret_1 ?_
  simp +decide (disch := first | omega | rfl | (simp +decide only [go_sem, ↓reduceIte] <;> rfl) | fail) only [go_sem, ↓reduceIte, rem64K, quo64K, remI64K, quoI64K, mulK64, mk_empty, sl_3n, app_nil_map, mk_i64, max_nat]
  exact retV_eq (congrArg PV.rat (by rw [← Rat.mkRat_add_mkRat _ _ p.den_nz q.den_nz, Rat.mkRat_self, Rat.mkRat_self])) rfl
end Go.Proofs.YtjkbalanglgoiaaGreat
namespace Go.Proofs.YtjkbalanglgoiaaGreat
open Go Go.FW
set_option linter.unusedSimpArgs false
set_option linter.unusedVariables false
set_option maxRecDepth 100000
theorem r3_Right_spec {n : Bool} {a d : List Nat} {k : Nat} (hp : Raw k n a d) (hk : k < 2 ^ 36) : FnSpec Tryz.prog 92 [PV.rr n a d] (· = .bool (ratOk n a d)) := by
  obtain ⟨ha, hd, sa, sd, k1⟩ := hp
  have hgl : (dig (Nat.gcd (val a) (val d))).length < 2 ^ 43 := by
    by_cases h0 : val d = 0
    · rw [h0, Nat.gcd_zero_right]
      have h4 := nl_le ha
      unfold nl at h4; omega
    · have h3 := nl_mono (Nat.gcd_le_right (val a) (Nat.pos_of_ne_zero h0))
      have h4 := nl_le hd
      unfold nl at h3 h4; omega
  refine fn_of_vc mixed Tryz.func92 rfl c92_ok (by simp [c92]) fun C hP => ?_; simp only [c92]
  simp +decide (disch := first | omega | rfl | (simp +decide only [go_sem, ↓reduceIte] <;> rfl) | fail) only [go_sem, ↓reduceIte, rem64K, quo64K, remI64K, quoI64K, mulK64, mk_empty, sl_3n, app_nil_map, mk_i64, max_nat]
  refine call_eq0 hP (r2_Right_spec ha (by omega)) rfl rfl rfl ?_
  unfold ratOk
  simp +decide (disch := first | omega | rfl | (simp +decide only [go_sem, ↓reduceIte] <;> rfl) | fail) only [go_sem, ↓reduceIte, rem64K, quo64K, remI64K, quoI64K, mulK64, mk_empty, sl_3n, app_nil_map, mk_i64, max_nat]
  cases hio : intOk n a
  · simp +decide (disch := first | omega | rfl | (simp +decide only [go_sem, ↓reduceIte] <;> rfl) | fail) only [go_sem, ↓reduceIte, rem64K, quo64K, remI64K, quoI64K, mulK64, mk_empty, sl_3n, app_nil_map, mk_i64, max_nat]
    exact retV_eq (by simp) rfl
  rw [Bool.true_and]
  simp +decide (disch := first | omega | rfl | (simp +decide only [go_sem, ↓reduceIte] <;> rfl) | fail) only [go_sem, ↓reduceIte, rem64K, quo64K, remI64K, quoI64K, mulK64, mk_empty, sl_3n, app_nil_map, mk_i64, max_nat]
  refine call_eq0 hP (r1_Valid_spec hd (by omega)) rfl rfl rfl ?_
  simp +decide (disch := first | omega | rfl | (simp +decide only [go_sem, ↓reduceIte] <;> rfl) | fail) only [go_sem, ↓reduceIte, rem64K, quo64K, remI64K, quoI64K, mulK64, mk_empty, sl_3n, app_nil_map, mk_i64, max_nat]
  refine guard_bool (fun hv => ?_) (fun hv => ?_)
  · simp +decide (disch := first | omega | rfl | (simp +decide only [go_sem, ↓reduceIte] <;> rfl) | fail) only [go_sem, ↓reduceIte, rem64K, quo64K, remI64K, quoI64K, mulK64, mk_empty, sl_3n, app_nil_map, mk_i64, max_nat]
    refine call_eq0 hP (r1_Gcd_spec ha hd (by omega) (by omega)) rfl rfl rfl ?_
    simp +decide (disch := first | omega | rfl | (simp +decide only [go_sem, ↓reduceIte] <;> rfl) | fail) only [go_sem, ↓reduceIte, rem64K, quo64K, remI64K, quoI64K, mulK64, mk_empty, sl_3n, app_nil_map, mk_i64, max_nat]
    refine call_eq0 hP (r1_Of_spec (n := 1) (by omega)) rfl rfl rfl ?_
    simp +decide (disch := first | omega | rfl | (simp +decide only [go_sem, ↓reduceIte] <;> rfl) | fail) only [go_sem, ↓reduceIte, rem64K, quo64K, remI64K, quoI64K, mulK64, mk_empty, sl_3n, app_nil_map, mk_i64, max_nat]
    refine call_eq0 hP (r1_Same_spec hgl (by rw [dig_one]; decide)) rfl rfl rfl ?_
    rw [dig_one, decide_eq_decide.2 (dig_one_iff (Nat.gcd (val a) (val d)))]
    simp +decide (disch := first | omega | rfl | (simp +decide only [go_sem, ↓reduceIte] <;> rfl) | fail) only [go_sem, ↓reduceIte, rem64K, quo64K, remI64K, quoI64K, mulK64, mk_empty, sl_3n, app_nil_map, mk_i64, max_nat]
    refine guard_split (fun hg => ?_) (fun hg => ?_)
    · simp +decide (disch := first | omega | rfl | (simp +decide only [go_sem, ↓reduceIte] <;> rfl) | fail) only [go_sem, ↓reduceIte, rem64K, quo64K, remI64K, quoI64K, mulK64, mk_empty, sl_3n, app_nil_map, mk_i64, max_nat]
      exact retV_eq (congrArg PV.bool (by cases d <;> simp_all)) rfl
    · simp +decide (disch := first | omega | rfl | (simp +decide only [go_sem, ↓reduceIte] <;> rfl) | fail) only [go_sem, ↓reduceIte, rem64K, quo64K, remI64K, quoI64K, mulK64, mk_empty, sl_3n, app_nil_map, mk_i64, max_nat]
      exact retV_eq (congrArg PV.bool (by simp [hg])) rfl
  · simp +decide (disch := first | omega | rfl | (simp +decide only [go_sem, ↓reduceIte] <;> rfl) | fail) only [go_sem, ↓reduceIte, rem64K, quo64K, remI64K, quoI64K, mulK64, mk_empty, sl_3n, app_nil_map, mk_i64, max_nat]
    exact retV_eq (congrArg PV.bool (by simp_all)) rfl
end Go.Proofs.YtjkbalanglgoiaaGreat
namespace Go.Proofs.YtjkbalanglgoiaaGreat
open Go Go.FW
set_option linter.unusedSimpArgs false
set_option linter.unusedVariables false
set_option maxRecDepth 100000
theorem r5_sign_spec (x : Int) : FnSpec Tryz.prog 154 [.int .i64 x] (· = .int .i64 (sgn x)) := by
  refine fn_of_vc mixed Tryz.func154 rfl c154_ok (by simp [c154]) fun C hP => ?_; simp only [c154]
  simp +decide (disch := first | omega | rfl | (simp +decide only [go_sem, ↓reduceIte] <;> rfl) | fail) only [go_sem, ↓reduceIte, rem64K, quo64K, remI64K, quoI64K, mulK64, mk_empty, sl_3n, app_nil_map, mk_i64, max_nat]
  refine cond_split (fun h => ?_) (fun h => ?_)
  · simp +decide (disch := first | omega | rfl | (simp +decide only [go_sem, ↓reduceIte] <;> rfl) | fail) only [go_sem, ↓reduceIte, rem64K, quo64K, remI64K, quoI64K, mulK64, mk_empty, sl_3n, app_nil_map, mk_i64, max_nat]
    exact retV_eq (by rw [sgn, if_pos h]) rfl
  simp +decide (disch := first | omega | rfl | (simp +decide only [go_sem, ↓reduceIte] <;> rfl) | fail) only [go_sem, ↓reduceIte, rem64K, quo64K, remI64K, quoI64K, mulK64, mk_empty, sl_3n, app_nil_map, mk_i64, max_nat]
  refine cond_split (fun h2 => ?_) (fun h2 => ?_)
  · simp +decide (disch := first | omega | rfl | (simp +decide only [go_sem, ↓reduceIte] <;> rfl) | fail) only [go_sem, ↓reduceIte, rem64K, quo64K, remI64K, quoI64K, mulK64, mk_empty, sl_3n, app_nil_map, mk_i64, max_nat]
    exact retV_eq (by rw [sgn, if_neg h, if_pos h2]) rfl
  · simp +decide (disch := first | omega | rfl | (simp +decide only [go_sem, ↓reduceIte] <;> rfl) | fail) only [go_sem, ↓reduceIte, rem64K, quo64K, remI64K, quoI64K, mulK64, mk_empty, sl_3n, app_nil_map, mk_i64, max_nat]
    exact retV_eq (by rw [sgn, if_neg h, if_neg h2]) rfl
theorem r5_Exp_spec {a : List Int} {v : Int} (hl : a.length < 2 ^ 42) : FnSpec Tryz.prog 76 [PV.mono a, .int .i64 v] (· = .int .i64 (if v < 0 then 0 else eN a v.toNat)) := by
  refine fn_of_vc mixed Tryz.func76 rfl c76_ok (by simp [c76]) fun C hP => ?_; simp only [c76]
  simp +decide (disch := first | omega | rfl | (simp +decide only [go_sem, ↓reduceIte] <;> rfl) | fail) only [go_sem, ↓reduceIte, rem64K, quo64K, remI64K, quoI64K, mulK64, mk_empty, sl_3n, app_nil_map, mk_i64, max_nat]
  refine guard_splitF (fun h1 => ?_) (fun h1 => ?_)
  · simp +decide (disch := first | omega | rfl | (simp +decide only [go_sem, ↓reduceIte] <;> rfl) | fail) only [go_sem, ↓reduceIte, rem64K, quo64K, remI64K, quoI64K, mulK64, mk_empty, sl_3n, app_nil_map, mk_i64, max_nat]
    exact retV_eq (by rw [if_pos h1]) rfl
  · obtain ⟨n, rfl⟩ : ∃ n : Nat, v = n := ⟨v.toNat, by omega⟩
    rw [if_neg h1]
    simp +decide (disch := first | omega | rfl | (simp +decide only [go_sem, ↓reduceIte] <;> rfl) | fail) only [go_sem, ↓reduceIte, rem64K, quo64K, remI64K, quoI64K, mulK64, mk_empty, sl_3n, app_nil_map, mk_i64, max_nat]
    refine cond_split (fun h2 => ?_) (fun h2 => ?_)
    · simp +decide (disch := first | omega | rfl | (simp +decide only [go_sem, ↓reduceIte] <;> rfl) | fail) only [go_sem, ↓reduceIte, rem64K, quo64K, remI64K, quoI64K, mulK64, mk_empty, sl_3n, app_nil_map, mk_i64, max_nat]
      exact retV_eq (by rw [eN_ge (by omega)]) rfl
    · have hn : n < a.length := by omega
      simp +decide (disch := first | omega | rfl | (simp +decide only [go_sem, ↓reduceIte] <;> rfl) | fail) only [go_sem, ↓reduceIte, rem64K, quo64K, remI64K, quoI64K, mulK64, mk_empty, sl_3n, app_nil_map, mk_i64, max_nat]
      exact retV_eq (by rw [eN_lt hn]) rfl
theorem r5_Exp_nat {a : List Int} {i : Nat} (hl : a.length < 2 ^ 42) : FnSpec Tryz.prog 76 [PV.mono a, .int .i64 i] (· = .int .i64 (eN a i)) := by
  have := r5_Exp_spec (v := i) hl
  rwa [if_neg (by omega), Int.toNat_natCast] at this
theorem r5_Degree_spec {a : List Int} (hl : a.length ≤ 1048576) (hb : ∀ x ∈ a, 0 ≤ x ∧ x ≤ 1099511627776) : FnSpec Tryz.prog 153 [PV.mono a] (· = .int .i64 (degM a)) := by
  refine fn_of_vc mixed Tryz.func153 rfl c153_ok (by simp [c153]) fun C hP => ?_; simp only [c153]
  simp +decide (disch := first | omega | rfl | (simp +decide only [go_sem, ↓reduceIte] <;> rfl) | fail) only [go_sem, ↓reduceIte, rem64K, quo64K, remI64K, quoI64K, mulK64, mk_empty, sl_3n, app_nil_map, mk_i64, max_nat]
  refine vc_loopF (by repeat (first | exact okSk_ret | exact okSk_retM | exact okSk_retO | apply okSk_back | apply okSk_out | apply okSk_eb | apply okSk_c | apply okSk_o | apply okSk_again | apply okSk_backW)) [(3, 16)] [] (fun k J hp => ∃ (i : Nat) (s : Int), k = a.length - i ∧ i ≤ a.length ∧ 0 ≤ s ∧ s ≤ 1099511627776 * i ∧ s + (a.drop i).sum = degM a ∧ J 4 = .int .i64 (i : Nat) ∧ J 3 = .int .i64 s ∧ hp = hp0) a.length ?_ ?_
  · refine ⟨0, 0, rfl, by omega, by omega, by omega, by simp [degM], ?_⟩
    simp +decide (disch := first | omega | rfl | (simp +decide only [go_sem, ↓reduceIte] <;> rfl) | fail) only [go_sem, ↓reduceIte, rem64K, quo64K, remI64K, quoI64K, mulK64, mk_empty, sl_3n, app_nil_map, mk_i64, max_nat]
    simp
  rintro _ J _ ⟨i, s, rfl, hi, hs0, hs1, hsum, h4, h3, rfl⟩
  simp +decide (disch := first | omega | rfl | (simp +decide only [go_sem, ↓reduceIte, h4, h3] <;> rfl) | fail) only [go_sem, ↓reduceIte, rem64K, quo64K, remI64K, quoI64K, mulK64, mk_empty, sl_3n, app_nil_map, mk_i64, max_nat, h4, h3]
  refine cond_split (fun hg => ?_) (fun hg => ?_)
  · have hi' : i < a.length := by omega
    have hx := hb _ (List.getElem_mem hi')
    rw [List.drop_eq_getElem_cons hi', List.sum_cons] at hsum
    generalize hxx : a[i] = x at *
    simp +decide (disch := first | omega | rfl | (simp +decide only [go_sem, ↓reduceIte, h4, h3, hxx] <;> rfl) | fail) only [go_sem, ↓reduceIte, rem64K, quo64K, remI64K, quoI64K, mulK64, mk_empty, sl_3n, app_nil_map, mk_i64, max_nat, h4, h3, hxx]
    refine back_ovr (a.length - (i + 1)) (by omega) ⟨i + 1, s + x, rfl, by omega, by omega, by push_cast; omega, by omega, ?_⟩
    simp +decide (disch := first | omega | rfl | (simp +decide only [go_sem, ↓reduceIte] <;> rfl) | fail) only [go_sem, ↓reduceIte, rem64K, quo64K, remI64K, quoI64K, mulK64, mk_empty, sl_3n, app_nil_map, mk_i64, max_nat]
  · rw [List.drop_of_length_le (by omega), List.sum_nil, Int.add_zero] at hsum
    simp +decide (disch := first | omega | rfl | (simp +decide only [go_sem, ↓reduceIte, h3] <;> rfl) | fail) only [go_sem, ↓reduceIte, rem64K, quo64K, remI64K, quoI64K, mulK64, mk_empty, sl_3n, app_nil_map, mk_i64, max_nat, h3]
    exact retV_eq (by rw [hsum]) rfl
theorem r5_cut_spec {l : List Int} (hl : l.length < 2 ^ 42) : FnSpec Tryz.prog 112 [PV.mono l] (· = PV.mono (trimI l)) := by
  refine fn_of_vc mixed Tryz.func112 rfl c112_ok (by simp [c112]) fun C hP => ?_; simp only [c112]
  simp +decide (disch := first | omega | rfl | (simp +decide only [go_sem, ↓reduceIte] <;> rfl) | fail) only [go_sem, ↓reduceIte, rem64K, quo64K, remI64K, quoI64K, mulK64, mk_empty, sl_3n, app_nil_map, mk_i64, max_nat]
  refine vc_loopF (by repeat (first | exact okSk_ret | exact okSk_retM | exact okSk_retO | apply okSk_back | apply okSk_out | apply okSk_eb | apply okSk_c | apply okSk_o | apply okSk_again | apply okSk_backW)) [(3, 3), (7, 18)] [] (fun m J hp => m ≤ l.length ∧ cutI l m = trimI l ∧ J 3 = .int .i64 m ∧ hp = hp0) l.length ?_ ?_
  · refine ⟨Nat.le_refl _, rfl, ?_⟩
    simp +decide (disch := first | omega | rfl | (simp +decide only [go_sem, ↓reduceIte] <;> rfl) | fail) only [go_sem, ↓reduceIte, rem64K, quo64K, remI64K, quoI64K, mulK64, mk_empty, sl_3n, app_nil_map, mk_i64, max_nat]
  rintro n J _ ⟨hn, hc, h3, rfl⟩
  simp +decide (disch := first | omega | rfl | (simp +decide only [go_sem, ↓reduceIte, h3] <;> rfl) | fail) only [go_sem, ↓reduceIte, rem64K, quo64K, remI64K, quoI64K, mulK64, mk_empty, sl_3n, app_nil_map, mk_i64, max_nat, h3]
  refine guard_split (fun hg => ?_) (fun hg => ?_)
  · obtain _ | n := n
    · omega
    have e : ((n + 1 : Nat) : Int) - 1 = n := by omega
    simp only [cutI] at hc
    simp +decide (disch := first | omega | rfl | (simp +decide only [go_sem, ↓reduceIte, h3, e] <;> rfl) | fail) only [go_sem, ↓reduceIte, rem64K, quo64K, remI64K, quoI64K, mulK64, mk_empty, sl_3n, app_nil_map, mk_i64, max_nat, h3, e]
    refine cond_split (fun hz => ?_) (fun hz => ?_)
    · rw [if_pos (by simp [hz, show n < l.length by omega])] at hc
      simp +decide (disch := first | omega | rfl | (simp +decide only [go_sem, ↓reduceIte, h3, e] <;> rfl) | fail) only [go_sem, ↓reduceIte, rem64K, quo64K, remI64K, quoI64K, mulK64, mk_empty, sl_3n, app_nil_map, mk_i64, max_nat, h3, e]
      refine back_ovr n (by omega) ⟨by omega, hc, ?_⟩
      simp +decide (disch := first | omega | rfl | (simp +decide only [go_sem, ↓reduceIte] <;> rfl) | fail) only [go_sem, ↓reduceIte, rem64K, quo64K, remI64K, quoI64K, mulK64, mk_empty, sl_3n, app_nil_map, mk_i64, max_nat]
    · rw [if_neg (by simpa [show n < l.length by omega] using hz)] at hc
      have hlt : (l.take (n + 1)).length < 2 ^ 42 := by rw [List.length_take]; omega
      simp +decide (disch := first | omega | rfl | (simp +decide only [go_sem, ↓reduceIte, h3, e, looks3, List.contains_cons, List.contains_nil, List.flatMap_cons, List.flatMap_nil, List.append_nil] <;> rfl) | fail) only [go_sem, ↓reduceIte, rem64K, quo64K, remI64K, quoI64K, mulK64, mk_empty, sl_3n, app_nil_map, mk_i64, max_nat, h3, e, looks3, List.contains_cons, List.contains_nil, List.flatMap_cons, List.flatMap_nil, List.append_nil]
      exact retV_eq (by rw [List.take_of_length_le (by simp), hc]) rfl
  · obtain rfl : n = 0 := by omega
    simp +decide (disch := first | omega | rfl | (simp +decide only [go_sem, ↓reduceIte, h3, List.take_zero, List.map_nil, List.length_nil] <;> rfl) | fail) only [go_sem, ↓reduceIte, rem64K, quo64K, remI64K, quoI64K, mulK64, mk_empty, sl_3n, app_nil_map, mk_i64, max_nat, h3, List.take_zero, List.map_nil, List.length_nil]
    rw [app_nil_eq (ys := []) rfl (by omega) (by simp) (by simp)]
    simp +decide (disch := first | omega | rfl | (simp +decide only [go_sem, ↓reduceIte, looks3, List.contains_cons, List.contains_nil, List.flatMap_cons, List.flatMap_nil, List.append_nil] <;> rfl) | fail) only [go_sem, ↓reduceIte, rem64K, quo64K, remI64K, quoI64K, mulK64, mk_empty, sl_3n, app_nil_map, mk_i64, max_nat, looks3, List.contains_cons, List.contains_nil, List.flatMap_cons, List.flatMap_nil, List.append_nil]
    exact retV_eq (by rw [← hc]; rfl) rfl
theorem r5_Right_spec {a : List Int} (hl : a.length < 2 ^ 42) : FnSpec Tryz.prog 94 [PV.mono a] (· = .bool (monoOk a)) := by
  refine fn_of_vc mixed Tryz.func94 rfl c94_ok (by simp [c94]) fun C hP => ?_; simp only [c94]
  simp +decide (disch := first | omega | rfl | (simp +decide only [go_sem, ↓reduceIte] <;> rfl) | fail) only [go_sem, ↓reduceIte, rem64K, quo64K, remI64K, quoI64K, mulK64, mk_empty, sl_3n, app_nil_map, mk_i64, max_nat]
  have bad : (64 < a.length ∨ a.getLast? = some 0 ∨ ∃ x ∈ a, x < 0 ∨ 1048576 < x) → monoOk a = false := fun h => by
    cases hb : monoOk a with
    | false => rfl
    | true =>
      have := MB.ofOk hb
      simp only [monoOk, Bool.and_eq_true, decide_eq_true_eq] at hb
      rcases h with h | h | ⟨x, hx, h⟩
      · omega
      · exact absurd h hb.2.1
      · have h5 := this.lo x hx; have h6 := this.hi x hx; omega
  refine guard_splitF (fun h1 => ?_) (fun h1 => ?_)
  · simp +decide (disch := first | omega | rfl | (simp +decide only [go_sem, ↓reduceIte] <;> rfl) | fail) only [go_sem, ↓reduceIte, rem64K, quo64K, remI64K, quoI64K, mulK64, mk_empty, sl_3n, app_nil_map, mk_i64, max_nat]
    exact retV_eq (by rw [bad (.inl (by omega))]) rfl
  simp +decide (disch := first | omega | rfl | (simp +decide only [go_sem, ↓reduceIte] <;> rfl) | fail) only [go_sem, ↓reduceIte, rem64K, quo64K, remI64K, quoI64K, mulK64, mk_empty, sl_3n, app_nil_map, mk_i64, max_nat]
  have fin : a.length ≤ 64 → a.getLast? ≠ some 0 → (∀ x ∈ a, 0 ≤ x ∧ x ≤ 1048576) → monoOk a = true := fun h1 h2 h3 => by
    simp only [monoOk, Bool.and_eq_true, decide_eq_true_eq, List.all_eq_true]; exact ⟨h1, h2, h3⟩
  refine guard_split (fun h2 => ?_) (fun h2 => ?_)
  · obtain ⟨k, hk⟩ : ∃ k, a.length = k + 1 := ⟨a.length - 1, by omega⟩
    have hlast := last_get hk
    have e : ((k + 1 : Nat) : Int) - 1 = k := by omega
    generalize hy : a[k]'(by omega) = y at *
    simp +decide (disch := first | omega | rfl | (simp +decide only [go_sem, ↓reduceIte, hk, e, hy] <;> rfl) | fail) only [go_sem, ↓reduceIte, rem64K, quo64K, remI64K, quoI64K, mulK64, mk_empty, sl_3n, app_nil_map, mk_i64, max_nat, hk, e, hy]
    refine cond_split (fun h3 => ?_) (fun h3 => ?_)
    · simp +decide (disch := first | omega | rfl | (simp +decide only [go_sem, ↓reduceIte] <;> rfl) | fail) only [go_sem, ↓reduceIte, rem64K, quo64K, remI64K, quoI64K, mulK64, mk_empty, sl_3n, app_nil_map, mk_i64, max_nat]
      exact retV_eq (by rw [bad (.inr (.inl (by rw [hlast, h3])))]) rfl
    have hlast : a.getLast? ≠ some 0 := by rw [hlast]; simpa using h3
    rw [← hk] at *
    simp +decide (disch := first | omega | rfl | (simp +decide only [go_sem, ↓reduceIte] <;> rfl) | fail) only [go_sem, ↓reduceIte, rem64K, quo64K, remI64K, quoI64K, mulK64, mk_empty, sl_3n, app_nil_map, mk_i64, max_nat]
    refine vc_loopF (by repeat (first | exact okSk_ret | exact okSk_retM | exact okSk_retO | apply okSk_back | apply okSk_out | apply okSk_eb | apply okSk_c | apply okSk_o | apply okSk_again | apply okSk_backW)) [(2, 3), (21, 38)] [] (fun k J hp => ∃ i, k = a.length - i ∧ i ≤ a.length ∧ (∀ x ∈ a.take i, 0 ≤ x ∧ x ≤ 1048576) ∧ J 3 = .int .i64 i ∧ hp = hp0) a.length ?_ ?_
    · refine ⟨0, rfl, by omega, by simp, ?_⟩
      simp +decide (disch := first | omega | rfl | (simp +decide only [go_sem, ↓reduceIte] <;> rfl) | fail) only [go_sem, ↓reduceIte, rem64K, quo64K, remI64K, quoI64K, mulK64, mk_empty, sl_3n, app_nil_map, mk_i64, max_nat]
      rfl
    rintro _ J _ ⟨i, rfl, hi, hall, hj, rfl⟩
    simp +decide (disch := first | omega | rfl | (simp +decide only [go_sem, ↓reduceIte, hj] <;> rfl) | fail) only [go_sem, ↓reduceIte, rem64K, quo64K, remI64K, quoI64K, mulK64, mk_empty, sl_3n, app_nil_map, mk_i64, max_nat, hj]
    refine cond_split (fun hg => ?_) (fun hg => ?_)
    · have hi' : i < a.length := by omega
      have hmem := List.getElem_mem hi'
      have htk : ∀ x ∈ a.take (i + 1), x ∈ a.take i ∨ x = a[i] := fun x hx => by
        rw [List.take_succ_eq_append_getElem hi'] at hx
        rcases List.mem_append.1 hx with h | h
        · exact .inl h
        · exact .inr (List.mem_singleton.1 h)
      generalize hx : a[i] = x at *
      simp +decide (disch := first | omega | rfl | (simp +decide only [go_sem, ↓reduceIte, hj, hx] <;> rfl) | fail) only [go_sem, ↓reduceIte, rem64K, quo64K, remI64K, quoI64K, mulK64, mk_empty, sl_3n, app_nil_map, mk_i64, max_nat, hj, hx]
      refine guard_splitF (fun h5 => ?_) (fun h5 => ?_)
      · simp +decide (disch := first | omega | rfl | (simp +decide only [go_sem, ↓reduceIte] <;> rfl) | fail) only [go_sem, ↓reduceIte, rem64K, quo64K, remI64K, quoI64K, mulK64, mk_empty, sl_3n, app_nil_map, mk_i64, max_nat]
        exact retV_eq (by rw [bad (.inr (.inr ⟨x, hmem, .inl h5⟩))]) rfl
      · simp +decide (disch := first | omega | rfl | (simp +decide only [go_sem, ↓reduceIte, hj, hx] <;> rfl) | fail) only [go_sem, ↓reduceIte, rem64K, quo64K, remI64K, quoI64K, mulK64, mk_empty, sl_3n, app_nil_map, mk_i64, max_nat, hj, hx]
        refine cond_split (fun h6 => ?_) (fun h6 => ?_)
        · simp +decide (disch := first | omega | rfl | (simp +decide only [go_sem, ↓reduceIte] <;> rfl) | fail) only [go_sem, ↓reduceIte, rem64K, quo64K, remI64K, quoI64K, mulK64, mk_empty, sl_3n, app_nil_map, mk_i64, max_nat]
          exact retV_eq (by rw [bad (.inr (.inr ⟨x, hmem, .inr h6⟩))]) rfl
        · simp +decide (disch := first | omega | rfl | (simp +decide only [go_sem, ↓reduceIte, hj] <;> rfl) | fail) only [go_sem, ↓reduceIte, rem64K, quo64K, remI64K, quoI64K, mulK64, mk_empty, sl_3n, app_nil_map, mk_i64, max_nat, hj]
          refine back_ovr (a.length - (i + 1)) (by omega) ⟨i + 1, rfl, by omega, fun y hy => ?_, ?_⟩
          · rcases htk y hy with h | rfl
            · exact hall y h
            · omega
          · simp +decide (disch := first | omega | rfl | (simp +decide only [go_sem, ↓reduceIte] <;> rfl) | fail) only [go_sem, ↓reduceIte, rem64K, quo64K, remI64K, quoI64K, mulK64, mk_empty, sl_3n, app_nil_map, mk_i64, max_nat]
    · rw [List.take_of_length_le (by omega)] at hall
      simp +decide (disch := first | omega | rfl | (simp +decide only [go_sem, ↓reduceIte] <;> rfl) | fail) only [go_sem, ↓reduceIte, rem64K, quo64K, remI64K, quoI64K, mulK64, mk_empty, sl_3n, app_nil_map, mk_i64, max_nat]
      exact retV_eq (by rw [fin (by omega) hlast hall]) rfl
  · have hnil : a = [] := List.length_eq_zero_iff.1 (by omega)
    have hlast : a.getLast? ≠ some 0 := by rw [hnil]; simp
    simp +decide (disch := first | omega | rfl | (simp +decide only [go_sem, ↓reduceIte] <;> rfl) | fail) only [go_sem, ↓reduceIte, rem64K, quo64K, remI64K, quoI64K, mulK64, mk_empty, sl_3n, app_nil_map, mk_i64, max_nat]
    refine vc_loopF (by repeat (first | exact okSk_ret | exact okSk_retM | exact okSk_retO | apply okSk_back | apply okSk_out | apply okSk_eb | apply okSk_c | apply okSk_o | apply okSk_again | apply okSk_backW)) [(2, 3), (21, 38)] [] (fun k J hp => ∃ i, k = a.length - i ∧ i ≤ a.length ∧ (∀ x ∈ a.take i, 0 ≤ x ∧ x ≤ 1048576) ∧ J 3 = .int .i64 i ∧ hp = hp0) a.length ?_ ?_
    · refine ⟨0, rfl, by omega, by simp, ?_⟩
      simp +decide (disch := first | omega | rfl | (simp +decide only [go_sem, ↓reduceIte] <;> rfl) | fail) only [go_sem, ↓reduceIte, rem64K, quo64K, remI64K, quoI64K, mulK64, mk_empty, sl_3n, app_nil_map, mk_i64, max_nat]
      rfl
    rintro _ J _ ⟨i, rfl, hi, hall, hj, rfl⟩
    simp +decide (disch := first | omega | rfl | (simp +decide only [go_sem, ↓reduceIte, hj] <;> rfl) | fail) only [go_sem, ↓reduceIte, rem64K, quo64K, remI64K, quoI64K, mulK64, mk_empty, sl_3n, app_nil_map, mk_i64, max_nat, hj]
    refine cond_split (fun hg => ?_) (fun hg => ?_)
    · have hi' : i < a.length := by omega
      have hmem := List.getElem_mem hi'
      have htk : ∀ x ∈ a.take (i + 1), x ∈ a.take i ∨ x = a[i] := fun x hx => by
        rw [List.take_succ_eq_append_getElem hi'] at hx
        rcases List.mem_append.1 hx with h | h
        · exact .inl h
        · exact .inr (List.mem_singleton.1 h)
      generalize hx : a[i] = x at *
      simp +decide (disch := first | omega | rfl | (simp +decide only [go_sem, ↓reduceIte, hj, hx] <;> rfl) | fail) only [go_sem, ↓reduceIte, rem64K, quo64K, remI64K, quoI64K, mulK64, mk_empty, sl_3n, app_nil_map, mk_i64, max_nat, hj, hx]
      refine guard_splitF (fun h5 => ?_) (fun h5 => ?_)
      · simp +decide (disch := first | omega | rfl | (simp +decide only [go_sem, ↓reduceIte] <;> rfl) | fail) only [go_sem, ↓reduceIte, rem64K, quo64K, remI64K, quoI64K, mulK64, mk_empty, sl_3n, app_nil_map, mk_i64, max_nat]
        exact retV_eq (by rw [bad (.inr (.inr ⟨x, hmem, .inl h5⟩))]) rfl
      · simp +decide (disch := first | omega | rfl | (simp +decide only [go_sem, ↓reduceIte, hj, hx] <;> rfl) | fail) only [go_sem, ↓reduceIte, rem64K, quo64K, remI64K, quoI64K, mulK64, mk_empty, sl_3n, app_nil_map, mk_i64, max_nat, hj, hx]
        refine cond_split (fun h6 => ?_) (fun h6 => ?_)
        · simp +decide (disch := first | omega | rfl | (simp +decide only [go_sem, ↓reduceIte] <;> rfl) | fail) only [go_sem, ↓reduceIte, rem64K, quo64K, remI64K, quoI64K, mulK64, mk_empty, sl_3n, app_nil_map, mk_i64, max_nat]
          exact retV_eq (by rw [bad (.inr (.inr ⟨x, hmem, .inr h6⟩))]) rfl
        · simp +decide (disch := first | omega | rfl | (simp +decide only [go_sem, ↓reduceIte, hj] <;> rfl) | fail) only [go_sem, ↓reduceIte, rem64K, quo64K, remI64K, quoI64K, mulK64, mk_empty, sl_3n, app_nil_map, mk_i64, max_nat, hj]
          refine back_ovr (a.length - (i + 1)) (by omega) ⟨i + 1, rfl, by omega, fun y hy => ?_, ?_⟩
          · rcases htk y hy with h | rfl
            · exact hall y h
            · omega
          · simp +decide (disch := first | omega | rfl | (simp +decide only [go_sem, ↓reduceIte] <;> rfl) | fail) only [go_sem, ↓reduceIte, rem64K, quo64K, remI64K, quoI64K, mulK64, mk_empty, sl_3n, app_nil_map, mk_i64, max_nat]
    · rw [List.take_of_length_le (by omega)] at hall
      simp +decide (disch := first | omega | rfl | (simp +decide only [go_sem, ↓reduceIte] <;> rfl) | fail) only [go_sem, ↓reduceIte, rem64K, quo64K, remI64K, quoI64K, mulK64, mk_empty, sl_3n, app_nil_map, mk_i64, max_nat]
      exact retV_eq (by rw [fin (by omega) hlast hall]) rfl
theorem r5_Norm_spec {a : List Int} (hl : a.length < 2 ^ 42) : FnSpec Tryz.prog 99 [PV.mono a] (· = PV.mono (if monoOk (trimI a) then trimI a else [])) := by
  have ht := trimI_length a
  refine fn_of_vc mixed Tryz.func99 rfl c99_ok (by simp [c99]) fun C hP => ?_; simp only [c99]
  simp +decide (disch := first | omega | rfl | (simp +decide only [go_sem, ↓reduceIte] <;> rfl) | fail) only [go_sem, ↓reduceIte, rem64K, quo64K, remI64K, quoI64K, mulK64, mk_empty, sl_3n, app_nil_map, mk_i64, max_nat]
  refine call_eq0 hP (r5_cut_spec hl) rfl rfl rfl ?_
  simp +decide (disch := first | omega | rfl | (simp +decide only [go_sem, ↓reduceIte] <;> rfl) | fail) only [go_sem, ↓reduceIte, rem64K, quo64K, remI64K, quoI64K, mulK64, mk_empty, sl_3n, app_nil_map, mk_i64, max_nat]
  refine call_eq0 hP (r5_Right_spec (by omega)) rfl rfl rfl ?_
  simp +decide (disch := first | omega | rfl | (simp +decide only [go_sem, ↓reduceIte] <;> rfl) | fail) only [go_sem, ↓reduceIte, rem64K, quo64K, remI64K, quoI64K, mulK64, mk_empty, sl_3n, app_nil_map, mk_i64, max_nat]
  cases hok : monoOk (trimI a)
  · simp +decide (disch := first | omega | rfl | (simp +decide only [go_sem, ↓reduceIte, Bool.not_false] <;> rfl) | fail) only [go_sem, ↓reduceIte, rem64K, quo64K, remI64K, quoI64K, mulK64, mk_empty, sl_3n, app_nil_map, mk_i64, max_nat, Bool.not_false]
    exact retV_le (nil_mono' (by simp)) rfl
  · have : (trimI a).length ≤ 64 := (MB.ofOk hok).len
    simp +decide (disch := first | omega | rfl | (simp +decide only [go_sem, ↓reduceIte, Bool.not_true, looks3, List.contains_cons, List.contains_nil, List.flatMap_cons, List.flatMap_nil, List.append_nil] <;> rfl) | fail) only [go_sem, ↓reduceIte, rem64K, quo64K, remI64K, quoI64K, mulK64, mk_empty, sl_3n, app_nil_map, mk_i64, max_nat, Bool.not_true, looks3, List.contains_cons, List.contains_nil, List.flatMap_cons, List.flatMap_nil, List.append_nil]
    exact retV_eq (by simp [List.take_of_length_le]) rfl
end Go.Proofs.YtjkbalanglgoiaaGreat
namespace Go.Proofs.YtjkbalanglgoiaaGreat
open Go Go.FW
set_option linter.unusedSimpArgs false
set_option linter.unusedVariables false
set_option maxRecDepth 100000
end Go.Proofs.YtjkbalanglgoiaaGreat
namespace Go.Proofs.YtjkbalanglgoiaaGreat
open Go Go.FW
set_option linter.unusedSimpArgs false
set_option linter.unusedVariables false
set_option maxRecDepth 100000
theorem r5_Mul_spec {k : Nat} {a b : List Int} (ha : MB k a) (hb : MB k b) (hk : k ≤ 1099511627776) : FnSpec Tryz.prog 160 [PV.mono a, PV.mono b] (· = PV.mono (zipI (· + ·) a b)) := by
  have h1 := ha.len
  have h2 := hb.len
  have hz := zipI_length (· + ·) a b
  refine fn_of_vc mixed Tryz.func160 rfl c160_ok (by simp [c160]) fun C hP => ?_; simp only [c160]
  simp +decide (disch := first | omega | rfl | (simp +decide only [go_sem, ↓reduceIte] <;> rfl) | fail) only [go_sem, ↓reduceIte, rem64K, quo64K, remI64K, quoI64K, mulK64, mk_empty, sl_3n, app_nil_map, mk_i64, max_nat]
  refine vc_nilF 5 900 1 3 (by omega) (by simp +decide (disch := first | omega | rfl | (simp +decide only [go_sem, ↓reduceIte] <;> rfl) | fail) only [go_sem, ↓reduceIte, rem64K, quo64K, remI64K, quoI64K, mulK64, mk_empty, sl_3n, app_nil_map, mk_i64, max_nat]) ?_
  refine vc_loopF (by repeat (first | exact okSk_ret | exact okSk_retM | exact okSk_retO | apply okSk_back | apply okSk_out | apply okSk_eb | apply okSk_c | apply okSk_o | apply okSk_again | apply okSk_backW)) [(5, 28)] [27, 28, 900] (fun m J hp => ∃ (i : Nat) (out : List Int), m = max a.length b.length - i ∧ i ≤ max a.length b.length ∧ out = (zipI (· + ·) a b).take i ∧ J 5 = .ms 900 out.length ∧ J 6 = .int .i64 i ∧ hp 900 = some ⟨1, 3, i64s out, false⟩) (max a.length b.length) ?_ ?_
  · refine ⟨0, [], rfl, by omega, by simp, ?_⟩
    simp +decide (disch := first | omega | rfl | (simp +decide only [go_sem, ↓reduceIte] <;> rfl) | fail) only [go_sem, ↓reduceIte, rem64K, quo64K, remI64K, quoI64K, mulK64, mk_empty, sl_3n, app_nil_map, mk_i64, max_nat]
    simp
  rintro _ J h ⟨i, out, rfl, hi, hout, h5, h6, hh⟩
  have hol : out.length = i := by rw [hout, List.length_take, hz]; omega
  simp +decide (disch := first | omega | rfl | (simp +decide only [go_sem, ↓reduceIte, h5, h6] <;> rfl) | fail) only [go_sem, ↓reduceIte, rem64K, quo64K, remI64K, quoI64K, mulK64, mk_empty, sl_3n, app_nil_map, mk_i64, max_nat, h5, h6]
  refine guard_splitF (fun hg => ?_) (fun hg => ?_)
  · have hlt : i < max a.length b.length := by omega
    have htk := zipI_take (g := (· + ·)) hlt
    have ea := ha.eN i
    have eb := hb.eN i
    simp +decide (disch := first | omega | rfl | (simp +decide only [go_sem, ↓reduceIte, h5, h6] <;> rfl) | fail) only [go_sem, ↓reduceIte, rem64K, quo64K, remI64K, quoI64K, mulK64, mk_empty, sl_3n, app_nil_map, mk_i64, max_nat, h5, h6]
    refine call_eq0 hP (r5_Exp_nat (a := a) (i := i) (by omega)) rfl rfl rfl ?_
    simp +decide (disch := first | omega | rfl | (simp +decide only [go_sem, ↓reduceIte, h5, h6] <;> rfl) | fail) only [go_sem, ↓reduceIte, rem64K, quo64K, remI64K, quoI64K, mulK64, mk_empty, sl_3n, app_nil_map, mk_i64, max_nat, h5, h6]
    refine call_eq0 hP (r5_Exp_nat (a := b) (i := i) (by omega)) rfl rfl rfl ?_
    simp +decide (disch := first | omega | rfl | (simp +decide only [go_sem, ↓reduceIte, h5, h6] <;> rfl) | fail) only [go_sem, ↓reduceIte, rem64K, quo64K, remI64K, quoI64K, mulK64, mk_empty, sl_3n, app_nil_map, mk_i64, max_nat, h5, h6]
    rw [app_push_map (f := fun (x : Int) => .int .i64 x) (y := eN a i + eN b i) (xs := out) (ty' := 3) (fz := false) (by simp +decide (disch := first | omega | rfl | (simp +decide only [go_sem, ↓reduceIte, hh] <;> rfl) | fail) only [go_sem, ↓reduceIte, rem64K, quo64K, remI64K, quoI64K, mulK64, mk_empty, sl_3n, app_nil_map, mk_i64, max_nat, hh]) (by simp +decide (disch := first | omega | rfl | (simp +decide only [go_sem, ↓reduceIte] <;> rfl) | fail) only [go_sem, ↓reduceIte, rem64K, quo64K, remI64K, quoI64K, mulK64, mk_empty, sl_3n, app_nil_map, mk_i64, max_nat] <;> rfl) (by omega) rfl (by omega) (by omega)]
    simp +decide (disch := first | omega | rfl | (simp +decide only [go_sem, ↓reduceIte, h5, h6] <;> rfl) | fail) only [go_sem, ↓reduceIte, rem64K, quo64K, remI64K, quoI64K, mulK64, mk_empty, sl_3n, app_nil_map, mk_i64, max_nat, h5, h6]
    refine back_ovr (max a.length b.length - (i + 1)) (by omega) ⟨i + 1, out ++ [eN a i + eN b i], rfl, by omega, by rw [htk, hout], ?_⟩
    simp +decide (disch := first | omega | rfl | (simp +decide only [go_sem, ↓reduceIte] <;> rfl) | fail) only [go_sem, ↓reduceIte, rem64K, quo64K, remI64K, quoI64K, mulK64, mk_empty, sl_3n, app_nil_map, mk_i64, max_nat]
    simp
  simp +decide (disch := first | omega | rfl | (simp +decide only [go_sem, ↓reduceIte, h5, h6] <;> rfl) | fail) only [go_sem, ↓reduceIte, rem64K, quo64K, remI64K, quoI64K, mulK64, mk_empty, sl_3n, app_nil_map, mk_i64, max_nat, h5, h6]
  refine cond_split (fun hg2 => ?_) (fun hg2 => ?_)
  · have hlt : i < max a.length b.length := by omega
    have htk := zipI_take (g := (· + ·)) hlt
    have ea := ha.eN i
    have eb := hb.eN i
    simp +decide (disch := first | omega | rfl | (simp +decide only [go_sem, ↓reduceIte, h5, h6] <;> rfl) | fail) only [go_sem, ↓reduceIte, rem64K, quo64K, remI64K, quoI64K, mulK64, mk_empty, sl_3n, app_nil_map, mk_i64, max_nat, h5, h6]
    refine call_eq0 hP (r5_Exp_nat (a := a) (i := i) (by omega)) rfl rfl rfl ?_
    simp +decide (disch := first | omega | rfl | (simp +decide only [go_sem, ↓reduceIte, h5, h6] <;> rfl) | fail) only [go_sem, ↓reduceIte, rem64K, quo64K, remI64K, quoI64K, mulK64, mk_empty, sl_3n, app_nil_map, mk_i64, max_nat, h5, h6]
    refine call_eq0 hP (r5_Exp_nat (a := b) (i := i) (by omega)) rfl rfl rfl ?_
    simp +decide (disch := first | omega | rfl | (simp +decide only [go_sem, ↓reduceIte, h5, h6] <;> rfl) | fail) only [go_sem, ↓reduceIte, rem64K, quo64K, remI64K, quoI64K, mulK64, mk_empty, sl_3n, app_nil_map, mk_i64, max_nat, h5, h6]
    rw [app_push_map (f := fun (x : Int) => .int .i64 x) (y := eN a i + eN b i) (xs := out) (ty' := 3) (fz := false) (by simp +decide (disch := first | omega | rfl | (simp +decide only [go_sem, ↓reduceIte, hh] <;> rfl) | fail) only [go_sem, ↓reduceIte, rem64K, quo64K, remI64K, quoI64K, mulK64, mk_empty, sl_3n, app_nil_map, mk_i64, max_nat, hh]) (by simp +decide (disch := first | omega | rfl | (simp +decide only [go_sem, ↓reduceIte] <;> rfl) | fail) only [go_sem, ↓reduceIte, rem64K, quo64K, remI64K, quoI64K, mulK64, mk_empty, sl_3n, app_nil_map, mk_i64, max_nat] <;> rfl) (by omega) rfl (by omega) (by omega)]
    simp +decide (disch := first | omega | rfl | (simp +decide only [go_sem, ↓reduceIte, h5, h6] <;> rfl) | fail) only [go_sem, ↓reduceIte, rem64K, quo64K, remI64K, quoI64K, mulK64, mk_empty, sl_3n, app_nil_map, mk_i64, max_nat, h5, h6]
    refine back_ovr (max a.length b.length - (i + 1)) (by omega) ⟨i + 1, out ++ [eN a i + eN b i], rfl, by omega, by rw [htk, hout], ?_⟩
    simp +decide (disch := first | omega | rfl | (simp +decide only [go_sem, ↓reduceIte] <;> rfl) | fail) only [go_sem, ↓reduceIte, rem64K, quo64K, remI64K, quoI64K, mulK64, mk_empty, sl_3n, app_nil_map, mk_i64, max_nat]
    simp
  obtain rfl : i = max a.length b.length := by omega
  rw [List.take_of_length_le (by omega)] at hout
  subst hout
  simp +decide (disch := first | omega | rfl | (simp +decide only [go_sem, ↓reduceIte, h5, hh, looks3, List.contains_cons, List.contains_nil, List.flatMap_cons, List.flatMap_nil, List.append_nil] <;> rfl) | fail) only [go_sem, ↓reduceIte, rem64K, quo64K, remI64K, quoI64K, mulK64, mk_empty, sl_3n, app_nil_map, mk_i64, max_nat, h5, hh, looks3, List.contains_cons, List.contains_nil, List.flatMap_cons, List.flatMap_nil, List.append_nil]
  exact retV_eq (by rw [List.take_of_length_le (by simp)]) rfl
end Go.Proofs.YtjkbalanglgoiaaGreat
namespace Go.Proofs.YtjkbalanglgoiaaGreat
open Go Go.FW
set_option linter.unusedSimpArgs false
set_option linter.unusedVariables false
set_option maxRecDepth 100000
theorem sgn_subZ (x y : Int) : sgn (x - y) = cmpZ x y := by unfold sgn cmpZ; (repeat' split) <;> omega
theorem r5_Cmp_spec {k : Nat} {a b : List Int} {o : Int} (ha : MB k a) (hb : MB k b) (hk : k ≤ 1099511627776) : FnSpec Tryz.prog 95 [PV.mono a, PV.mono b, .int .i64 o] (· = .int .i64 (cmpO o a b)) := by
  have h1 := ha.len
  have h2 := hb.len
  have hda : ∀ x ∈ a, 0 ≤ x ∧ x ≤ 1099511627776 := fun x hx => by have := ha.lo x hx; have := ha.hi x hx; omega
  have hdb : ∀ x ∈ b, 0 ≤ x ∧ x ≤ 1099511627776 := fun x hx => by have := hb.lo x hx; have := hb.hi x hx; omega
  have da := degM_le ha
  have db := degM_le hb
  refine fn_of_vc mixed Tryz.func95 rfl c95_ok (by simp [c95]) fun C hP => ?_; simp only [c95]
  simp +decide (disch := first | omega | rfl | (simp +decide only [go_sem, ↓reduceIte] <;> rfl) | fail) only [go_sem, ↓reduceIte, rem64K, quo64K, remI64K, quoI64K, mulK64, mk_empty, sl_3n, app_nil_map, mk_i64, max_nat]
  refine guard_split (fun ho => ?_) (fun ho => ?_)
  · simp +decide (disch := first | omega | rfl | (simp +decide only [go_sem, ↓reduceIte] <;> rfl) | fail) only [go_sem, ↓reduceIte, rem64K, quo64K, remI64K, quoI64K, mulK64, mk_empty, sl_3n, app_nil_map, mk_i64, max_nat]
    refine call_eq0 hP (r5_Degree_spec (by omega) hda) rfl rfl rfl ?_
    simp +decide (disch := first | omega | rfl | (simp +decide only [go_sem, ↓reduceIte] <;> rfl) | fail) only [go_sem, ↓reduceIte, rem64K, quo64K, remI64K, quoI64K, mulK64, mk_empty, sl_3n, app_nil_map, mk_i64, max_nat]
    refine call_eq0 hP (r5_Degree_spec (by omega) hdb) rfl rfl rfl ?_
    simp +decide (disch := first | omega | rfl | (simp +decide only [go_sem, ↓reduceIte] <;> rfl) | fail) only [go_sem, ↓reduceIte, rem64K, quo64K, remI64K, quoI64K, mulK64, mk_empty, sl_3n, app_nil_map, mk_i64, max_nat]
    refine cond_split (fun hd => ?_) (fun hd => ?_)
    · have hord : cmpO o a b = cmpZ (degM a) (degM b) := by unfold cmpO; rw [if_pos ⟨ho, hd⟩]
      simp +decide (disch := first | omega | rfl | (simp +decide only [go_sem, ↓reduceIte] <;> rfl) | fail) only [go_sem, ↓reduceIte, rem64K, quo64K, remI64K, quoI64K, mulK64, mk_empty, sl_3n, app_nil_map, mk_i64, max_nat]
      refine call_eq0 hP (r5_Degree_spec (by omega) hda) rfl rfl rfl ?_
      simp +decide (disch := first | omega | rfl | (simp +decide only [go_sem, ↓reduceIte] <;> rfl) | fail) only [go_sem, ↓reduceIte, rem64K, quo64K, remI64K, quoI64K, mulK64, mk_empty, sl_3n, app_nil_map, mk_i64, max_nat]
      refine call_eq0 hP (r5_Degree_spec (by omega) hdb) rfl rfl rfl ?_
      simp +decide (disch := first | omega | rfl | (simp +decide only [go_sem, ↓reduceIte] <;> rfl) | fail) only [go_sem, ↓reduceIte, rem64K, quo64K, remI64K, quoI64K, mulK64, mk_empty, sl_3n, app_nil_map, mk_i64, max_nat]
      refine call_eq0 hP (r5_sign_spec _) rfl rfl rfl ?_
      simp +decide (disch := first | omega | rfl | (simp +decide only [go_sem, ↓reduceIte] <;> rfl) | fail) only [go_sem, ↓reduceIte, rem64K, quo64K, remI64K, quoI64K, mulK64, mk_empty, sl_3n, app_nil_map, mk_i64, max_nat]
      exact retV_eq (by rw [hord, sgn_subZ]) rfl
    have hord : cmpO o a b = cmpM a b := by unfold cmpO; rw [if_neg (fun h => hd h.2)]
    simp +decide (disch := first | omega | rfl | (simp +decide only [go_sem, ↓reduceIte] <;> rfl) | fail) only [go_sem, ↓reduceIte, rem64K, quo64K, remI64K, quoI64K, mulK64, mk_empty, sl_3n, app_nil_map, mk_i64, max_nat]
    refine vc_loopF (by repeat (first | exact okSk_ret | exact okSk_retM | exact okSk_retO | apply okSk_back | apply okSk_out | apply okSk_eb | apply okSk_c | apply okSk_o | apply okSk_again | apply okSk_backW)) [(6, 7), (29, 47)] [] (fun n J hp => n ≤ max a.length b.length ∧ cmpN a b n = cmpM a b ∧ J 7 = .int .i64 ((n : Int) - 1) ∧ hp = hp0) (max a.length b.length) ?_ ?_
    · refine ⟨by omega, rfl, ?_⟩
      simp +decide (disch := first | omega | rfl | (simp +decide only [go_sem, ↓reduceIte] <;> rfl) | fail) only [go_sem, ↓reduceIte, rem64K, quo64K, remI64K, quoI64K, mulK64, mk_empty, sl_3n, app_nil_map, mk_i64, max_nat]
    rintro n J _ ⟨hn, hc, h7, rfl⟩
    simp +decide (disch := first | omega | rfl | (simp +decide only [go_sem, ↓reduceIte, h7] <;> rfl) | fail) only [go_sem, ↓reduceIte, rem64K, quo64K, remI64K, quoI64K, mulK64, mk_empty, sl_3n, app_nil_map, mk_i64, max_nat, h7]
    refine cond_split (fun hg => ?_) (fun hg => ?_)
    · obtain _ | n := n
      · omega
      have e : ((n + 1 : Nat) : Int) - 1 = n := by omega
      have ea := ha.eN n
      have eb := hb.eN n
      rw [cmpN] at hc
      simp +decide (disch := first | omega | rfl | (simp +decide only [go_sem, ↓reduceIte, h7, e] <;> rfl) | fail) only [go_sem, ↓reduceIte, rem64K, quo64K, remI64K, quoI64K, mulK64, mk_empty, sl_3n, app_nil_map, mk_i64, max_nat, h7, e]
      refine call_eq0 hP (r5_Exp_nat (by omega)) rfl rfl rfl ?_
      simp +decide (disch := first | omega | rfl | (simp +decide only [go_sem, ↓reduceIte, h7, e] <;> rfl) | fail) only [go_sem, ↓reduceIte, rem64K, quo64K, remI64K, quoI64K, mulK64, mk_empty, sl_3n, app_nil_map, mk_i64, max_nat, h7, e]
      refine call_eq0 hP (r5_Exp_nat (by omega)) rfl rfl rfl ?_
      simp +decide (disch := first | omega | rfl | (simp +decide only [go_sem, ↓reduceIte, h7, e] <;> rfl) | fail) only [go_sem, ↓reduceIte, rem64K, quo64K, remI64K, quoI64K, mulK64, mk_empty, sl_3n, app_nil_map, mk_i64, max_nat, h7, e]
      refine cond_split (fun h4 => ?_) (fun h4 => ?_)
      · rw [if_neg h4] at hc
        simp +decide (disch := first | omega | rfl | (simp +decide only [go_sem, ↓reduceIte, h7, e] <;> rfl) | fail) only [go_sem, ↓reduceIte, rem64K, quo64K, remI64K, quoI64K, mulK64, mk_empty, sl_3n, app_nil_map, mk_i64, max_nat, h7, e]
        refine call_eq0 hP (r5_Exp_nat (by omega)) rfl rfl rfl ?_
        simp +decide (disch := first | omega | rfl | (simp +decide only [go_sem, ↓reduceIte, h7, e] <;> rfl) | fail) only [go_sem, ↓reduceIte, rem64K, quo64K, remI64K, quoI64K, mulK64, mk_empty, sl_3n, app_nil_map, mk_i64, max_nat, h7, e]
        refine call_eq0 hP (r5_Exp_nat (by omega)) rfl rfl rfl ?_
        simp +decide (disch := first | omega | rfl | (simp +decide only [go_sem, ↓reduceIte, h7, e] <;> rfl) | fail) only [go_sem, ↓reduceIte, rem64K, quo64K, remI64K, quoI64K, mulK64, mk_empty, sl_3n, app_nil_map, mk_i64, max_nat, h7, e]
        refine call_eq0 hP (r5_sign_spec _) rfl rfl rfl ?_
        simp +decide (disch := first | omega | rfl | (simp +decide only [go_sem, ↓reduceIte, h7, e] <;> rfl) | fail) only [go_sem, ↓reduceIte, rem64K, quo64K, remI64K, quoI64K, mulK64, mk_empty, sl_3n, app_nil_map, mk_i64, max_nat, h7, e]
        exact retV_eq (by rw [hord, ← hc, sgn_subZ]) rfl
      · rw [if_pos (by omega)] at hc
        simp +decide (disch := first | omega | rfl | (simp +decide only [go_sem, ↓reduceIte, h7, e] <;> rfl) | fail) only [go_sem, ↓reduceIte, rem64K, quo64K, remI64K, quoI64K, mulK64, mk_empty, sl_3n, app_nil_map, mk_i64, max_nat, h7, e]
        refine back_ovr n (by omega) ⟨by omega, hc, ?_⟩
        simp +decide (disch := first | omega | rfl | (simp +decide only [go_sem, ↓reduceIte] <;> rfl) | fail) only [go_sem, ↓reduceIte, rem64K, quo64K, remI64K, quoI64K, mulK64, mk_empty, sl_3n, app_nil_map, mk_i64, max_nat]
    · obtain rfl : n = 0 := by omega
      simp +decide (disch := first | omega | rfl | (simp +decide only [go_sem, ↓reduceIte] <;> rfl) | fail) only [go_sem, ↓reduceIte, rem64K, quo64K, remI64K, quoI64K, mulK64, mk_empty, sl_3n, app_nil_map, mk_i64, max_nat]
      exact retV_eq (by rw [hord, ← hc]; rfl) rfl
  · have hord : cmpO o a b = cmpM a b := by unfold cmpO; rw [if_neg (fun h => ho h.1)]
    simp +decide (disch := first | omega | rfl | (simp +decide only [go_sem, ↓reduceIte] <;> rfl) | fail) only [go_sem, ↓reduceIte, rem64K, quo64K, remI64K, quoI64K, mulK64, mk_empty, sl_3n, app_nil_map, mk_i64, max_nat]
    refine vc_loopF (by repeat (first | exact okSk_ret | exact okSk_retM | exact okSk_retO | apply okSk_back | apply okSk_out | apply okSk_eb | apply okSk_c | apply okSk_o | apply okSk_again | apply okSk_backW)) [(6, 7), (29, 47)] [] (fun n J hp => n ≤ max a.length b.length ∧ cmpN a b n = cmpM a b ∧ J 7 = .int .i64 ((n : Int) - 1) ∧ hp = hp0) (max a.length b.length) ?_ ?_
    · refine ⟨by omega, rfl, ?_⟩
      simp +decide (disch := first | omega | rfl | (simp +decide only [go_sem, ↓reduceIte] <;> rfl) | fail) only [go_sem, ↓reduceIte, rem64K, quo64K, remI64K, quoI64K, mulK64, mk_empty, sl_3n, app_nil_map, mk_i64, max_nat]
    rintro n J _ ⟨hn, hc, h7, rfl⟩
    simp +decide (disch := first | omega | rfl | (simp +decide only [go_sem, ↓reduceIte, h7] <;> rfl) | fail) only [go_sem, ↓reduceIte, rem64K, quo64K, remI64K, quoI64K, mulK64, mk_empty, sl_3n, app_nil_map, mk_i64, max_nat, h7]
    refine cond_split (fun hg => ?_) (fun hg => ?_)
    · obtain _ | n := n
      · omega
      have e : ((n + 1 : Nat) : Int) - 1 = n := by omega
      have ea := ha.eN n
      have eb := hb.eN n
      rw [cmpN] at hc
      simp +decide (disch := first | omega | rfl | (simp +decide only [go_sem, ↓reduceIte, h7, e] <;> rfl) | fail) only [go_sem, ↓reduceIte, rem64K, quo64K, remI64K, quoI64K, mulK64, mk_empty, sl_3n, app_nil_map, mk_i64, max_nat, h7, e]
      refine call_eq0 hP (r5_Exp_nat (by omega)) rfl rfl rfl ?_
      simp +decide (disch := first | omega | rfl | (simp +decide only [go_sem, ↓reduceIte, h7, e] <;> rfl) | fail) only [go_sem, ↓reduceIte, rem64K, quo64K, remI64K, quoI64K, mulK64, mk_empty, sl_3n, app_nil_map, mk_i64, max_nat, h7, e]
      refine call_eq0 hP (r5_Exp_nat (by omega)) rfl rfl rfl ?_
      simp +decide (disch := first | omega | rfl | (simp +decide only [go_sem, ↓reduceIte, h7, e] <;> rfl) | fail) only [go_sem, ↓reduceIte, rem64K, quo64K, remI64K, quoI64K, mulK64, mk_empty, sl_3n, app_nil_map, mk_i64, max_nat, h7, e]
      refine cond_split (fun h4 => ?_) (fun h4 => ?_)
      · rw [if_neg h4] at hc
        simp +decide (disch := first | omega | rfl | (simp +decide only [go_sem, ↓reduceIte, h7, e] <;> rfl) | fail) only [go_sem, ↓reduceIte, rem64K, quo64K, remI64K, quoI64K, mulK64, mk_empty, sl_3n, app_nil_map, mk_i64, max_nat, h7, e]
        refine call_eq0 hP (r5_Exp_nat (by omega)) rfl rfl rfl ?_
        simp +decide (disch := first | omega | rfl | (simp +decide only [go_sem, ↓reduceIte, h7, e] <;> rfl) | fail) only [go_sem, ↓reduceIte, rem64K, quo64K, remI64K, quoI64K, mulK64, mk_empty, sl_3n, app_nil_map, mk_i64, max_nat, h7, e]
        refine call_eq0 hP (r5_Exp_nat (by omega)) rfl rfl rfl ?_
        simp +decide (disch := first | omega | rfl | (simp +decide only [go_sem, ↓reduceIte, h7, e] <;> rfl) | fail) only [go_sem, ↓reduceIte, rem64K, quo64K, remI64K, quoI64K, mulK64, mk_empty, sl_3n, app_nil_map, mk_i64, max_nat, h7, e]
        refine call_eq0 hP (r5_sign_spec _) rfl rfl rfl ?_
        simp +decide (disch := first | omega | rfl | (simp +decide only [go_sem, ↓reduceIte, h7, e] <;> rfl) | fail) only [go_sem, ↓reduceIte, rem64K, quo64K, remI64K, quoI64K, mulK64, mk_empty, sl_3n, app_nil_map, mk_i64, max_nat, h7, e]
        exact retV_eq (by rw [hord, ← hc, sgn_subZ]) rfl
      · rw [if_pos (by omega)] at hc
        simp +decide (disch := first | omega | rfl | (simp +decide only [go_sem, ↓reduceIte, h7, e] <;> rfl) | fail) only [go_sem, ↓reduceIte, rem64K, quo64K, remI64K, quoI64K, mulK64, mk_empty, sl_3n, app_nil_map, mk_i64, max_nat, h7, e]
        refine back_ovr n (by omega) ⟨by omega, hc, ?_⟩
        simp +decide (disch := first | omega | rfl | (simp +decide only [go_sem, ↓reduceIte] <;> rfl) | fail) only [go_sem, ↓reduceIte, rem64K, quo64K, remI64K, quoI64K, mulK64, mk_empty, sl_3n, app_nil_map, mk_i64, max_nat]
    · obtain rfl : n = 0 := by omega
      simp +decide (disch := first | omega | rfl | (simp +decide only [go_sem, ↓reduceIte] <;> rfl) | fail) only [go_sem, ↓reduceIte, rem64K, quo64K, remI64K, quoI64K, mulK64, mk_empty, sl_3n, app_nil_map, mk_i64, max_nat]
      exact retV_eq (by rw [hord, ← hc]; rfl) rfl
end Go.Proofs.YtjkbalanglgoiaaGreat
namespace Go.Proofs.YtjkbalanglgoiaaGreat
open Go Go.FW
set_option linter.unusedSimpArgs false
set_option linter.unusedVariables false
set_option maxRecDepth 100000
theorem r3_Add_q {a b : Rat} {k : Nat} (ha : rs a ≤ k) (hb : rs b ≤ k) (hk : k < 2 ^ 34) : FnSpec Tryz.prog 102 [PV.rat a, PV.rat b] (· = PV.rat (a + b)) := by
  have := r3_Add_spec (raw_of ha) (raw_of hb) hk
  rwa [rv_of, rv_of] at this
theorem r3_Mul_q {a b : Rat} {k : Nat} (ha : rs a ≤ k) (hb : rs b ≤ k) (hk : k < 2 ^ 34) : FnSpec Tryz.prog 64 [PV.rat a, PV.rat b] (· = PV.rat (a * b)) := by
  have := r3_Mul_spec (raw_of ha) (raw_of hb) hk
  rwa [rv_of, rv_of] at this
theorem r3_Cmp_q {a b : Rat} {k : Nat} (ha : rs a ≤ k) (hb : rs b ≤ k) (hk : k < 2 ^ 34) : FnSpec Tryz.prog 86 [PV.rat a, PV.rat b] (· = .int .i64 (cmpQ a b)) := by
  have := r3_Cmp_spec (raw_of ha) (raw_of hb) hk
  rwa [rv_of, rv_of] at this
theorem r3_Sign_q {a : Rat} (ha : rs a < 2 ^ 36) : FnSpec Tryz.prog 93 [PV.rat a] (· = .int .i64 (sgnQ a)) := by
  have := r3_Sign_spec (raw_of (Nat.le_refl (rs a))) ha
  rwa [rv_of] at this
theorem r5_lex {k : Nat} {a b : List Int} (ha : MB k a) (hb : MB k b) (hk : k ≤ 1099511627776) : FnSpec Tryz.prog 95 [PV.mono a, PV.mono b, .int .i64 0] (· = .int .i64 (cmpM a b)) := by
  have := r5_Cmp_spec (o := 0) ha hb hk
  rwa [cmpO_0] at this
theorem r6_Cmp_spec {p q : List Tm} {K E : Nat} (hp : PB K E p) (hq : PB K E q) (hK : K ≤ 2 ^ 33) (hE : E ≤ 2 ^ 38) (hlp : p.length ≤ 2 ^ 36) (hlq : q.length ≤ 2 ^ 36) :
    FnSpec Tryz.prog 68 [PV.poly p, PV.poly q] (· = .int .i64 (pcmp p q)) := by
  refine fn_of_vc mixed Tryz.func68 rfl c68_ok (by simp [c68]) fun C hP => ?_; simp only [c68]
  simp +decide (disch := first | omega | rfl | (simp +decide only [go_sem, ↓reduceIte] <;> rfl) | fail) only [go_sem, ↓reduceIte, rem64K, quo64K, remI64K, quoI64K, mulK64, mk_empty, sl_3n, app_nil_map, mk_i64, max_nat]
  refine vc_loopF (by repeat (first | exact okSk_ret | exact okSk_retM | exact okSk_retO | apply okSk_back | apply okSk_out | apply okSk_eb | apply okSk_c | apply okSk_o | apply okSk_again | apply okSk_backW)) [(4, 47)] [] (fun n J hp => ∃ i, n = p.length - i ∧ i ≤ p.length ∧ i ≤ q.length ∧ pcmp (p.drop i) (q.drop i) = pcmp p q ∧ J 5 = .int .i64 (i : Nat)) p.length ?_ ?_
  · refine ⟨0, rfl, by omega, by omega, rfl, ?_⟩
    simp +decide (disch := first | omega | rfl | (simp +decide only [go_sem, ↓reduceIte] <;> rfl) | fail) only [go_sem, ↓reduceIte, rem64K, quo64K, remI64K, quoI64K, mulK64, mk_empty, sl_3n, app_nil_map, mk_i64, max_nat]
    rfl
  rintro _ J h ⟨i, rfl, hi, hi2, hpc, h5⟩
  simp +decide (disch := first | omega | rfl | (simp +decide only [go_sem, ↓reduceIte, h5] <;> rfl) | fail) only [go_sem, ↓reduceIte, rem64K, quo64K, remI64K, quoI64K, mulK64, mk_empty, sl_3n, app_nil_map, mk_i64, max_nat, h5]
  refine guard_split (fun hg => ?_) (fun hg => ?_)
  · have hi' : i < p.length := by omega
    simp +decide (disch := first | omega | rfl | (simp +decide only [go_sem, ↓reduceIte, h5] <;> rfl) | fail) only [go_sem, ↓reduceIte, rem64K, quo64K, remI64K, quoI64K, mulK64, mk_empty, sl_3n, app_nil_map, mk_i64, max_nat, h5]
    refine cond_split (fun hk => ?_) (fun hk => ?_)
    · have hk' : i < q.length := by omega
      have htp := hp.get hi'
      have htq := hq.get hk'
      have c1 := htp.c
      have c2 := htq.c
      rw [pcmp_drop hi' hk'] at hpc
      generalize hx : p[i] = x at *
      generalize hy : q[i] = y at *
      simp +decide (disch := first | omega | rfl | (simp +decide only [go_sem, ↓reduceIte, h5, hx, hy] <;> rfl) | fail) only [go_sem, ↓reduceIte, rem64K, quo64K, remI64K, quoI64K, mulK64, mk_empty, sl_3n, app_nil_map, mk_i64, max_nat, h5, hx, hy]
      refine call_eq0 hP (r5_lex htp.m htq.m (by omega)) rfl rfl rfl ?_
      simp +decide (disch := first | omega | rfl | (simp +decide only [go_sem, ↓reduceIte, h5, hx, hy] <;> rfl) | fail) only [go_sem, ↓reduceIte, rem64K, quo64K, remI64K, quoI64K, mulK64, mk_empty, sl_3n, app_nil_map, mk_i64, max_nat, h5, hx, hy]
      refine cond_split (fun hc => ?_) (fun hc => ?_)
      · simp +decide (disch := first | omega | rfl | (simp +decide only [go_sem, ↓reduceIte] <;> rfl) | fail) only [go_sem, ↓reduceIte, rem64K, quo64K, remI64K, quoI64K, mulK64, mk_empty, sl_3n, app_nil_map, mk_i64, max_nat]
        exact retV_eq (by rw [← hpc, if_pos (by rw [cmpT, if_pos hc]; exact hc), cmpT, if_pos hc]) rfl
      · simp +decide (disch := first | omega | rfl | (simp +decide only [go_sem, ↓reduceIte, h5, hx, hy] <;> rfl) | fail) only [go_sem, ↓reduceIte, rem64K, quo64K, remI64K, quoI64K, mulK64, mk_empty, sl_3n, app_nil_map, mk_i64, max_nat, h5, hx, hy]
        refine call_eq0 hP (r3_Cmp_q (a := x.1) (b := y.1) (k := 2 ^ 33) (by omega) (by omega) (by omega)) rfl rfl rfl ?_
        simp +decide (disch := first | omega | rfl | (simp +decide only [go_sem, ↓reduceIte, h5, hx, hy] <;> rfl) | fail) only [go_sem, ↓reduceIte, rem64K, quo64K, remI64K, quoI64K, mulK64, mk_empty, sl_3n, app_nil_map, mk_i64, max_nat, h5, hx, hy]
        refine cond_split (fun hc2 => ?_) (fun hc2 => ?_)
        · simp +decide (disch := first | omega | rfl | (simp +decide only [go_sem, ↓reduceIte] <;> rfl) | fail) only [go_sem, ↓reduceIte, rem64K, quo64K, remI64K, quoI64K, mulK64, mk_empty, sl_3n, app_nil_map, mk_i64, max_nat]
          exact retV_eq (by rw [← hpc, if_pos (by rw [cmpT, if_neg hc]; exact hc2), cmpT, if_neg hc]) rfl
        · rw [if_neg (by rw [cmpT, if_neg hc]; exact hc2)] at hpc
          simp +decide (disch := first | omega | rfl | (simp +decide only [go_sem, ↓reduceIte, h5] <;> rfl) | fail) only [go_sem, ↓reduceIte, rem64K, quo64K, remI64K, quoI64K, mulK64, mk_empty, sl_3n, app_nil_map, mk_i64, max_nat, h5]
          refine back_ovr (p.length - (i + 1)) (by omega) ⟨i + 1, rfl, by omega, by omega, hpc, ?_⟩
          simp +decide (disch := first | omega | rfl | (simp +decide only [go_sem, ↓reduceIte] <;> rfl) | fail) only [go_sem, ↓reduceIte, rem64K, quo64K, remI64K, quoI64K, mulK64, mk_empty, sl_3n, app_nil_map, mk_i64, max_nat]
    simp +decide (disch := first | omega | rfl | (simp +decide only [go_sem, ↓reduceIte] <;> rfl) | fail) only [go_sem, ↓reduceIte, rem64K, quo64K, remI64K, quoI64K, mulK64, mk_empty, sl_3n, app_nil_map, mk_i64, max_nat]
    refine cond_split (fun hk => ?_) (fun hk => ?_)
    · simp +decide (disch := first | omega | rfl | (simp +decide only [go_sem, ↓reduceIte] <;> rfl) | fail) only [go_sem, ↓reduceIte, rem64K, quo64K, remI64K, quoI64K, mulK64, mk_empty, sl_3n, app_nil_map, mk_i64, max_nat]
      exact retV_eq (by rw [← hpc, List.drop_of_length_le (show p.length ≤ i by omega), pcmp_end, if_neg (by rw [List.length_drop]; omega)]) rfl
    · simp +decide (disch := first | omega | rfl | (simp +decide only [go_sem, ↓reduceIte] <;> rfl) | fail) only [go_sem, ↓reduceIte, rem64K, quo64K, remI64K, quoI64K, mulK64, mk_empty, sl_3n, app_nil_map, mk_i64, max_nat]
      refine cond_split (fun hk2 => ?_) (fun hk2 => ?_)
      · simp +decide (disch := first | omega | rfl | (simp +decide only [go_sem, ↓reduceIte] <;> rfl) | fail) only [go_sem, ↓reduceIte, rem64K, quo64K, remI64K, quoI64K, mulK64, mk_empty, sl_3n, app_nil_map, mk_i64, max_nat]
        refine retV_eq ?_ rfl
        rw [← hpc, List.drop_eq_getElem_cons (show i < p.length by omega), List.drop_of_length_le (show q.length ≤ i by omega), pcmp]
      · simp +decide (disch := first | omega | rfl | (simp +decide only [go_sem, ↓reduceIte] <;> rfl) | fail) only [go_sem, ↓reduceIte, rem64K, quo64K, remI64K, quoI64K, mulK64, mk_empty, sl_3n, app_nil_map, mk_i64, max_nat]
        exact retV_eq (by rw [← hpc, List.drop_of_length_le (show p.length ≤ i by omega), pcmp_end, if_pos (by rw [List.length_drop]; omega)]) rfl
  · have hi' : i = p.length := by omega
    simp +decide (disch := first | omega | rfl | (simp +decide only [go_sem, ↓reduceIte] <;> rfl) | fail) only [go_sem, ↓reduceIte, rem64K, quo64K, remI64K, quoI64K, mulK64, mk_empty, sl_3n, app_nil_map, mk_i64, max_nat]
    refine cond_split (fun hk => ?_) (fun hk => ?_)
    · simp +decide (disch := first | omega | rfl | (simp +decide only [go_sem, ↓reduceIte] <;> rfl) | fail) only [go_sem, ↓reduceIte, rem64K, quo64K, remI64K, quoI64K, mulK64, mk_empty, sl_3n, app_nil_map, mk_i64, max_nat]
      exact retV_eq (by rw [← hpc, List.drop_of_length_le (show p.length ≤ i by omega), pcmp_end, if_neg (by rw [List.length_drop]; omega)]) rfl
    · simp +decide (disch := first | omega | rfl | (simp +decide only [go_sem, ↓reduceIte] <;> rfl) | fail) only [go_sem, ↓reduceIte, rem64K, quo64K, remI64K, quoI64K, mulK64, mk_empty, sl_3n, app_nil_map, mk_i64, max_nat]
      refine cond_split (fun hk2 => ?_) (fun hk2 => ?_)
      · simp +decide (disch := first | omega | rfl | (simp +decide only [go_sem, ↓reduceIte] <;> rfl) | fail) only [go_sem, ↓reduceIte, rem64K, quo64K, remI64K, quoI64K, mulK64, mk_empty, sl_3n, app_nil_map, mk_i64, max_nat]
        refine retV_eq ?_ rfl
        rw [← hpc, List.drop_eq_getElem_cons (show i < p.length by omega), List.drop_of_length_le (show q.length ≤ i by omega), pcmp]
      · simp +decide (disch := first | omega | rfl | (simp +decide only [go_sem, ↓reduceIte] <;> rfl) | fail) only [go_sem, ↓reduceIte, rem64K, quo64K, remI64K, quoI64K, mulK64, mk_empty, sl_3n, app_nil_map, mk_i64, max_nat]
        exact retV_eq (by rw [← hpc, List.drop_of_length_le (show p.length ≤ i by omega), pcmp_end, if_pos (by rw [List.length_drop]; omega)]) rfl
theorem r6_Equal_spec {p q : List Tm} {K E : Nat} (hp : PB K E p) (hq : PB K E q) (hK : K ≤ 2 ^ 33) (hE : E ≤ 2 ^ 38) (hlp : p.length ≤ 2 ^ 36) (hlq : q.length ≤ 2 ^ 36) : FnSpec Tryz.prog 15 [PV.poly p, PV.poly q] (· = .bool (decide (p = q))) := by
  refine fn_of_vc mixed Tryz.func15 rfl c15_ok (by simp [c15]) fun C hP => ?_; simp only [c15]
  simp +decide (disch := first | omega | rfl | (simp +decide only [go_sem, ↓reduceIte] <;> rfl) | fail) only [go_sem, ↓reduceIte, rem64K, quo64K, remI64K, quoI64K, mulK64, mk_empty, sl_3n, app_nil_map, mk_i64, max_nat]
  refine call_eq0 hP (r6_Cmp_spec hp hq hK hE hlp hlq) rfl rfl rfl ?_
  simp +decide (disch := first | omega | rfl | (simp +decide only [go_sem, ↓reduceIte] <;> rfl) | fail) only [go_sem, ↓reduceIte, rem64K, quo64K, remI64K, quoI64K, mulK64, mk_empty, sl_3n, app_nil_map, mk_i64, max_nat]
  exact retV_eq (congrArg PV.bool (decide_eq_decide.2 (pcmp_eq hp.last hq.last))) rfl
theorem r6_Add_spec {p q : List Tm} {K E : Nat} (hp : PB K E p) (hq : PB K E q) (hK : K ≤ 2 ^ 32) (hE : E ≤ 2 ^ 38) (hlp : p.length ≤ 2 ^ 36) (hlq : q.length ≤ 2 ^ 36) :
    FnSpec Tryz.prog 44 [PV.poly p, PV.poly q] (· = PV.poly (padd p q)) := by
  refine fn_of_vc mixed Tryz.func44 rfl c44_ok (by simp [c44]) fun C hP => ?_; simp only [c44]
  simp +decide (disch := first | omega | rfl | (simp +decide only [go_sem, ↓reduceIte] <;> rfl) | fail) only [go_sem, ↓reduceIte, rem64K, quo64K, remI64K, quoI64K, mulK64, mk_empty, sl_3n, app_nil_map, mk_i64, max_nat]
  refine vc_nilF 5 900 4 61 (by omega) (by simp +decide (disch := first | omega | rfl | (simp +decide only [go_sem, ↓reduceIte] <;> rfl) | fail) only [go_sem, ↓reduceIte, rem64K, quo64K, remI64K, quoI64K, mulK64, mk_empty, sl_3n, app_nil_map, mk_i64, max_nat]) ?_
  refine vc_loopF (by repeat (first | exact okSk_ret | exact okSk_retM | exact okSk_retO | apply okSk_back | apply okSk_out | apply okSk_eb | apply okSk_c | apply okSk_o | apply okSk_again | apply okSk_backW)) [(5, 90)] [9, 61, 62, 75, 76, 87, 88, 900] (fun n J hp => ∃ i k out, n = (p.length - i) + (q.length - k) ∧ i ≤ p.length ∧ k ≤ q.length ∧ out.length ≤ i + k ∧ out ++ padd (p.drop i) (q.drop k) = padd p q ∧
    J 5 = .ms 900 out.length ∧ J 6 = .int .i64 (i : Nat) ∧ J 7 = .int .i64 (k : Nat) ∧ hp 900 = some ⟨4, 61, out.map PV.term, false⟩) (p.length + q.length) ?_ ?_
  · refine ⟨0, 0, [], by omega, by omega, by omega, by simp, rfl, ?_⟩
    simp +decide (disch := first | omega | rfl | (simp +decide only [go_sem, ↓reduceIte] <;> rfl) | fail) only [go_sem, ↓reduceIte, rem64K, quo64K, remI64K, quoI64K, mulK64, mk_empty, sl_3n, app_nil_map, mk_i64, max_nat]
    simp
  rintro _ J h ⟨i, k, out, rfl, hi, hk, hol, hpad, h5, h6, h7, hh⟩
  simp +decide (disch := first | omega | rfl | (simp +decide only [go_sem, ↓reduceIte, h5, h6, h7] <;> rfl) | fail) only [go_sem, ↓reduceIte, rem64K, quo64K, remI64K, quoI64K, mulK64, mk_empty, sl_3n, app_nil_map, mk_i64, max_nat, h5, h6, h7]
  refine guard_splitF (fun hg => ?_) (fun hg => ?_)
  · have hi' : i < p.length := by omega
    simp +decide (disch := first | omega | rfl | (simp +decide only [go_sem, ↓reduceIte, h5, h6, h7] <;> rfl) | fail) only [go_sem, ↓reduceIte, rem64K, quo64K, remI64K, quoI64K, mulK64, mk_empty, sl_3n, app_nil_map, mk_i64, max_nat, h5, h6, h7]
    refine cond_split (fun h => by omega) (fun _ => ?_)
    simp +decide (disch := first | omega | rfl | (simp +decide only [go_sem, ↓reduceIte, h5, h6, h7] <;> rfl) | fail) only [go_sem, ↓reduceIte, rem64K, quo64K, remI64K, quoI64K, mulK64, mk_empty, sl_3n, app_nil_map, mk_i64, max_nat, h5, h6, h7]
    refine cond_split (fun hg2 => ?_) (fun hg2 => ?_)
    · have hk' : k < q.length := by omega
      have htp := hp.get hi'
      have htq := hq.get hk'
      rw [padd_drop hi' hk'] at hpad
      have c1 := htp.c
      have c2 := htq.c
      generalize hx : p[i] = x at *
      generalize hy : q[k] = y at *
      simp +decide (disch := first | omega | rfl | (simp +decide only [go_sem, ↓reduceIte, h5, h6, h7, hx, hy] <;> rfl) | fail) only [go_sem, ↓reduceIte, rem64K, quo64K, remI64K, quoI64K, mulK64, mk_empty, sl_3n, app_nil_map, mk_i64, max_nat, h5, h6, h7, hx, hy]
      refine call_eq0 hP (r5_lex htp.m htq.m (by omega)) rfl rfl rfl ?_
      simp +decide (disch := first | omega | rfl | (simp +decide only [go_sem, ↓reduceIte, h5, h6, h7, hx, hy] <;> rfl) | fail) only [go_sem, ↓reduceIte, rem64K, quo64K, remI64K, quoI64K, mulK64, mk_empty, sl_3n, app_nil_map, mk_i64, max_nat, h5, h6, h7, hx, hy]
      refine cond_split (fun hc => ?_) (fun hc => ?_)
      · rw [if_pos hc] at hpad
        simp +decide (disch := first | omega | rfl | (simp +decide only [go_sem, ↓reduceIte, h5, h6, h7, hx] <;> rfl) | fail) only [go_sem, ↓reduceIte, rem64K, quo64K, remI64K, quoI64K, mulK64, mk_empty, sl_3n, app_nil_map, mk_i64, max_nat, h5, h6, h7, hx]
        rw [app_push_map (f := PV.term) (y := x) (xs := out) (ty' := 61) (fz := false) (by simp +decide (disch := first | omega | rfl | (simp +decide only [go_sem, ↓reduceIte, hh] <;> rfl) | fail) only [go_sem, ↓reduceIte, rem64K, quo64K, remI64K, quoI64K, mulK64, mk_empty, sl_3n, app_nil_map, mk_i64, max_nat, hh]) (by simp +decide (disch := first | omega | rfl | (simp +decide only [go_sem, ↓reduceIte] <;> rfl) | fail) only [go_sem, ↓reduceIte, rem64K, quo64K, remI64K, quoI64K, mulK64, mk_empty, sl_3n, app_nil_map, mk_i64, max_nat] <;> rfl) (by omega) rfl (by omega) (by omega)]
        simp +decide (disch := first | omega | rfl | (simp +decide only [go_sem, ↓reduceIte, h5, h6, h7, hx] <;> rfl) | fail) only [go_sem, ↓reduceIte, rem64K, quo64K, remI64K, quoI64K, mulK64, mk_empty, sl_3n, app_nil_map, mk_i64, max_nat, h5, h6, h7, hx]
        refine back_ovr ((p.length - (i + 1)) + (q.length - k)) (by omega) ⟨i + 1, k, out ++ [x], rfl, by omega, hk, by simp; omega, by simpa using hpad, ?_⟩
        simp +decide (disch := first | omega | rfl | (simp +decide only [go_sem, ↓reduceIte, h5, h6, h7] <;> rfl) | fail) only [go_sem, ↓reduceIte, rem64K, quo64K, remI64K, quoI64K, mulK64, mk_empty, sl_3n, app_nil_map, mk_i64, max_nat, h5, h6, h7]
        simp
      rw [if_neg hc] at hpad
      simp +decide (disch := first | omega | rfl | (simp +decide only [go_sem, ↓reduceIte, h5, h6, h7, hx, hy] <;> rfl) | fail) only [go_sem, ↓reduceIte, rem64K, quo64K, remI64K, quoI64K, mulK64, mk_empty, sl_3n, app_nil_map, mk_i64, max_nat, h5, h6, h7, hx, hy]
      refine cond_split (fun hc2 => ?_) (fun hc2 => ?_)
      · rw [if_pos hc2] at hpad
        simp +decide (disch := first | omega | rfl | (simp +decide only [go_sem, ↓reduceIte, h5, h6, h7, hy] <;> rfl) | fail) only [go_sem, ↓reduceIte, rem64K, quo64K, remI64K, quoI64K, mulK64, mk_empty, sl_3n, app_nil_map, mk_i64, max_nat, h5, h6, h7, hy]
        rw [app_push_map (f := PV.term) (y := y) (xs := out) (ty' := 61) (fz := false) (by simp +decide (disch := first | omega | rfl | (simp +decide only [go_sem, ↓reduceIte, hh] <;> rfl) | fail) only [go_sem, ↓reduceIte, rem64K, quo64K, remI64K, quoI64K, mulK64, mk_empty, sl_3n, app_nil_map, mk_i64, max_nat, hh]) (by simp +decide (disch := first | omega | rfl | (simp +decide only [go_sem, ↓reduceIte] <;> rfl) | fail) only [go_sem, ↓reduceIte, rem64K, quo64K, remI64K, quoI64K, mulK64, mk_empty, sl_3n, app_nil_map, mk_i64, max_nat] <;> rfl) (by omega) rfl (by omega) (by omega)]
        simp +decide (disch := first | omega | rfl | (simp +decide only [go_sem, ↓reduceIte, h5, h6, h7, hy] <;> rfl) | fail) only [go_sem, ↓reduceIte, rem64K, quo64K, remI64K, quoI64K, mulK64, mk_empty, sl_3n, app_nil_map, mk_i64, max_nat, h5, h6, h7, hy]
        refine back_ovr ((p.length - i) + (q.length - (k + 1))) (by omega) ⟨i, k + 1, out ++ [y], rfl, by omega, by omega, by simp; omega, by simpa using hpad, ?_⟩
        simp +decide (disch := first | omega | rfl | (simp +decide only [go_sem, ↓reduceIte, h5, h6, h7] <;> rfl) | fail) only [go_sem, ↓reduceIte, rem64K, quo64K, remI64K, quoI64K, mulK64, mk_empty, sl_3n, app_nil_map, mk_i64, max_nat, h5, h6, h7]
        simp
      rw [if_neg hc2] at hpad
      have hra := rs_add x.1 y.1
      simp +decide (disch := first | omega | rfl | (simp +decide only [go_sem, ↓reduceIte, h5, h6, h7, hx, hy] <;> rfl) | fail) only [go_sem, ↓reduceIte, rem64K, quo64K, remI64K, quoI64K, mulK64, mk_empty, sl_3n, app_nil_map, mk_i64, max_nat, h5, h6, h7, hx, hy]
      refine br_intro ?_ ?_
      all_goals
        simp +decide (disch := first | omega | rfl | (simp +decide only [go_sem, ↓reduceIte, h5, h6, h7, hx, hy] <;> rfl) | fail) only [go_sem, ↓reduceIte, rem64K, quo64K, remI64K, quoI64K, mulK64, mk_empty, sl_3n, app_nil_map, mk_i64, max_nat, h5, h6, h7, hx, hy]
        refine call_eq0 hP (r3_Add_q (a := x.1) (b := y.1) (k := 2 ^ 32) (by omega) (by omega) (by omega)) rfl rfl rfl ?_
        simp +decide (disch := first | omega | rfl | (simp +decide only [go_sem, ↓reduceIte, h5, h6, h7, hx, hy] <;> rfl) | fail) only [go_sem, ↓reduceIte, rem64K, quo64K, remI64K, quoI64K, mulK64, mk_empty, sl_3n, app_nil_map, mk_i64, max_nat, h5, h6, h7, hx, hy]
        refine call_eq0 hP (r3_Sign_q (a := x.1 + y.1) (by omega)) rfl rfl rfl ?_
        simp +decide (disch := first | omega | rfl | (simp +decide only [go_sem, ↓reduceIte, h5, h6, h7, hx, hy] <;> rfl) | fail) only [go_sem, ↓reduceIte, rem64K, quo64K, remI64K, quoI64K, mulK64, mk_empty, sl_3n, app_nil_map, mk_i64, max_nat, h5, h6, h7, hx, hy]
        refine cond_split (fun hz => ?_) (fun hz => ?_)
        · rw [if_neg (fun h => hz (sgnQ_zero.2 h))] at hpad
          simp +decide (disch := first | omega | rfl | (simp +decide only [go_sem, ↓reduceIte, h5, h6, h7, hx, hy] <;> rfl) | fail) only [go_sem, ↓reduceIte, rem64K, quo64K, remI64K, quoI64K, mulK64, mk_empty, sl_3n, app_nil_map, mk_i64, max_nat, h5, h6, h7, hx, hy]
          rw [app_push_map (f := PV.term) (y := (x.1 + y.1, x.2)) (xs := out) (ty' := 61) (fz := false) (by simp +decide (disch := first | omega | rfl | (simp +decide only [go_sem, ↓reduceIte, hh] <;> rfl) | fail) only [go_sem, ↓reduceIte, rem64K, quo64K, remI64K, quoI64K, mulK64, mk_empty, sl_3n, app_nil_map, mk_i64, max_nat, hh]) (by simp +decide (disch := first | omega | rfl | (simp +decide only [go_sem, ↓reduceIte] <;> rfl) | fail) only [go_sem, ↓reduceIte, rem64K, quo64K, remI64K, quoI64K, mulK64, mk_empty, sl_3n, app_nil_map, mk_i64, max_nat] <;> rfl) (by omega) rfl (by omega) (by omega)]
          simp +decide (disch := first | omega | rfl | (simp +decide only [go_sem, ↓reduceIte, h5, h6, h7, hx, hy] <;> rfl) | fail) only [go_sem, ↓reduceIte, rem64K, quo64K, remI64K, quoI64K, mulK64, mk_empty, sl_3n, app_nil_map, mk_i64, max_nat, h5, h6, h7, hx, hy]
          refine back_ovr ((p.length - (i + 1)) + (q.length - (k + 1))) (by omega) ⟨i + 1, k + 1, out ++ [(x.1 + y.1, x.2)], rfl, by omega, by omega, by simp; omega, by simpa using hpad, ?_⟩
          simp +decide (disch := first | omega | rfl | (simp +decide only [go_sem, ↓reduceIte, h5, h6, h7] <;> rfl) | fail) only [go_sem, ↓reduceIte, rem64K, quo64K, remI64K, quoI64K, mulK64, mk_empty, sl_3n, app_nil_map, mk_i64, max_nat, h5, h6, h7]
          simp
        · rw [if_pos (sgnQ_zero.1 (Decidable.not_not.1 hz))] at hpad
          simp +decide (disch := first | omega | rfl | (simp +decide only [go_sem, ↓reduceIte, h5, h6, h7, hx, hy] <;> rfl) | fail) only [go_sem, ↓reduceIte, rem64K, quo64K, remI64K, quoI64K, mulK64, mk_empty, sl_3n, app_nil_map, mk_i64, max_nat, h5, h6, h7, hx, hy]
          refine back_ovr ((p.length - (i + 1)) + (q.length - (k + 1))) (by omega) ⟨i + 1, k + 1, out, rfl, by omega, by omega, by omega, hpad, ?_⟩
          simp +decide (disch := first | omega | rfl | (simp +decide only [go_sem, ↓reduceIte, h5, h6, h7, hh] <;> rfl) | fail) only [go_sem, ↓reduceIte, rem64K, quo64K, remI64K, quoI64K, mulK64, mk_empty, sl_3n, app_nil_map, mk_i64, max_nat, h5, h6, h7, hh]
    · rw [List.drop_of_length_le (show q.length ≤ k by omega), padd_nil, List.drop_eq_getElem_cons hi'] at hpad
      have hpad : out ++ p[i] :: padd (p.drop (i + 1)) (q.drop k) = padd p q := by rw [List.drop_of_length_le (show q.length ≤ k by omega), padd_nil]; exact hpad
      generalize hx : p[i] = x at *
      simp +decide (disch := first | omega | rfl | (simp +decide only [go_sem, ↓reduceIte, h5, h6, h7, hx] <;> rfl) | fail) only [go_sem, ↓reduceIte, rem64K, quo64K, remI64K, quoI64K, mulK64, mk_empty, sl_3n, app_nil_map, mk_i64, max_nat, h5, h6, h7, hx]
      rw [app_push_map (f := PV.term) (y := x) (xs := out) (ty' := 61) (fz := false) (by simp +decide (disch := first | omega | rfl | (simp +decide only [go_sem, ↓reduceIte, hh] <;> rfl) | fail) only [go_sem, ↓reduceIte, rem64K, quo64K, remI64K, quoI64K, mulK64, mk_empty, sl_3n, app_nil_map, mk_i64, max_nat, hh]) (by simp +decide (disch := first | omega | rfl | (simp +decide only [go_sem, ↓reduceIte] <;> rfl) | fail) only [go_sem, ↓reduceIte, rem64K, quo64K, remI64K, quoI64K, mulK64, mk_empty, sl_3n, app_nil_map, mk_i64, max_nat] <;> rfl) (by omega) rfl (by omega) (by omega)]
      simp +decide (disch := first | omega | rfl | (simp +decide only [go_sem, ↓reduceIte, h5, h6, h7, hx] <;> rfl) | fail) only [go_sem, ↓reduceIte, rem64K, quo64K, remI64K, quoI64K, mulK64, mk_empty, sl_3n, app_nil_map, mk_i64, max_nat, h5, h6, h7, hx]
      refine back_ovr ((p.length - (i + 1)) + (q.length - k)) (by omega) ⟨i + 1, k, out ++ [x], rfl, by omega, hk, by simp; omega, by simpa using hpad, ?_⟩
      simp +decide (disch := first | omega | rfl | (simp +decide only [go_sem, ↓reduceIte, h5, h6, h7] <;> rfl) | fail) only [go_sem, ↓reduceIte, rem64K, quo64K, remI64K, quoI64K, mulK64, mk_empty, sl_3n, app_nil_map, mk_i64, max_nat, h5, h6, h7]
      simp
  · have hi' : i = p.length := by omega
    simp +decide (disch := first | omega | rfl | (simp +decide only [go_sem, ↓reduceIte, h5, h6, h7] <;> rfl) | fail) only [go_sem, ↓reduceIte, rem64K, quo64K, remI64K, quoI64K, mulK64, mk_empty, sl_3n, app_nil_map, mk_i64, max_nat, h5, h6, h7]
    refine cond_split (fun hg2 => ?_) (fun hg2 => ?_)
    · have hk' : k < q.length := by omega
      rw [List.drop_of_length_le (show p.length ≤ i by omega), nil_padd, List.drop_eq_getElem_cons hk'] at hpad
      have hpad : out ++ q[k] :: padd (p.drop i) (q.drop (k + 1)) = padd p q := by rw [List.drop_of_length_le (show p.length ≤ i by omega), nil_padd]; exact hpad
      generalize hy : q[k] = y at *
      simp +decide (disch := first | omega | rfl | (simp +decide only [go_sem, ↓reduceIte, h5, h6, h7, hy] <;> rfl) | fail) only [go_sem, ↓reduceIte, rem64K, quo64K, remI64K, quoI64K, mulK64, mk_empty, sl_3n, app_nil_map, mk_i64, max_nat, h5, h6, h7, hy]
      refine cond_split (fun _ => ?_) (fun h => by omega)
      simp +decide (disch := first | omega | rfl | (simp +decide only [go_sem, ↓reduceIte, h5, h6, h7, hy] <;> rfl) | fail) only [go_sem, ↓reduceIte, rem64K, quo64K, remI64K, quoI64K, mulK64, mk_empty, sl_3n, app_nil_map, mk_i64, max_nat, h5, h6, h7, hy]
      rw [app_push_map (f := PV.term) (y := y) (xs := out) (ty' := 61) (fz := false) (by simp +decide (disch := first | omega | rfl | (simp +decide only [go_sem, ↓reduceIte, hh] <;> rfl) | fail) only [go_sem, ↓reduceIte, rem64K, quo64K, remI64K, quoI64K, mulK64, mk_empty, sl_3n, app_nil_map, mk_i64, max_nat, hh]) (by simp +decide (disch := first | omega | rfl | (simp +decide only [go_sem, ↓reduceIte] <;> rfl) | fail) only [go_sem, ↓reduceIte, rem64K, quo64K, remI64K, quoI64K, mulK64, mk_empty, sl_3n, app_nil_map, mk_i64, max_nat] <;> rfl) (by omega) rfl (by omega) (by omega)]
      simp +decide (disch := first | omega | rfl | (simp +decide only [go_sem, ↓reduceIte, h5, h6, h7, hy] <;> rfl) | fail) only [go_sem, ↓reduceIte, rem64K, quo64K, remI64K, quoI64K, mulK64, mk_empty, sl_3n, app_nil_map, mk_i64, max_nat, h5, h6, h7, hy]
      refine back_ovr ((p.length - i) + (q.length - (k + 1))) (by omega) ⟨i, k + 1, out ++ [y], rfl, by omega, by omega, by simp; omega, by simpa using hpad, ?_⟩
      simp +decide (disch := first | omega | rfl | (simp +decide only [go_sem, ↓reduceIte, h5, h6, h7] <;> rfl) | fail) only [go_sem, ↓reduceIte, rem64K, quo64K, remI64K, quoI64K, mulK64, mk_empty, sl_3n, app_nil_map, mk_i64, max_nat, h5, h6, h7]
      simp
    · rw [List.drop_of_length_le (show p.length ≤ i by omega), nil_padd, List.drop_of_length_le (show q.length ≤ k by omega), List.append_nil] at hpad
      simp +decide (disch := first | omega | rfl | (simp +decide only [go_sem, ↓reduceIte, h5, h6, h7, hh, looks3, List.contains_cons, List.contains_nil, List.flatMap_cons, List.flatMap_nil, List.append_nil] <;> rfl) | fail) only [go_sem, ↓reduceIte, rem64K, quo64K, remI64K, quoI64K, mulK64, mk_empty, sl_3n, app_nil_map, mk_i64, max_nat, h5, h6, h7, hh, looks3, List.contains_cons, List.contains_nil, List.flatMap_cons, List.flatMap_nil, List.append_nil]
      exact retV_eq (by rw [List.take_of_length_le (by simp), hpad]) rfl
end Go.Proofs.YtjkbalanglgoiaaGreat
namespace Go.Proofs.YtjkbalanglgoiaaGreat
open Go Go.FW
set_option linter.unusedSimpArgs false
set_option linter.unusedVariables false
set_option maxRecDepth 100000
theorem zipI_mulM {k l : Nat} {a b : List Int} (ha : MB k a) (hb : MB l b) (h1 : a.getLast? ≠ some 0) (h2 : b.getLast? ≠ some 0) : zipI (· + ·) a b = mulM a b := by
  rw [mulM, trimI_of]
  rw [List.getLast?_eq_getElem?, zipI_length]
  intro h
  obtain ⟨hl, hv⟩ := List.getElem?_eq_some_iff.1 h
  rw [← eN_lt hl, zipI_eN (by simp)] at hv
  rw [zipI_length] at hl
  have p1 := (ha.eN (max a.length b.length - 1)).1
  have p2 := (hb.eN (max a.length b.length - 1)).1
  by_cases hc : b.length ≤ a.length
  · apply h1
    have e : max a.length b.length - 1 = a.length - 1 := by omega
    rw [e] at hv p1 p2
    rw [List.getLast?_eq_getElem?, List.getElem?_eq_getElem (by omega), ← eN_lt (by omega)]
    congr 1; omega
  · apply h2
    have e : max a.length b.length - 1 = b.length - 1 := by omega
    rw [e] at hv p1 p2
    rw [List.getLast?_eq_getElem?, List.getElem?_eq_getElem (by omega), ← eN_lt (by omega)]
    congr 1; omega
theorem r6_times_spec {p : List Tm} {t : Tm} {K E : Nat} (hp : PB K E p) (ht : TB K E t) (hnz : NZ p) (ht0 : t.1 ≠ 0) (hK : K ≤ 2 ^ 33) (hE : E ≤ 2 ^ 38) (hlp : p.length ≤ 2 ^ 36) :
    FnSpec Tryz.prog 117 [PV.poly p, PV.term t] (· = PV.poly (ptimes p t)) := by
  refine fn_of_vc mixed Tryz.func117 rfl c117_ok (by simp [c117]) fun C hP => ?_; simp only [c117]
  simp +decide (disch := first | omega | rfl | (simp +decide only [go_sem, ↓reduceIte] <;> rfl) | fail) only [go_sem, ↓reduceIte, rem64K, quo64K, remI64K, quoI64K, mulK64, mk_empty, sl_3n, app_nil_map, mk_i64, max_nat]
  refine vc_nilF 5 900 4 61 (by omega) (by simp +decide (disch := first | omega | rfl | (simp +decide only [go_sem, ↓reduceIte] <;> rfl) | fail) only [go_sem, ↓reduceIte, rem64K, quo64K, remI64K, quoI64K, mulK64, mk_empty, sl_3n, app_nil_map, mk_i64, max_nat]) ?_
  refine vc_loopF (by repeat (first | exact okSk_ret | exact okSk_retM | exact okSk_retO | apply okSk_back | apply okSk_out | apply okSk_eb | apply okSk_c | apply okSk_o | apply okSk_again | apply okSk_backW)) [(5, 32)] [31, 32, 900] (fun n J hp => ∃ i, n = p.length - i ∧ i ≤ p.length ∧ J 5 = .ms 900 (ptimes (p.take i) t).length ∧ J 6 = .int .i64 (i : Nat) ∧ hp 3 = some ⟨4, 61, [PV.term t], false⟩ ∧ hp 900 = some ⟨4, 61, (ptimes (p.take i) t).map PV.term, false⟩) p.length ?_ ?_
  · refine ⟨0, rfl, by omega, ?_⟩
    simp +decide (disch := first | omega | rfl | (simp +decide only [go_sem, ↓reduceIte] <;> rfl) | fail) only [go_sem, ↓reduceIte, rem64K, quo64K, remI64K, quoI64K, mulK64, mk_empty, sl_3n, app_nil_map, mk_i64, max_nat]
    simp [ptimes]
  rintro _ J h ⟨i, rfl, hi, h5, h6, hh3, hh⟩
  simp +decide (disch := first | omega | rfl | (simp +decide only [go_sem, ↓reduceIte, h5, h6] <;> rfl) | fail) only [go_sem, ↓reduceIte, rem64K, quo64K, remI64K, quoI64K, mulK64, mk_empty, sl_3n, app_nil_map, mk_i64, max_nat, h5, h6]
  refine cond_split (fun hg => ?_) (fun hg => ?_)
  · have hi' : i < p.length := by omega
    have htp := hp.get hi'
    have htk := ptimes_take (t := t) hi'
    have hlen := ptimes_length (p.take i) t
    rw [List.length_take] at hlen
    have c1 := htp.c
    have c2 := ht.c
    have hn0 := hnz _ (List.getElem_mem hi')
    generalize hx : p[i] = x at *
    have hzz := zipI_mulM htp.m ht.m htp.l ht.l
    rw [if_neg (fun h => by rcases Rat.mul_eq_zero.1 h with h | h <;> contradiction)] at htk
    simp +decide (disch := first | omega | rfl | (simp +decide only [go_sem, ↓reduceIte, h5, h6, hh3, hx] <;> rfl) | fail) only [go_sem, ↓reduceIte, rem64K, quo64K, remI64K, quoI64K, mulK64, mk_empty, sl_3n, app_nil_map, mk_i64, max_nat, h5, h6, hh3, hx]
    refine call_eq0 hP (r3_Mul_q (a := x.1) (b := t.1) (k := 2 ^ 33) (by omega) (by omega) (by omega)) rfl rfl rfl ?_
    simp +decide (disch := first | omega | rfl | (simp +decide only [go_sem, ↓reduceIte, h5, h6, hh3, hx] <;> rfl) | fail) only [go_sem, ↓reduceIte, rem64K, quo64K, remI64K, quoI64K, mulK64, mk_empty, sl_3n, app_nil_map, mk_i64, max_nat, h5, h6, hh3, hx]
    refine call_eq0 hP (r5_Mul_spec htp.m ht.m (by omega)) rfl rfl rfl ?_
    rw [hzz]
    simp +decide (disch := first | omega | rfl | (simp +decide only [go_sem, ↓reduceIte, h5, h6, hh3, hx] <;> rfl) | fail) only [go_sem, ↓reduceIte, rem64K, quo64K, remI64K, quoI64K, mulK64, mk_empty, sl_3n, app_nil_map, mk_i64, max_nat, h5, h6, hh3, hx]
    rw [app_push_map (f := PV.term) (y := (x.1 * t.1, mulM x.2 t.2)) (xs := ptimes (p.take i) t) (ty' := 61) (fz := false) (by simp +decide (disch := first | omega | rfl | (simp +decide only [go_sem, ↓reduceIte, hh] <;> rfl) | fail) only [go_sem, ↓reduceIte, rem64K, quo64K, remI64K, quoI64K, mulK64, mk_empty, sl_3n, app_nil_map, mk_i64, max_nat, hh]) (by simp +decide (disch := first | omega | rfl | (simp +decide only [go_sem, ↓reduceIte] <;> rfl) | fail) only [go_sem, ↓reduceIte, rem64K, quo64K, remI64K, quoI64K, mulK64, mk_empty, sl_3n, app_nil_map, mk_i64, max_nat] <;> rfl) (by omega) rfl (by omega) (by omega)]
    rw [← htk]
    simp +decide (disch := first | omega | rfl | (simp +decide only [go_sem, ↓reduceIte, h5, h6, hh3, hx] <;> rfl) | fail) only [go_sem, ↓reduceIte, rem64K, quo64K, remI64K, quoI64K, mulK64, mk_empty, sl_3n, app_nil_map, mk_i64, max_nat, h5, h6, hh3, hx]
    refine back_ovr (p.length - (i + 1)) (by omega) ⟨i + 1, rfl, by omega, ?_⟩
    rw [htk]
    simp +decide (disch := first | omega | rfl | (simp +decide only [go_sem, ↓reduceIte, h5, h6, hh3, List.length_append] <;> rfl) | fail) only [go_sem, ↓reduceIte, rem64K, quo64K, remI64K, quoI64K, mulK64, mk_empty, sl_3n, app_nil_map, mk_i64, max_nat, h5, h6, hh3, List.length_append]
  · obtain rfl : i = p.length := by omega
    rw [List.take_length] at h5 hh
    simp +decide (disch := first | omega | rfl | (simp +decide only [go_sem, ↓reduceIte, h5, hh, looks3, List.contains_cons, List.contains_nil, List.flatMap_cons, List.flatMap_nil, List.append_nil] <;> rfl) | fail) only [go_sem, ↓reduceIte, rem64K, quo64K, remI64K, quoI64K, mulK64, mk_empty, sl_3n, app_nil_map, mk_i64, max_nat, h5, hh, looks3, List.contains_cons, List.contains_nil, List.flatMap_cons, List.flatMap_nil, List.append_nil]
    exact retV_eq (by simp [List.take_of_length_le]) rfl
theorem pmulR_take {p q : List Tm} {i : Nat} (h : i < q.length) : pmulR p (q.take (i + 1)) = padd (pmulR p (q.take i)) (ptimes p q[i]) := by
  rw [List.take_succ_eq_append_getElem h, pmulR, List.foldl_append, pmulR]; rfl
theorem pmulR_bound {K E : Nat} {p : List Tm} (hp : PB K E p) : ∀ (q out : List Tm) (L : Nat), PB K E q → PB L (E + E) out → PB (q.length * (K + K) + L) (E + E) (q.foldl (fun out t => padd out (ptimes p t)) out) ∧ (q.foldl (fun out t => padd out (ptimes p t)) out).length ≤ q.length * p.length + out.length
  | [], out, L, _, ho => ⟨by simpa using ho, by simp⟩
  | t :: q, out, L, hq, ho => by
    obtain ⟨h1, h2⟩ := pmulR_bound hp q (padd out (ptimes p t)) (L + (K + K)) (PB.cons.1 hq).2 (padd_PB _ _ ho (ptimes_PB hp (PB.cons.1 hq).1))
    have h3 := padd_length out (ptimes p t)
    have h4 := ptimes_length p t
    refine ⟨h1.mono (by rw [List.length_cons, Nat.add_mul]; omega) (Nat.le_refl _), Nat.le_trans h2 ?_⟩
    rw [List.length_cons, Nat.add_mul]; omega
theorem pmulR_PB {K E : Nat} {p q : List Tm} (hp : PB K E p) (hq : PB K E q) : PB (q.length * (K + K)) (E + E) (pmulR p q) ∧ (pmulR p q).length ≤ q.length * p.length := by
  have := pmulR_bound hp q [] 0 hq (PB.nil _ _)
  simpa [pmulR] using this
theorem r6_Mul_spec {p q : List Tm} {K E : Nat} (hp : PB K E p) (hq : PB K E q) (hnp : NZ p) (hnq : NZ q) (hE : E ≤ 2 ^ 37) (hlp : p.length ≤ 2 ^ 30) (hlq : q.length ≤ 2 ^ 30) (hlm : q.length * p.length ≤ 2 ^ 36) (hK : q.length * (K + K) + (K + K) ≤ 2 ^ 32) :
    FnSpec Tryz.prog 52 [PV.poly p, PV.poly q] (· = PV.poly (pmulR p q)) := by
  refine fn_of_vc mixed Tryz.func52 rfl c52_ok (by simp [c52]) fun C hP => ?_; simp only [c52]
  simp +decide (disch := first | omega | rfl | (simp +decide only [go_sem, ↓reduceIte] <;> rfl) | fail) only [go_sem, ↓reduceIte, rem64K, quo64K, remI64K, quoI64K, mulK64, mk_empty, sl_3n, app_nil_map, mk_i64, max_nat]
  refine vc_nilD 5 4 (by simp +decide (disch := first | omega | rfl | (simp +decide only [go_sem, ↓reduceIte] <;> rfl) | fail) only [go_sem, ↓reduceIte, rem64K, quo64K, remI64K, quoI64K, mulK64, mk_empty, sl_3n, app_nil_map, mk_i64, max_nat]) ?_
  refine vc_loopF (by repeat (first | exact okSk_ret | exact okSk_retM | exact okSk_retO | apply okSk_back | apply okSk_out | apply okSk_eb | apply okSk_c | apply okSk_o | apply okSk_again | apply okSk_backW)) [(5, 20)] [] (fun n J hp => ∃ i, n = q.length - i ∧ i ≤ q.length ∧ J 5 = PV.poly (pmulR p (q.take i)) ∧ J 6 = .int .i64 (i : Nat)) q.length ?_ ?_
  · refine ⟨0, rfl, by omega, ?_⟩
    simp +decide (disch := first | omega | rfl | (simp +decide only [go_sem, ↓reduceIte] <;> rfl) | fail) only [go_sem, ↓reduceIte, rem64K, quo64K, remI64K, quoI64K, mulK64, mk_empty, sl_3n, app_nil_map, mk_i64, max_nat]
    simp [pmulR]
  rintro _ J h ⟨i, rfl, hi, h5, h6⟩
  simp +decide (disch := first | omega | rfl | (simp +decide only [go_sem, ↓reduceIte, h5, h6] <;> rfl) | fail) only [go_sem, ↓reduceIte, rem64K, quo64K, remI64K, quoI64K, mulK64, mk_empty, sl_3n, app_nil_map, mk_i64, max_nat, h5, h6]
  refine cond_split (fun hg => ?_) (fun hg => ?_)
  · have hi' : i < q.length := by omega
    have htq := hq.get hi'
    have htk := pmulR_take (p := p) hi'
    have hn0 := hnq _ (List.getElem_mem hi')
    obtain ⟨hb1, hb2⟩ := pmulR_PB hp (hq.take i)
    have hbt := ptimes_PB hp htq
    have hlt := ptimes_length p q[i]
    generalize hx : q[i] = x at *
    have e1 : (q.take i).length = i := by rw [List.length_take]; omega
    rw [e1] at hb1 hb2
    have e2 : i * (K + K) ≤ q.length * (K + K) := Nat.mul_le_mul_right _ hi
    have e3 : i * p.length ≤ q.length * p.length := Nat.mul_le_mul_right _ hi
    simp +decide (disch := first | omega | rfl | (simp +decide only [go_sem, ↓reduceIte, h5, h6, hx] <;> rfl) | fail) only [go_sem, ↓reduceIte, rem64K, quo64K, remI64K, quoI64K, mulK64, mk_empty, sl_3n, app_nil_map, mk_i64, max_nat, h5, h6, hx]
    refine call_eq0 hP (r6_times_spec (t := x) hp htq hnp hn0 (by omega) (by omega) (by omega)) rfl rfl rfl ?_
    simp +decide (disch := first | omega | rfl | (simp +decide only [go_sem, ↓reduceIte, h5, h6, hx] <;> rfl) | fail) only [go_sem, ↓reduceIte, rem64K, quo64K, remI64K, quoI64K, mulK64, mk_empty, sl_3n, app_nil_map, mk_i64, max_nat, h5, h6, hx]
    refine call_eq0 hP (r6_Add_spec (K := q.length * (K + K) + (K + K)) (E := E + E) (hb1.mono (by omega) (by omega)) (hbt.mono (by omega) (by omega)) hK (by omega) (by omega) (by omega)) rfl rfl rfl ?_
    simp +decide (disch := first | omega | rfl | (simp +decide only [go_sem, ↓reduceIte, h5, h6, hx] <;> rfl) | fail) only [go_sem, ↓reduceIte, rem64K, quo64K, remI64K, quoI64K, mulK64, mk_empty, sl_3n, app_nil_map, mk_i64, max_nat, h5, h6, hx]
    refine back_ovr (q.length - (i + 1)) (by omega) ⟨i + 1, rfl, by omega, ?_⟩
    rw [htk]
    simp +decide (disch := first | omega | rfl | (simp +decide only [go_sem, ↓reduceIte] <;> rfl) | fail) only [go_sem, ↓reduceIte, rem64K, quo64K, remI64K, quoI64K, mulK64, mk_empty, sl_3n, app_nil_map, mk_i64, max_nat]
  · obtain rfl : i = q.length := by omega
    rw [List.take_length] at h5
    simp +decide (disch := first | omega | rfl | (simp +decide only [go_sem, ↓reduceIte, h5] <;> rfl) | fail) only [go_sem, ↓reduceIte, rem64K, quo64K, remI64K, quoI64K, mulK64, mk_empty, sl_3n, app_nil_map, mk_i64, max_nat, h5]
    exact retV_eq rfl rfl
end Go.Proofs.YtjkbalanglgoiaaGreat
namespace Go.Proofs.YtjkbalanglgoiaaGreat
open Go Go.FW
set_option linter.unusedSimpArgs false
set_option linter.unusedVariables false
set_option maxRecDepth 100000
theorem RB.raw {k : Nat} {t : RTm} (h : RB k t) (hk : 1 ≤ k) : Raw k t.n t.a t.d := ⟨h.r.1, h.r.2.1, h.r.2.2.1, h.r.2.2.2, hk⟩
end Go.Proofs.YtjkbalanglgoiaaGreat
