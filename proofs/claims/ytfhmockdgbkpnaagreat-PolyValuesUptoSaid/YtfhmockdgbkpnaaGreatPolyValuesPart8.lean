/- Part 8 of the proof of PolyValues: Z1, P8, FwSI. Own lemmas; no conditions. -/
import Derived.Test.YtfhmockdgbkpnaaGreatPolyValuesPart7
set_option linter.unusedSimpArgs false
set_option linter.unnecessarySimpa false
set_option linter.unusedVariables false
namespace Go.Proofs.YtfhmockdgbkpnaaGreat
open Go Go.FW
set_option linter.unusedSimpArgs false
set_option linter.unusedVariables false
set_option maxRecDepth 100000
theorem isNaN_spec (x : Int) : FnSpec Tryz.prog 191 [.int .i64 x] (· = .bool false) := by
  refine fn_of_vc mixed Tryz.func191 rfl c191_ok (by simp [c191]) fun C hP => ?_; simp only [c191]
  simp +decide (disch := first | omega | rfl | (simp +decide only [go_sem, ↓reduceIte, not_true_eq_false] <;> rfl) | fail) only [go_sem, ↓reduceIte, mk_empty, sl_3n, app_nil_map, mk_i64, max_nat, not_true_eq_false]
  exact retV_eq rfl rfl
theorem Less_spec (x y : Int) : FnSpec Tryz.prog 177 [.int .i64 x, .int .i64 y] (· = .bool (decide (x < y))) := by
  refine fn_of_vc mixed Tryz.func177 rfl c177_ok (by simp [c177]) fun C hP => ?_; simp only [c177]
  simp +decide (disch := first | omega | rfl | (simp +decide only [go_sem, ↓reduceIte] <;> rfl) | fail) only [go_sem, ↓reduceIte, mk_empty, sl_3n, app_nil_map, mk_i64, max_nat]
  refine call_eq0 hP (isNaN_spec x) rfl rfl rfl ?_
  simp +decide (disch := first | omega | rfl | (simp +decide only [go_sem, ↓reduceIte] <;> rfl) | fail) only [go_sem, ↓reduceIte, mk_empty, sl_3n, app_nil_map, mk_i64, max_nat]
  exact retV_eq rfl rfl
theorem Len64_spec {x : Nat} (h : x < 256) : FnSpec Tryz.prog 181 [.int .u64 x] (· = .int .i64 (Lib.bitLen x : Nat)) :=
  fn_of_same1 (by simp [good]; exact ⟨rfl, by decide⟩) (fun w => Len64_calls x w (by omega) (by omega)) (fun _ _ => RepC.int _ _)
theorem Len_spec {x : Nat} (h : x < 256) : FnSpec Tryz.prog 162 [.int .u64 x] (· = .int .i64 (Lib.bitLen x : Nat)) := by
  refine fn_of_vc mixed Tryz.func162 rfl c162_ok (by simp [c162]) fun C hP => ?_; simp only [c162]
  simp +decide (disch := first | omega | rfl | (simp +decide only [go_sem, ↓reduceIte] <;> rfl) | fail) only [go_sem, ↓reduceIte, mk_empty, sl_3n, app_nil_map, mk_i64, max_nat]
  refine call_eq0 hP (Len64_spec h) rfl rfl rfl ?_
  simp +decide (disch := first | omega | rfl | (simp +decide only [go_sem, ↓reduceIte] <;> rfl) | fail) only [go_sem, ↓reduceIte, mk_empty, sl_3n, app_nil_map, mk_i64, max_nat]
  exact retV_eq rfl rfl
abbrev SortPost (xs : List Int) (r : PV) (xs' : List PV) : Prop := r = .tup [] ∧ ∃ ys : List Int, xs' = i64s ys ∧ ys.Perm xs ∧ Srt ys
theorem insertionSort_spec {xs : List Int} (h0 : 0 < xs.length) (hl : xs.length ≤ 2 ^ 30) :
    FnSpecM Tryz.prog 171 [.mso B0 0 xs.length, .int .i64 0, .int .i64 xs.length] 3 (i64s xs) (SortPost xs) := by
  refine fn_of_vcM mixed Tryz.func171 rfl c171_ok (by simp [c171]) fun C hP => ?_; simp only [c171]
  simp +decide (disch := first | omega | rfl | (simp +decide only [go_sem, ↓reduceIte] <;> rfl) | fail) only [go_sem, ↓reduceIte, mk_empty, sl_3n, app_nil_map, mk_i64, max_nat]
  refine vc_loopF (by repeat (first | exact okSk_ret | exact okSk_retM | exact okSk_retO | apply okSk_back | apply okSk_out | apply okSk_eb | apply okSk_c | apply okSk_o | apply okSk_again)) [(6, 7), (10, 48)] [] (fun m J hp => ∃ i S Cc, m = xs.length - i ∧ i ≤ xs.length ∧ 1 ≤ i ∧ S.length = i ∧ (S ++ Cc).Perm xs ∧ Srt S ∧ J 6 = .int .i64 (i : Nat) ∧ hp 1000000 = some ⟨1, 3, i64s (S ++ Cc), false⟩) (xs.length - 1) ?_ ?_
  · obtain _ | ⟨x, xs⟩ := xs
    · simp at h0
    refine ⟨1, [x], xs, rfl, by simp, by omega, rfl, List.Perm.refl _, by simp, ?_⟩
    simp +decide (disch := first | omega | rfl | (simp +decide only [go_sem, ↓reduceIte] <;> rfl) | fail) only [go_sem, ↓reduceIte, mk_empty, sl_3n, app_nil_map, mk_i64, max_nat]
    rfl
  rintro _ J h ⟨i, S, Cc, rfl, hi, hi1, hSl, hperm, hS, h6, hh⟩
  have hlen := hperm.length_eq
  rw [List.length_append] at hlen
  simp +decide (disch := first | omega | rfl | (simp +decide only [go_sem, ↓reduceIte, h6] <;> rfl) | fail) only [go_sem, ↓reduceIte, mk_empty, sl_3n, app_nil_map, mk_i64, max_nat, h6]
  refine cond_split (fun hg => ?_) (fun hg => ?_)
  · obtain _ | ⟨x, Cc⟩ := Cc
    · simp at hlen; omega
    simp +decide (disch := first | omega | rfl | (simp +decide only [go_sem, ↓reduceIte, h6] <;> rfl) | fail) only [go_sem, ↓reduceIte, mk_empty, sl_3n, app_nil_map, mk_i64, max_nat, h6]
    refine vc_loopF (by repeat (first | exact okSk_ret | exact okSk_retM | exact okSk_retO | apply okSk_back | apply okSk_out | apply okSk_eb | apply okSk_c | apply okSk_o | apply okSk_again)) [(7, 7), (16, 48)] [] (fun m J hp => ∃ A B, m = A.length ∧ A.length + B.length = i ∧ (A ++ x :: (B ++ Cc)).Perm xs ∧ Srt (A ++ B) ∧ (∀ b ∈ B, x ≤ b) ∧ J 7 = .int .i64 (A.length : Nat) ∧ hp 1000000 = some ⟨1, 3, i64s (A ++ x :: (B ++ Cc)), false⟩) i ?_ ?_
    · refine ⟨S, [], hSl.symm, by simpa using hSl, by simpa using hperm, by simpa using hS, by simp, ?_⟩
      simp +decide (disch := first | omega | rfl | (simp +decide only [go_sem, ↓reduceIte, hh] <;> rfl) | fail) only [go_sem, ↓reduceIte, mk_empty, sl_3n, app_nil_map, mk_i64, max_nat, hh]
      rw [hSl]
    rintro _ J2 h2 ⟨A, B, rfl, hAB, hp2, hs2, hB, h7, hh2⟩
    have hl2 := hp2.length_eq
    simp +decide (disch := first | omega | rfl | (simp +decide only [go_sem, ↓reduceIte, h7] <;> rfl) | fail) only [go_sem, ↓reduceIte, mk_empty, sl_3n, app_nil_map, mk_i64, max_nat, h7]
    refine guard_split (fun hg2 => ?_) (fun hg2 => ?_)
    · obtain ⟨A', a, rfl⟩ : ∃ A' a, A = A' ++ [a] := by
        rcases List.eq_nil_or_concat A with h | ⟨A', a, h⟩
        · subst h; simp at hg2
        · exact ⟨A', a, by simpa using h⟩
      obtain ⟨j, hj⟩ : ∃ j, A'.length = j := ⟨_, rfl⟩
      have hA1 : (A' ++ [a]).length = j + 1 := by simp [hj]
      have hcc : A' ++ [a] ++ x :: (B ++ Cc) = A' ++ a :: x :: (B ++ Cc) := by simp
      rw [hA1] at h7 hAB
      rw [hcc] at hh2 hl2 hp2
      rw [hA1]
      have hL1 : j + 1 < (A' ++ a :: x :: (B ++ Cc)).length := by simp; omega
      have hL0 : j < (A' ++ a :: x :: (B ++ Cc)).length := by omega
      have g1 := get_app1 hj hL1
      have g0 := get_app hj hL0
      have hsw := swap_app (R := B ++ Cc) (a := a) (x := x) hj
      have e : ((j + 1 : Nat) : Int) - 1 = j := by omega
      generalize hLL : A' ++ a :: x :: (B ++ Cc) = L at *
      simp +decide (disch := first | omega | rfl | (simp +decide only [go_sem, ↓reduceIte, h7, hh2, e, g0, g1] <;> rfl) | fail) only [go_sem, ↓reduceIte, mk_empty, sl_3n, app_nil_map, mk_i64, max_nat, h7, hh2, e, g0, g1]
      refine call_eq0 hP (Less_spec x a) rfl rfl rfl ?_
      simp +decide (disch := first | omega | rfl | (simp +decide only [go_sem, ↓reduceIte, h7, hh2, e, g0, g1] <;> rfl) | fail) only [go_sem, ↓reduceIte, mk_empty, sl_3n, app_nil_map, mk_i64, max_nat, h7, hh2, e, g0, g1]
      refine cond_split (fun hc => ?_) (fun hc => ?_)
      · have hset1 : j + 1 < (L.set (j + 1) a).length := by simpa using hL1
        simp +decide (disch := first | omega | rfl | (simp +decide only [go_sem, ↓reduceIte, h7, hh2, e, g0, g1, List.length_set] <;> rfl) | fail) only [go_sem, ↓reduceIte, mk_empty, sl_3n, app_nil_map, mk_i64, max_nat, h7, hh2, e, g0, g1, List.length_set]
        refine back_ovr j (by omega) ⟨A', a :: B, hj.symm, by simp; omega, ?_, by simpa using hs2, ?_, ?_⟩
        · refine List.Perm.trans ?_ hp2
          rw [← hLL]
          exact List.Perm.append_left _ (List.Perm.swap ..)
        · intro b hb
          rcases List.mem_cons.1 hb with rfl | hb
          · omega
          · exact hB b hb
        · rw [hsw]
          simp +decide (disch := first | omega | rfl | (simp +decide only [go_sem, ↓reduceIte, hj] <;> rfl) | fail) only [go_sem, ↓reduceIte, mk_empty, sl_3n, app_nil_map, mk_i64, max_nat, hj]
      · have hsr := srt_insert hs2 (x := x) (fun c hc => by
          simp only [List.getLast?_append, List.getLast?_singleton, Option.some_or, Option.some.injEq] at hc
          omega) hB
        simp +decide (disch := first | omega | rfl | (simp +decide only [go_sem, ↓reduceIte, h7, h6] <;> rfl) | fail) only [go_sem, ↓reduceIte, mk_empty, sl_3n, app_nil_map, mk_i64, max_nat, h7, h6]
        simp (disch := decide) only [killFs_nil, ovr_sub]
        refine back_ovr (xs.length - (i + 1)) (by omega) ⟨i + 1, A' ++ [a] ++ x :: B, Cc, rfl, by omega, by omega, by simp; omega, ?_, hsr, ?_⟩
        · rw [show A' ++ [a] ++ x :: B ++ Cc = L by rw [← hLL]; simp]; exact hp2
        · rw [show A' ++ [a] ++ x :: B ++ Cc = L by rw [← hLL]; simp]
          simp +decide (disch := first | omega | rfl | (simp +decide only [go_sem, ↓reduceIte, hh2] <;> rfl) | fail) only [go_sem, ↓reduceIte, mk_empty, sl_3n, app_nil_map, mk_i64, max_nat, hh2]
    · obtain rfl : A = [] := List.length_eq_zero_iff.1 (by omega)
      have hsr := srt_insert hs2 (x := x) (by simp) hB
      simp +decide (disch := first | omega | rfl | (simp +decide only [go_sem, ↓reduceIte, h7, h6] <;> rfl) | fail) only [go_sem, ↓reduceIte, mk_empty, sl_3n, app_nil_map, mk_i64, max_nat, h7, h6]
      simp (disch := decide) only [killFs_nil, ovr_sub]
      refine back_ovr (xs.length - (i + 1)) (by omega) ⟨i + 1, [] ++ x :: B, Cc, rfl, by omega, by omega, by simp at hAB ⊢; omega, by simpa using hp2, hsr, ?_⟩
      simp +decide (disch := first | omega | rfl | (simp +decide only [go_sem, ↓reduceIte, hh2] <;> rfl) | fail) only [go_sem, ↓reduceIte, mk_empty, sl_3n, app_nil_map, mk_i64, max_nat, hh2]
  · obtain rfl : Cc = [] := List.length_eq_zero_iff.1 (by omega)
    rw [List.append_nil] at hperm hh
    simp +decide (disch := first | omega | rfl | (simp +decide only [go_sem, ↓reduceIte, hh] <;> rfl) | fail) only [go_sem, ↓reduceIte, mk_empty, sl_3n, app_nil_map, mk_i64, max_nat, hh]
    refine retM_0 hh (ints_i64 _) ?_ ⟨rfl, S, rfl, hperm, hS⟩
    simp; omega
theorem pdq_spec {xs : List Int} {lim : Int} (h0 : 0 < xs.length) (hl : xs.length ≤ 12) :
    FnSpecM Tryz.prog 161 [.mso B0 0 xs.length, .int .i64 0, .int .i64 xs.length, .int .i64 lim] 3 (i64s xs) (SortPost xs) := by
  refine fn_of_vcM mixed Tryz.func161 rfl c161_ok (by simp [c161]) fun C hP => ?_; simp only [c161]
  simp +decide (disch := first | omega | rfl | (simp +decide only [go_sem, ↓reduceIte] <;> rfl) | fail) only [go_sem, ↓reduceIte, mk_empty, sl_3n, app_nil_map, mk_i64, max_nat]
  refine vc_loopF (by repeat (first | exact okSk_ret | exact okSk_retM | exact okSk_retO | apply okSk_back | apply okSk_out | apply okSk_eb | apply okSk_c | apply okSk_o | apply okSk_again)) [(1, 3), (8, 133)] [] (fun m J hp => J 1 = .int .i64 0 ∧ J 2 = .int .i64 xs.length ∧ hp 1000000 = some ⟨1, 3, i64s xs, false⟩) 1 ?_ ?_
  · simp +decide (disch := first | omega | rfl | (simp +decide only [go_sem, ↓reduceIte] <;> rfl) | fail) only [go_sem, ↓reduceIte, mk_empty, sl_3n, app_nil_map, mk_i64, max_nat]
  rintro m J h ⟨h1, h2, hh⟩
  simp +decide (disch := first | omega | rfl | (simp +decide only [go_sem, ↓reduceIte, h1, h2, Int.sub_zero] <;> rfl) | fail) only [go_sem, ↓reduceIte, mk_empty, sl_3n, app_nil_map, mk_i64, max_nat, h1, h2, Int.sub_zero]
  refine cond_split (fun _ => ?_) (fun h => by omega)
  simp +decide (disch := first | omega | rfl | (simp +decide only [go_sem, ↓reduceIte, h1, h2, hh] <;> rfl) | fail) only [go_sem, ↓reduceIte, mk_empty, sl_3n, app_nil_map, mk_i64, max_nat, h1, h2, hh]
  refine call_M hP (insertionSort_spec h0 (by omega)) (β := 1000000) (by simp +decide (disch := first | omega | rfl | (simp +decide only [go_sem, ↓reduceIte, hh] <;> rfl) | fail) only [go_sem, ↓reduceIte, mk_empty, sl_3n, app_nil_map, mk_i64, max_nat, hh]) (ints_i64 _) (by simp; omega) (by simp [toB, B0]) rfl ?_
  rintro r xs' _ _ ⟨rfl, ys, rfl, hp2, hs2⟩
  simp +decide (disch := first | omega | rfl | (simp +decide only [go_sem, ↓reduceIte, fromB] <;> rfl) | fail) only [go_sem, ↓reduceIte, mk_empty, sl_3n, app_nil_map, mk_i64, max_nat, fromB]
  refine retM_0 (by simp +decide (disch := first | omega | rfl | (simp +decide only [go_sem, ↓reduceIte] <;> rfl) | fail) only [go_sem, ↓reduceIte, mk_empty, sl_3n, app_nil_map, mk_i64, max_nat]) (ints_i64 _) ?_ ⟨rfl, ys, rfl, hp2, hs2⟩
  have := hp2.length_eq
  simp; omega
theorem Sort_spec {xs : List Int} (h0 : 0 < xs.length) (hl : xs.length ≤ 12) :
    FnSpecM Tryz.prog 135 [.mso B0 0 xs.length] 3 (i64s xs) (SortPost xs) := by
  refine fn_of_vcM mixed Tryz.func135 rfl c135_ok (by simp [c135]) fun C hP => ?_; simp only [c135]
  simp +decide (disch := first | omega | rfl | (simp +decide only [go_sem, ↓reduceIte] <;> rfl) | fail) only [go_sem, ↓reduceIte, mk_empty, sl_3n, app_nil_map, mk_i64, max_nat]
  refine call_eq0 hP (Len_spec (x := xs.length) (by omega)) rfl rfl rfl ?_
  simp +decide (disch := first | omega | rfl | (simp +decide only [go_sem, ↓reduceIte] <;> rfl) | fail) only [go_sem, ↓reduceIte, mk_empty, sl_3n, app_nil_map, mk_i64, max_nat]
  refine call_M hP (pdq_spec (lim := (Lib.bitLen xs.length : Nat)) h0 hl) (β := 1000000) (by simp +decide (disch := first | omega | rfl | (simp +decide only [go_sem, ↓reduceIte] <;> rfl) | fail) only [go_sem, ↓reduceIte, mk_empty, sl_3n, app_nil_map, mk_i64, max_nat]) (ints_i64 _) (by simp; omega) (by simp [toB, B0]) rfl ?_
  rintro r xs' _ _ ⟨rfl, ys, rfl, hp2, hs2⟩
  simp +decide (disch := first | omega | rfl | (simp +decide only [go_sem, ↓reduceIte, fromB] <;> rfl) | fail) only [go_sem, ↓reduceIte, mk_empty, sl_3n, app_nil_map, mk_i64, max_nat, fromB]
  refine retM_0 (by simp +decide (disch := first | omega | rfl | (simp +decide only [go_sem, ↓reduceIte] <;> rfl) | fail) only [go_sem, ↓reduceIte, mk_empty, sl_3n, app_nil_map, mk_i64, max_nat]) (ints_i64 _) ?_ ⟨rfl, ys, rfl, hp2, hs2⟩
  have := hp2.length_eq
  simp; omega
theorem Reverse_spec {xs : List Int} (h0 : 0 < xs.length) (hl : xs.length ≤ 2 ^ 30) :
    FnSpecM Tryz.prog 136 [.mso B0 0 xs.length] 3 (i64s xs) (fun r xs' => r = .tup [] ∧ xs' = i64s xs.reverse) := by
  refine fn_of_vcM mixed Tryz.func136 rfl c136_ok (by simp [c136]) fun C hP => ?_; simp only [c136]
  simp +decide (disch := first | omega | rfl | (simp +decide only [go_sem, ↓reduceIte] <;> rfl) | fail) only [go_sem, ↓reduceIte, mk_empty, sl_3n, app_nil_map, mk_i64, max_nat]
  refine vc_loopF (by repeat (first | exact okSk_ret | exact okSk_retM | exact okSk_retO | apply okSk_back | apply okSk_out | apply okSk_eb | apply okSk_c | apply okSk_o | apply okSk_again)) [(2, 3), (7, 27)] [] (fun m J hp => ∃ i L, m = xs.length - 2 * i ∧ 2 * i ≤ xs.length + 1 ∧ L.length = xs.length ∧ (∀ k (h : k < L.length) (h' : k < xs.length), (k < i ∨ xs.length ≤ k + i) → L[k] = xs[xs.length - 1 - k]) ∧ (∀ k (h : k < L.length) (h' : k < xs.length), i ≤ k → k + i < xs.length → L[k] = xs[k]) ∧ J 2 = .int .i64 (i : Nat) ∧ J 3 = .int .i64 ((xs.length : Int) - 1 - i) ∧ hp 1000000 = some ⟨1, 3, i64s L, false⟩) xs.length ?_ ?_
  · refine ⟨0, xs, rfl, by omega, rfl, fun k h h' hk => by omega, fun k h h' _ _ => rfl, ?_⟩
    simp +decide (disch := first | omega | rfl | (simp +decide only [go_sem, ↓reduceIte] <;> rfl) | fail) only [go_sem, ↓reduceIte, mk_empty, sl_3n, app_nil_map, mk_i64, max_nat]
    exact ⟨rfl, congrArg (PV.int .i64) (by omega)⟩
  rintro _ J h ⟨i, L, rfl, hi, hL, ho, hin, h2, h3, hh⟩
  simp +decide (disch := first | omega | rfl | (simp +decide only [go_sem, ↓reduceIte, h2, h3] <;> rfl) | fail) only [go_sem, ↓reduceIte, mk_empty, sl_3n, app_nil_map, mk_i64, max_nat, h2, h3]
  refine cond_split (fun hg => ?_) (fun hg => ?_)
  · obtain ⟨j, hj⟩ : ∃ j : Nat, (xs.length : Int) - 1 - i = j := ⟨xs.length - 1 - i, by omega⟩
    have hij : i + j + 1 = xs.length := by omega
    rw [hj] at hg
    have hi1 : i < L.length := by omega
    have hj1 : j < L.length := by omega
    have hj2 : j < (L.set i L[j]).length := by simpa using hj1
    simp +decide (disch := first | omega | rfl | (simp +decide only [go_sem, ↓reduceIte, h2, h3, hj, hh] <;> rfl) | fail) only [go_sem, ↓reduceIte, mk_empty, sl_3n, app_nil_map, mk_i64, max_nat, h2, h3, hj, hh]
    refine back_ovr (xs.length - 2 * (i + 1)) (by omega) ⟨i + 1, (L.set i L[j]).set j L[i], rfl, by omega, by simpa using hL, fun k h h' hk => ?_, fun k h h' hk1 hk2 => ?_, ?_⟩
    · rw [List.getElem_set]
      split
      · rename_i e; subst e
        rw [hin i hi1 (by omega) (by omega) (by omega)]
        congr 1; omega
      · rename_i e
        rw [List.getElem_set]
        split
        · rename_i e2; subst e2
          rw [hin j hj1 (by omega) (by omega) (by omega)]
          congr 1; omega
        · exact ho k (by simpa using h) h' (by omega)
    · rw [List.getElem_set_ne (by omega), List.getElem_set_ne (by omega)]
      exact hin k (by simpa using h) h' (by omega) (by omega)
    · simp +decide (disch := first | omega | rfl | (simp +decide only [go_sem, ↓reduceIte] <;> rfl) | fail) only [go_sem, ↓reduceIte, mk_empty, sl_3n, app_nil_map, mk_i64, max_nat]
      exact congrArg (PV.int .i64) (by omega)
  · have e : L = xs.reverse := by
      refine List.ext_getElem (by simp [hL]) fun k h1 h2 => ?_
      rw [List.getElem_reverse]
      by_cases hk : k < i ∨ xs.length ≤ k + i
      · exact ho k h1 (by omega) hk
      · have h5 := hin k h1 (by omega) (by omega) (by omega)
        rw [h5]
        congr 1; omega
    subst e
    simp +decide (disch := first | omega | rfl | (simp +decide only [go_sem, ↓reduceIte, hh] <;> rfl) | fail) only [go_sem, ↓reduceIte, mk_empty, sl_3n, app_nil_map, mk_i64, max_nat, hh]
    exact retM_0 hh (ints_i64 _) (by simp) ⟨rfl, rfl⟩
end Go.Proofs.YtfhmockdgbkpnaaGreat
namespace Go.Proofs.YtfhmockdgbkpnaaGreat
open Go Go.FW
set_option linter.unusedSimpArgs false
set_option linter.unusedVariables false
set_option maxRecDepth 100000
theorem IndexFuncT_spec {p : List Tm} {f : Nat} {g : Tm → Bool} (hf : ∀ t ∈ p, FnSpec Tryz.prog f [PV.term t] (· = .bool (g t))) (hlp : p.length ≤ 2 ^ 36) :
    FnSpec Tryz.prog 148 [PV.poly p, .fn f [] []] (· = .int .i64 (findI g p)) := by
  refine fn_of_vc mixed Tryz.func148 rfl c148_ok (by simp [c148]) fun C hP => ?_; simp only [c148]
  simp +decide (disch := first | omega | rfl | (simp +decide only [go_sem, ↓reduceIte] <;> rfl) | fail) only [go_sem, ↓reduceIte, mk_empty, sl_3n, app_nil_map, mk_i64, max_nat]
  refine vc_loopF (by repeat (first | exact okSk_ret | exact okSk_retM | exact okSk_retO | apply okSk_back | apply okSk_out | apply okSk_eb | apply okSk_c | apply okSk_o | apply okSk_again)) [(4, 5), (8, 18)] [] (fun n J hp => ∃ i, n = p.length - i ∧ i ≤ p.length ∧ (∀ j (h : j < p.length), j < i → g p[j] = false) ∧ J 8 = .int .i64 (i : Nat)) p.length ?_ ?_
  · refine ⟨0, rfl, by omega, by omega, ?_⟩
    simp +decide (disch := first | omega | rfl | (simp +decide only [go_sem, ↓reduceIte] <;> rfl) | fail) only [go_sem, ↓reduceIte, mk_empty, sl_3n, app_nil_map, mk_i64, max_nat]
    rfl
  rintro _ J h ⟨i, rfl, hi, h1, h8⟩
  simp +decide (disch := first | omega | rfl | (simp +decide only [go_sem, ↓reduceIte, h8] <;> rfl) | fail) only [go_sem, ↓reduceIte, mk_empty, sl_3n, app_nil_map, mk_i64, max_nat, h8]
  refine cond_split (fun hg => ?_) (fun hg => ?_)
  · have hi' : i < p.length := by omega
    have hfi := hf _ (List.getElem_mem hi')
    have hat := fun h => findI_at (g := g) hi' h h1
    have hadd : g p[i] = false → ∀ j (h : j < p.length), j < i + 1 → g p[j] = false := fun h j hj hji => by
      by_cases e : j = i
      · subst e; exact h
      · exact h1 j hj (by omega)
    generalize hx : p[i] = x at *
    simp +decide (disch := first | omega | rfl | (simp +decide only [go_sem, ↓reduceIte, h8, hx] <;> rfl) | fail) only [go_sem, ↓reduceIte, mk_empty, sl_3n, app_nil_map, mk_i64, max_nat, h8, hx]
    refine call_eq0 hP hfi rfl rfl rfl ?_
    simp +decide (disch := first | omega | rfl | (simp +decide only [go_sem, ↓reduceIte, h8, hx] <;> rfl) | fail) only [go_sem, ↓reduceIte, mk_empty, sl_3n, app_nil_map, mk_i64, max_nat, h8, hx]
    cases hgx : g x
    · simp +decide (disch := first | omega | rfl | (simp +decide only [go_sem, ↓reduceIte, h8] <;> rfl) | fail) only [go_sem, ↓reduceIte, mk_empty, sl_3n, app_nil_map, mk_i64, max_nat, h8]
      refine back_ovr (p.length - (i + 1)) (by omega) ⟨i + 1, rfl, by omega, hadd hgx, ?_⟩
      simp +decide (disch := first | omega | rfl | (simp +decide only [go_sem, ↓reduceIte] <;> rfl) | fail) only [go_sem, ↓reduceIte, mk_empty, sl_3n, app_nil_map, mk_i64, max_nat]
    · simp +decide (disch := first | omega | rfl | (simp +decide only [go_sem, ↓reduceIte, h8] <;> rfl) | fail) only [go_sem, ↓reduceIte, mk_empty, sl_3n, app_nil_map, mk_i64, max_nat, h8]
      exact retV_eq (by rw [hat hgx]) rfl
  · obtain rfl : i = p.length := by omega
    simp +decide (disch := first | omega | rfl | (simp +decide only [go_sem, ↓reduceIte] <;> rfl) | fail) only [go_sem, ↓reduceIte, mk_empty, sl_3n, app_nil_map, mk_i64, max_nat]
    exact retV_eq (by rw [findI_none (fun j hj => h1 j hj hj)]) rfl
theorem IndexFuncI_spec {p : List Int} {f : Nat} {g : Int → Bool} (hf : ∀ t ∈ p, FnSpec Tryz.prog f [.int .i64 t] (· = .bool (g t))) (hlp : p.length ≤ 2 ^ 36) :
    FnSpec Tryz.prog 149 [PV.mono p, .fn f [] []] (· = .int .i64 (findI g p)) := by
  refine fn_of_vc mixed Tryz.func149 rfl c149_ok (by simp [c149]) fun C hP => ?_; simp only [c149]
  simp +decide (disch := first | omega | rfl | (simp +decide only [go_sem, ↓reduceIte] <;> rfl) | fail) only [go_sem, ↓reduceIte, mk_empty, sl_3n, app_nil_map, mk_i64, max_nat]
  refine vc_loopF (by repeat (first | exact okSk_ret | exact okSk_retM | exact okSk_retO | apply okSk_back | apply okSk_out | apply okSk_eb | apply okSk_c | apply okSk_o | apply okSk_again)) [(4, 5), (8, 18)] [] (fun n J hp => ∃ i, n = p.length - i ∧ i ≤ p.length ∧ (∀ j (h : j < p.length), j < i → g p[j] = false) ∧ J 8 = .int .i64 (i : Nat)) p.length ?_ ?_
  · refine ⟨0, rfl, by omega, by omega, ?_⟩
    simp +decide (disch := first | omega | rfl | (simp +decide only [go_sem, ↓reduceIte] <;> rfl) | fail) only [go_sem, ↓reduceIte, mk_empty, sl_3n, app_nil_map, mk_i64, max_nat]
    rfl
  rintro _ J h ⟨i, rfl, hi, h1, h8⟩
  simp +decide (disch := first | omega | rfl | (simp +decide only [go_sem, ↓reduceIte, h8] <;> rfl) | fail) only [go_sem, ↓reduceIte, mk_empty, sl_3n, app_nil_map, mk_i64, max_nat, h8]
  refine cond_split (fun hg => ?_) (fun hg => ?_)
  · have hi' : i < p.length := by omega
    have hfi := hf _ (List.getElem_mem hi')
    have hat := fun h => findI_at (g := g) hi' h h1
    have hadd : g p[i] = false → ∀ j (h : j < p.length), j < i + 1 → g p[j] = false := fun h j hj hji => by
      by_cases e : j = i
      · subst e; exact h
      · exact h1 j hj (by omega)
    generalize hx : p[i] = x at *
    simp +decide (disch := first | omega | rfl | (simp +decide only [go_sem, ↓reduceIte, h8, hx] <;> rfl) | fail) only [go_sem, ↓reduceIte, mk_empty, sl_3n, app_nil_map, mk_i64, max_nat, h8, hx]
    refine call_eq0 hP hfi rfl rfl rfl ?_
    simp +decide (disch := first | omega | rfl | (simp +decide only [go_sem, ↓reduceIte, h8, hx] <;> rfl) | fail) only [go_sem, ↓reduceIte, mk_empty, sl_3n, app_nil_map, mk_i64, max_nat, h8, hx]
    cases hgx : g x
    · simp +decide (disch := first | omega | rfl | (simp +decide only [go_sem, ↓reduceIte, h8] <;> rfl) | fail) only [go_sem, ↓reduceIte, mk_empty, sl_3n, app_nil_map, mk_i64, max_nat, h8]
      refine back_ovr (p.length - (i + 1)) (by omega) ⟨i + 1, rfl, by omega, hadd hgx, ?_⟩
      simp +decide (disch := first | omega | rfl | (simp +decide only [go_sem, ↓reduceIte] <;> rfl) | fail) only [go_sem, ↓reduceIte, mk_empty, sl_3n, app_nil_map, mk_i64, max_nat]
    · simp +decide (disch := first | omega | rfl | (simp +decide only [go_sem, ↓reduceIte, h8] <;> rfl) | fail) only [go_sem, ↓reduceIte, mk_empty, sl_3n, app_nil_map, mk_i64, max_nat, h8]
      exact retV_eq (by rw [hat hgx]) rfl
  · obtain rfl : i = p.length := by omega
    simp +decide (disch := first | omega | rfl | (simp +decide only [go_sem, ↓reduceIte] <;> rfl) | fail) only [go_sem, ↓reduceIte, mk_empty, sl_3n, app_nil_map, mk_i64, max_nat]
    exact retV_eq (by rw [findI_none (fun j hj => h1 j hj hj)]) rfl
theorem ContainsFuncT_spec {p : List Tm} {f : Nat} {g : Tm → Bool} (hf : ∀ t ∈ p, FnSpec Tryz.prog f [PV.term t] (· = .bool (g t))) (hlp : p.length ≤ 2 ^ 36) :
    FnSpec Tryz.prog 112 [PV.poly p, .fn f [] []] (· = .bool (p.any g)) := by
  refine fn_of_vc mixed Tryz.func112 rfl c112_ok (by simp [c112]) fun C hP => ?_; simp only [c112]
  simp +decide (disch := first | omega | rfl | (simp +decide only [go_sem, ↓reduceIte] <;> rfl) | fail) only [go_sem, ↓reduceIte, mk_empty, sl_3n, app_nil_map, mk_i64, max_nat]
  refine call_eq0 hP (IndexFuncT_spec hf hlp) rfl rfl rfl ?_
  simp +decide (disch := first | omega | rfl | (simp +decide only [go_sem, ↓reduceIte] <;> rfl) | fail) only [go_sem, ↓reduceIte, mk_empty, sl_3n, app_nil_map, mk_i64, max_nat]
  exact retV_eq (congrArg PV.bool (findI_any g p)) rfl
theorem ContainsFuncI_spec {p : List Int} {f : Nat} {g : Int → Bool} (hf : ∀ t ∈ p, FnSpec Tryz.prog f [.int .i64 t] (· = .bool (g t))) (hlp : p.length ≤ 2 ^ 36) :
    FnSpec Tryz.prog 114 [PV.mono p, .fn f [] []] (· = .bool (p.any g)) := by
  refine fn_of_vc mixed Tryz.func114 rfl c114_ok (by simp [c114]) fun C hP => ?_; simp only [c114]
  simp +decide (disch := first | omega | rfl | (simp +decide only [go_sem, ↓reduceIte] <;> rfl) | fail) only [go_sem, ↓reduceIte, mk_empty, sl_3n, app_nil_map, mk_i64, max_nat]
  refine call_eq0 hP (IndexFuncI_spec hf hlp) rfl rfl rfl ?_
  simp +decide (disch := first | omega | rfl | (simp +decide only [go_sem, ↓reduceIte] <;> rfl) | fail) only [go_sem, ↓reduceIte, mk_empty, sl_3n, app_nil_map, mk_i64, max_nat]
  exact retV_eq (congrArg PV.bool (findI_any g p)) rfl
theorem large11_spec (x : Int) : FnSpec Tryz.prog 115 [.int .i64 x] (· = .bool (decide (1048576 < x))) := by
  refine fn_of_vc mixed Tryz.func115 rfl c115_ok (by simp [c115]) fun C hP => ?_; simp only [c115]
  simp +decide (disch := first | omega | rfl | (simp +decide only [go_sem, ↓reduceIte] <;> rfl) | fail) only [go_sem, ↓reduceIte, mk_empty, sl_3n, app_nil_map, mk_i64, max_nat]
  exact retV_eq rfl rfl
theorem large1_spec {t : Tm} (h : t.2.length ≤ 2 ^ 36) : FnSpec Tryz.prog 113 [PV.term t] (· = .bool (t.2.any fun x => decide (1048576 < x))) := by
  refine fn_of_vc mixed Tryz.func113 rfl c113_ok (by simp [c113]) fun C hP => ?_; simp only [c113]
  simp +decide (disch := first | omega | rfl | (simp +decide only [go_sem, ↓reduceIte] <;> rfl) | fail) only [go_sem, ↓reduceIte, mk_empty, sl_3n, app_nil_map, mk_i64, max_nat]
  refine call_eq0 hP (ContainsFuncI_spec (fun x _ => large11_spec x) h) rfl rfl rfl ?_
  simp +decide (disch := first | omega | rfl | (simp +decide only [go_sem, ↓reduceIte] <;> rfl) | fail) only [go_sem, ↓reduceIte, mk_empty, sl_3n, app_nil_map, mk_i64, max_nat]
  exact retV_eq rfl rfl
theorem p_large_spec {p : List Tm} {E : Nat} (hp : ∀ t ∈ p, MB E t.2) (hlp : p.length ≤ 2 ^ 36) : FnSpec Tryz.prog 59 [PV.poly p] (· = .bool (plarge p)) := by
  refine fn_of_vc mixed Tryz.func59 rfl c59_ok (by simp [c59]) fun C hP => ?_; simp only [c59]
  simp +decide (disch := first | omega | rfl | (simp +decide only [go_sem, ↓reduceIte] <;> rfl) | fail) only [go_sem, ↓reduceIte, mk_empty, sl_3n, app_nil_map, mk_i64, max_nat]
  refine guard_splitF (fun h => ?_) (fun h => ?_)
  · simp +decide (disch := first | omega | rfl | (simp +decide only [go_sem, ↓reduceIte] <;> rfl) | fail) only [go_sem, ↓reduceIte, mk_empty, sl_3n, app_nil_map, mk_i64, max_nat]
    exact retV_eq (congrArg PV.bool (by rw [plarge, decide_eq_true (by omega), Bool.true_or])) rfl
  · simp +decide (disch := first | omega | rfl | (simp +decide only [go_sem, ↓reduceIte] <;> rfl) | fail) only [go_sem, ↓reduceIte, mk_empty, sl_3n, app_nil_map, mk_i64, max_nat]
    refine call_eq0 hP (ContainsFuncT_spec (fun t ht => large1_spec (by have := (hp t ht).len; omega)) hlp) rfl rfl rfl ?_
    simp +decide (disch := first | omega | rfl | (simp +decide only [go_sem, ↓reduceIte] <;> rfl) | fail) only [go_sem, ↓reduceIte, mk_empty, sl_3n, app_nil_map, mk_i64, max_nat]
    exact retV_eq (congrArg PV.bool (by rw [plarge, decide_eq_false (by omega), Bool.false_or])) rfl
end Go.Proofs.YtfhmockdgbkpnaaGreat
namespace Go.FW
open Go
theorem killFs_sub {B B' : List Nat} {F : Fr} (h : (B'.all B.contains) = true) : killFs B' (killFs B F) = killFs B F := by
  funext s
  rw [killFs_at B']
  split
  · rename_i h1
    rw [killFs_at B] at h1 ⊢
    split
    · rfl
    · rename_i h2
      rw [if_neg h2] at h1
      exfalso
      apply h2
      rw [List.any_eq_true] at h1 ⊢
      obtain ⟨x, hx, hb⟩ := h1
      rw [List.all_eq_true] at h
      exact ⟨x, hx, h x (List.contains_iff_mem.1 hb)⟩
  · rfl
theorem killFs_ovr {W : List (Nat × Nat)} {B : List Nat} {J F : Fr} : killFs B (ovr W J F) = ovr W (killFs B J) (killFs B F) := by
  funext s; unfold killFs ovr; split <;> rfl
theorem ovr_killsub {V W : List (Nat × Nat)} {B B' : List Nat} {X Z F : Fr} (h : subW V W = true) (hB : (B'.all B.contains) = true) : ovr V X (killFs B' (ovr W Z (killFs B F))) = ovr W (ovr V X (killFs B' Z)) (killFs B F) := by
  rw [killFs_ovr, killFs_sub hB, ovr_sub h]
section
variable {C : Ctx} {fr : Fr} {hp : HP} {w : World} {K R : Kont}
theorem bs_ms {ty d β n e' ty' : Nat} {xs : List PV} {fz : Bool} (h : hp β = some ⟨e', ty', xs, fz⟩) (hB : isB β = false := by decide) :
    bsK 1 ty [.ms β n] d fr hp K = K (upd (killF d fr) d (.ms d 1)) (updH (freeze hp [β]) d ⟨1, ty, [.sl e' (xs.take n)], false⟩) := by
  have e := snap_ms hp β n _ _ _ _ h hB
  have e2 : okParts hp 1 [.ms β n] := fun p hp' => by
    simp only [List.mem_singleton] at hp'
    subst hp'
    rw [e]; exact ⟨rfl, rfl⟩
  apply propext
  simp only [bsK, List.map_cons, List.map_nil, e, List.length_cons, List.length_nil]
  exact ⟨fun h => h.2.2, fun h => ⟨by omega, e2, h⟩⟩
end
def dropM (m : List Int) (v : Nat) : List Int := trimI (m.set v 0)
theorem eN_set (m : List Int) (v i : Nat) : eN (m.set v 0) i = if i = v then 0 else eN m i := by
  by_cases hi : i < m.length
  · rw [eN_lt (by simpa using hi), List.getElem_set]
    by_cases h : i = v
    · rw [if_pos h, if_pos h.symm]
    · rw [if_neg h, if_neg (fun h' => h h'.symm), eN_lt hi]
  · rw [eN_ge (by simpa using hi), eN_ge (by omega)]; split <;> rfl
theorem dropM_eN (m : List Int) (v i : Nat) : eN (dropM m v) i = if i = v then 0 else eN m i := by rw [dropM, trimI_eN, eN_set]
theorem dropM_last (m : List Int) (v : Nat) : (dropM m v).getLast? ≠ some 0 := trimI_last _
theorem dropM_MB {E : Nat} {m : List Int} (h : MB E m) (v : Nat) : MB E (dropM m v) := by
  have hl : (dropM m v).length ≤ 64 := by
    have := trimI_length (m.set v 0)
    have := h.len
    rw [List.length_set] at *
    unfold dropM; omega
  refine ⟨hl, fun x hx => ?_, fun x hx => ?_⟩
  all_goals
    obtain ⟨i, hi, rfl⟩ := List.getElem_of_mem hx
    rw [← eN_lt hi, dropM_eN]
    have := h.eN i
    split <;> omega
theorem dropM_ok {E : Nat} {m : List Int} (h : MB E m) (hE : E ≤ 1048576) (v : Nat) : monoOk (dropM m v) = true := monoOk_of (dropM_MB h v) hE (dropM_last m v)
theorem cmpM_drop {a b : List Int} {v : Nat} (h : eN a v = eN b v) : cmpM (dropM a v) (dropM b v) = cmpM a b := by
  have key : ∀ n, cmpN (dropM a v) (dropM b v) n = cmpN a b n := by
    intro n
    induction n with
    | zero => rfl
    | succ n ih =>
      rw [cmpN, cmpN, ih, dropM_eN, dropM_eN]
      by_cases hn : n = v
      · subst hn; rw [if_pos rfl, if_pos rfl, if_pos rfl, if_pos h]
      · rw [if_neg hn, if_neg hn]
  have e1 : (dropM a v).length ≤ a.length := by have := trimI_length (a.set v 0); rwa [List.length_set] at this
  have e2 : (dropM b v).length ≤ b.length := by have := trimI_length (b.set v 0); rwa [List.length_set] at this
  rw [← cmpN_ext (m := max a.length b.length) (by omega), key, cmpN_ext (by omega)]
def coefN (p : List Tm) (v : Nat) (n : Int) : List Tm := p.filterMap fun t => if eN t.2 v = n then some (t.1, dropM t.2 v) else none
theorem coefN_take {p : List Tm} {v i : Nat} {n : Int} (h : i < p.length) : coefN (p.take (i + 1)) v n = coefN (p.take i) v n ++ (if eN p[i].2 v = n then [(p[i].1, dropM p[i].2 v)] else []) := by
  rw [List.take_succ_eq_append_getElem h, coefN, List.filterMap_append]
  congr 1
  rw [List.filterMap_cons]
  by_cases h : eN p[i].2 v = n <;> simp [h]
theorem coefN_length (p : List Tm) (v : Nat) (n : Int) : (coefN p v n).length ≤ p.length := List.length_filterMap_le _ _
theorem coefN_mem {p : List Tm} {v : Nat} {n : Int} {t : Tm} (h : t ∈ coefN p v n) : ∃ s ∈ p, eN s.2 v = n ∧ t = (s.1, dropM s.2 v) := by
  simp only [coefN, List.mem_filterMap] at h
  obtain ⟨s, h1, h2⟩ := h
  split at h2
  · rename_i h3; cases h2; exact ⟨s, h1, h3, rfl⟩
  · cases h2
theorem coefN_PB {K E : Nat} {p : List Tm} (hp : PB K E p) (v : Nat) (n : Int) : PB K E (coefN p v n) := fun t ht => by
  obtain ⟨s, h1, _, rfl⟩ := coefN_mem ht
  have := hp s h1
  exact ⟨this.c, dropM_MB this.m v, dropM_last _ _⟩
theorem coefN_sorted (v : Nat) (n : Int) : ∀ {p : List Tm}, PSorted p → PSorted (coefN p v n)
  | [], _ => trivial
  | s :: p, h => by
    have ih := coefN_sorted v n h.2
    by_cases hs : eN s.2 v = n
    · have e : coefN (s :: p) v n = (s.1, dropM s.2 v) :: coefN p v n := by rw [coefN, List.filterMap_cons, if_pos hs]; rfl
      rw [e]
      refine ⟨fun t ht => ?_, ih⟩
      obtain ⟨u, h1, h2, rfl⟩ := coefN_mem ht
      show 0 < cmpM (dropM s.2 v) (dropM u.2 v)
      rw [cmpM_drop (by rw [hs, h2])]
      exact h.1 u h1
    · have e : coefN (s :: p) v n = coefN p v n := by rw [coefN, List.filterMap_cons, if_neg hs]; rfl
      rw [e]; exact ih
theorem coefN_nrm {p : List Tm} (hp : Nrm p) (v : Nat) (n : Int) : Nrm (coefN p v n) := ⟨fun t ht => by
  obtain ⟨s, _, _, rfl⟩ := coefN_mem ht
  exact dropM_last _ _, fun t ht => by
  obtain ⟨s, h1, _, rfl⟩ := coefN_mem ht
  exact hp.z s h1, coefN_sorted v n hp.s⟩
def expsL (p : List Tm) (v : Nat) : List Int := p.foldl (fun l t => if eN t.2 v ∈ l then l else l ++ [eN t.2 v]) []
theorem expsL_take {p : List Tm} {v i : Nat} (h : i < p.length) : expsL (p.take (i + 1)) v = if eN p[i].2 v ∈ expsL (p.take i) v then expsL (p.take i) v else expsL (p.take i) v ++ [eN p[i].2 v] := by
  rw [List.take_succ_eq_append_getElem h, expsL, List.foldl_append]; rfl
theorem expsL_aux (v : Nat) : ∀ (p : List Tm) (l : List Int), l.Nodup → (p.foldl (fun l t => if eN t.2 v ∈ l then l else l ++ [eN t.2 v]) l).Nodup ∧
    (∀ n, n ∈ p.foldl (fun l t => if eN t.2 v ∈ l then l else l ++ [eN t.2 v]) l ↔ n ∈ l ∨ ∃ t ∈ p, eN t.2 v = n) ∧ (p.foldl (fun l t => if eN t.2 v ∈ l then l else l ++ [eN t.2 v]) l).length ≤ l.length + p.length
  | [], l, h => ⟨h, by simp, by simp⟩
  | t :: p, l, h => by
    rw [List.foldl_cons]
    by_cases ht : eN t.2 v ∈ l
    · rw [if_pos ht]
      obtain ⟨h1, h2, h3⟩ := expsL_aux v p l h
      refine ⟨h1, fun n => ?_, by rw [List.length_cons]; omega⟩
      rw [h2]
      constructor
      · rintro (h | ⟨s, hs, h⟩)
        · exact .inl h
        · exact .inr ⟨s, by simp [hs], h⟩
      · rintro (h | ⟨s, hs, h⟩)
        · exact .inl h
        · rcases List.mem_cons.1 hs with rfl | hs
          · subst h; exact .inl ht
          · exact .inr ⟨s, hs, h⟩
    · rw [if_neg ht]
      obtain ⟨h1, h2, h3⟩ := expsL_aux v p (l ++ [eN t.2 v]) (by
        rw [List.nodup_append]; exact ⟨h, by simp, fun a ha b hb => by simp only [List.mem_singleton] at hb; subst hb; rintro rfl; exact ht ha⟩)
      refine ⟨h1, fun n => ?_, by rw [List.length_cons]; simp at h3; omega⟩
      rw [h2]
      constructor
      · rintro (h | ⟨s, hs, h⟩)
        · rcases List.mem_append.1 h with h | h
          · exact .inl h
          · simp only [List.mem_singleton] at h; subst h; exact .inr ⟨t, by simp, rfl⟩
        · exact .inr ⟨s, by simp [hs], h⟩
      · rintro (h | ⟨s, hs, h⟩)
        · exact .inl (by simp [h])
        · rcases List.mem_cons.1 hs with rfl | hs
          · subst h; exact .inl (by simp)
          · exact .inr ⟨s, hs, h⟩
theorem expsL_spec (p : List Tm) (v : Nat) : (expsL p v).Nodup ∧ (∀ n, n ∈ expsL p v ↔ ∃ t ∈ p, eN t.2 v = n) ∧ (expsL p v).length ≤ p.length := by
  have := expsL_aux v p [] (by simp)
  simpa [expsL] using this
structure Pows (p : List Tm) (v : Nat) (D : List Int) : Prop where
  s : D.Pairwise (· > ·)
  m : ∀ n, n ∈ D ↔ ∃ t ∈ p, eN t.2 v = n
  l : D.length ≤ p.length
theorem pows_of {p : List Tm} {v : Nat} {ys : List Int} (h1 : ys.Perm (expsL p v)) (h2 : Srt ys) : Pows p v ys.reverse := by
  obtain ⟨a, b, c⟩ := expsL_spec p v
  refine ⟨?_, fun n => ?_, by rw [List.length_reverse, h1.length_eq]; exact c⟩
  · rw [List.pairwise_reverse]
    have hn : ys.Nodup := h1.nodup_iff.2 a
    have := List.Pairwise.and h2 hn
    exact this.imp fun {x y} h => by have := h.1; have := h.2; omega
  · rw [List.mem_reverse, h1.mem_iff, b]
end Go.FW
