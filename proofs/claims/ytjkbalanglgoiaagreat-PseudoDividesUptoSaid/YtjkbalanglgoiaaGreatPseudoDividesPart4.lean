/- Part 4 of the proof of PseudoDivides: M1, M2, P1, P2, P3, FwQA, FwSD. Own lemmas; no conditions. -/
import Derived.Test.YtjkbalanglgoiaaGreatPseudoDividesPart3
set_option linter.unusedSimpArgs false
set_option linter.unnecessarySimpa false
set_option linter.unusedVariables false
namespace Go.Proofs.YtjkbalanglgoiaaGreat
open Go Go.FW
set_option linter.unusedSimpArgs false
set_option linter.unusedVariables false
set_option maxRecDepth 100000
theorem Qom {a : List Int} (hl : a.length < 2 ^ 42) : Qe Tryz.prog 104 [PV.mono a] (· = PV.mono (Qcf a)) := by
  refine Qg Ql Tryz.func104 rfl Q7m (by simp [Q4f]) fun C hP => ?_; simp only [Q4f]
  simp +decide (disch := first | omega | rfl | (simp +decide only [go_sem, ↓reduceIte] <;> rfl) | fail) only [go_sem, ↓reduceIte]
  refine Qx (by repeat (first | exact Qt | exact Qp | exact Qq | apply Qo | apply Qs | apply Qy | apply Q5 | apply Q6 | apply Qm)) [(3, 3), (6, 17)] [] (fun n J hp => n ≤ a.length ∧ Qe9 a n = Qcf a ∧ J 3 = .int .i64 n ∧ hp = hp0) a.length ?_ ?_
  · refine ⟨Nat.le_refl _, rfl, ?_⟩
    simp +decide (disch := first | omega | rfl | (simp +decide only [go_sem, ↓reduceIte] <;> rfl) | fail) only [go_sem, ↓reduceIte]
  rintro n J _ ⟨hn, hc, h3, rfl⟩
  simp +decide (disch := first | omega | rfl | (simp +decide only [go_sem, ↓reduceIte, h3] <;> rfl) | fail) only [go_sem, ↓reduceIte, h3]
  refine Qal (fun hg => ?_) (fun hg => ?_)
  · obtain _ | n := n
    · omega
    have e : ((n + 1 : Nat) : Int) - 1 = n := by omega
    simp only [Qe9] at hc
    simp +decide (disch := first | omega | rfl | (simp +decide only [go_sem, ↓reduceIte, h3, e] <;> rfl) | fail) only [go_sem, ↓reduceIte, h3, e]
    refine Qb (fun hz => ?_) (fun hz => ?_)
    · rw [if_pos (by simp [hz, show n < a.length by omega])] at hc
      simp +decide (disch := first | omega | rfl | (simp +decide only [go_sem, ↓reduceIte, h3, e] <;> rfl) | fail) only [go_sem, ↓reduceIte, h3, e]
      refine Qk n (by omega) ⟨by omega, hc, ?_⟩
      simp +decide (disch := first | omega | rfl | (simp +decide only [go_sem, ↓reduceIte] <;> rfl) | fail) only [go_sem, ↓reduceIte]
    · rw [if_neg (by simpa [show n < a.length by omega] using hz)] at hc
      simp +decide (disch := first | omega | rfl | (simp +decide only [go_sem, ↓reduceIte, h3, e] <;> rfl) | fail) only [go_sem, ↓reduceIte, h3, e]
      refine Qb (fun h => by omega) (fun h => ?_)
      simp +decide (disch := first | omega | rfl | (simp +decide only [go_sem, ↓reduceIte, h3, e] <;> rfl) | fail) only [go_sem, ↓reduceIte, h3, e]
      exact Qc (congrArg PV.mono hc) rfl
  · obtain rfl : n = 0 := by omega
    simp +decide (disch := first | omega | rfl | (simp +decide only [go_sem, ↓reduceIte, h3] <;> rfl) | fail) only [go_sem, ↓reduceIte, h3]
    exact Qcu (Qsb (by rw [← hc]; rfl)) rfl
theorem Qma {a : List Int} (hl : a.length ≤ 1048576) (hb : ∀ x ∈ a, 0 ≤ x ∧ x ≤ 1099511627776) : Qe Tryz.prog 110 [PV.mono a] (· = .int .i64 (Qfn a)) := by
  refine Qg Ql Tryz.func110 rfl Q7n (by simp [Q4g]) fun C hP => ?_; simp only [Q4g]
  simp +decide (disch := first | omega | rfl | (simp +decide only [go_sem, ↓reduceIte] <;> rfl) | fail) only [go_sem, ↓reduceIte]
  refine Qx (by repeat (first | exact Qt | exact Qp | exact Qq | apply Qo | apply Qs | apply Qy | apply Q5 | apply Q6 | apply Qm)) [(3, 3), (5, 5), (8, 15)] [] (fun k J hp => ∃ (i : Nat) (s : Int), k = a.length - i ∧ i ≤ a.length ∧ 0 ≤ s ∧ s ≤ 1099511627776 * i ∧ s + (a.drop i).sum = Qfn a ∧ J 8 = .int .i64 (i : Nat) ∧ J 3 = .int .i64 s ∧ hp = hp0) a.length ?_ ?_
  · refine ⟨0, 0, rfl, by omega, by omega, by omega, by simp [Qfn], ?_⟩
    simp +decide (disch := first | omega | rfl | (simp +decide only [go_sem, ↓reduceIte] <;> rfl) | fail) only [go_sem, ↓reduceIte]
    simp
  rintro _ J _ ⟨i, s, rfl, hi, hs0, hs1, hsum, h8, h3, rfl⟩
  simp +decide (disch := first | omega | rfl | (simp +decide only [go_sem, ↓reduceIte, h8, h3] <;> rfl) | fail) only [go_sem, ↓reduceIte, h8, h3]
  refine Qb (fun hg => ?_) (fun hg => ?_)
  · have hi' : i < a.length := by omega
    have hx := hb _ (List.getElem_mem hi')
    rw [List.drop_eq_getElem_cons hi', List.sum_cons] at hsum
    generalize hxx : a[i] = x at *
    simp +decide (disch := first | omega | rfl | (simp +decide only [go_sem, ↓reduceIte, h8, h3, hxx] <;> rfl) | fail) only [go_sem, ↓reduceIte, h8, h3, hxx]
    refine Qk (a.length - (i + 1)) (by omega) ⟨i + 1, s + x, rfl, by omega, by omega, by push_cast; omega, by omega, ?_⟩
    simp +decide (disch := first | omega | rfl | (simp +decide only [go_sem, ↓reduceIte] <;> rfl) | fail) only [go_sem, ↓reduceIte]
  · rw [List.drop_of_length_le (by omega), List.sum_nil, Int.add_zero] at hsum
    simp +decide (disch := first | omega | rfl | (simp +decide only [go_sem, ↓reduceIte, h3] <;> rfl) | fail) only [go_sem, ↓reduceIte, h3]
    exact Qc (by rw [hsum]) rfl
theorem Qqh {a : List Int} {v : Int} (hl : a.length < 2 ^ 42) : Qe Tryz.prog 75 [PV.mono a, .int .i64 v] (· = .int .i64 (if v < 0 then 0 else eN a v.toNat)) := by
  refine Qg Ql Tryz.func75 rfl Qaai (by simp [c75]) fun C hP => ?_; simp only [c75]
  simp +decide (disch := first | omega | rfl | (simp +decide only [go_sem, ↓reduceIte] <;> rfl) | fail) only [go_sem, ↓reduceIte]
  refine Q2 (fun h1 => ?_) (fun h1 => ?_)
  · simp +decide (disch := first | omega | rfl | (simp +decide only [go_sem, ↓reduceIte] <;> rfl) | fail) only [go_sem, ↓reduceIte]
    exact Qc (by rw [if_pos h1]) rfl
  · obtain ⟨n, rfl⟩ : ∃ n : Nat, v = n := ⟨v.toNat, by omega⟩
    rw [if_neg h1]
    simp +decide (disch := first | omega | rfl | (simp +decide only [go_sem, ↓reduceIte] <;> rfl) | fail) only [go_sem, ↓reduceIte]
    refine Qb (fun h2 => ?_) (fun h2 => ?_)
    · simp +decide (disch := first | omega | rfl | (simp +decide only [go_sem, ↓reduceIte] <;> rfl) | fail) only [go_sem, ↓reduceIte]
      exact Qc (by rw [Qb8 (by omega)]) rfl
    · have hn : n < a.length := by omega
      simp +decide (disch := first | omega | rfl | (simp +decide only [go_sem, ↓reduceIte] <;> rfl) | fail) only [go_sem, ↓reduceIte]
      exact Qc (by rw [Qcm hn]) rfl
theorem Qhu {a : List Int} {i : Nat} (hl : a.length < 2 ^ 42) : Qe Tryz.prog 75 [PV.mono a, .int .i64 i] (· = .int .i64 (eN a i)) := by
  have := Qqh (v := i) hl
  rwa [if_neg (by omega), Int.toNat_natCast] at this
end Go.Proofs.YtjkbalanglgoiaaGreat
namespace Go.Proofs.YtjkbalanglgoiaaGreat
open Go Go.FW
set_option linter.unusedSimpArgs false
set_option linter.unusedVariables false
set_option maxRecDepth 100000
theorem Qkt {a b : List Int} {f : Nat} {g : Int → Int → Int} (hla : a.length < 2 ^ 40) (hlb : b.length < 2 ^ 40) (hf : ∀ i, Qe Tryz.prog f [.int .i64 (eN a i), .int .i64 (eN b i)] (· = .int .i64 (g (eN a i) (eN b i)))) :
    Qe Tryz.prog 105 [PV.mono a, PV.mono b, .fn f [] []] (· = PV.mono (Qez g a b)) := by
  refine Qg Ql Tryz.func105 rfl Q7l (by simp [Q4e]) fun C hP => ?_; simp only [Q4e]
  simp +decide (disch := first | omega | rfl | (simp +decide only [go_sem, ↓reduceIte] <;> rfl) | fail) only [go_sem, ↓reduceIte]
  refine Qx (by repeat (first | exact Qt | exact Qp | exact Qq | apply Qo | apply Qs | apply Qy | apply Q5 | apply Q6 | apply Qm)) [(8, 10), (19, 45)] [] (fun k J hp => ∃ i, k = max a.length b.length - i ∧ i ≤ max a.length b.length ∧ J 19 = .int .i64 (i : Nat) ∧ hp = Qu hp0 16 ⟨1, 3, Qd4 ((Qez g a b).take i ++ List.replicate (max a.length b.length - i) 0), false⟩) (max a.length b.length) ?_ ?_
  · refine ⟨0, rfl, by omega, ?_⟩
    simp +decide (disch := first | omega | rfl | (simp +decide only [go_sem, ↓reduceIte] <;> rfl) | fail) only [go_sem, ↓reduceIte]
    simp
  rintro _ J _ ⟨i, rfl, hi, h19, rfl⟩
  simp +decide (disch := first | omega | rfl | (simp +decide only [go_sem, ↓reduceIte, h19] <;> rfl) | fail) only [go_sem, ↓reduceIte, h19]
  refine Qb (fun hg => ?_) (fun hg => ?_)
  · have hi' : i < max a.length b.length := by omega
    have hfi := hf i
    have htl : ((Qez g a b).take i).length = i := by rw [List.length_take, Qby]; omega
    have hset := fun v => Q0p (v := v) (z := (0 : Int)) htl (show 0 < max a.length b.length - i by omega)
    have hlen : i < ((Qez g a b).take i ++ List.replicate (max a.length b.length - i) (0 : Int)).length := by rw [List.length_append, htl, List.length_replicate]; omega
    have htk := Qmy (g := g) hi'
    have fin : ∀ x y, x = eN a i → y = eN b i → Qe Tryz.prog f [.int .i64 x, .int .i64 y] (· = .int .i64 (g (eN a i) (eN b i))) := by rintro _ _ rfl rfl; exact hfi
    simp +decide (disch := first | omega | rfl | (simp +decide only [go_sem, ↓reduceIte, h19] <;> rfl) | fail) only [go_sem, ↓reduceIte, h19]
    refine Qb (fun h1 => ?_) (fun h1 => ?_)
    · have h1' : i < a.length := by omega
      simp +decide (disch := first | omega | rfl | (simp +decide only [go_sem, ↓reduceIte, h19] <;> rfl) | fail) only [go_sem, ↓reduceIte, h19]
      refine Qb (fun h2 => ?_) (fun h2 => ?_)
      · have h2' : i < b.length := by omega
        simp +decide (disch := first | omega | rfl | (simp +decide only [go_sem, ↓reduceIte, h19] <;> rfl) | fail) only [go_sem, ↓reduceIte, h19]
        refine Qa hP (fin _ _ (Qcm h1').symm (Qcm h2').symm) rfl rfl rfl ?_
        simp +decide (disch := first | omega | rfl | (simp +decide only [go_sem, ↓reduceIte, h19, hset, ← htk] <;> rfl) | fail) only [go_sem, ↓reduceIte, h19, hset, ← htk]
        refine Qk (max a.length b.length - (i + 1)) (by omega) ⟨i + 1, rfl, by omega, ?_⟩
        simp +decide (disch := first | omega | rfl | (simp +decide only [go_sem, ↓reduceIte, Nat.sub_sub] <;> rfl) | fail) only [go_sem, ↓reduceIte, Nat.sub_sub]
      · simp +decide (disch := first | omega | rfl | (simp +decide only [go_sem, ↓reduceIte, h19] <;> rfl) | fail) only [go_sem, ↓reduceIte, h19]
        refine Qa hP (fin _ _ (Qcm h1').symm (Qb8 (by omega)).symm) rfl rfl rfl ?_
        simp +decide (disch := first | omega | rfl | (simp +decide only [go_sem, ↓reduceIte, h19, hset, ← htk] <;> rfl) | fail) only [go_sem, ↓reduceIte, h19, hset, ← htk]
        refine Qk (max a.length b.length - (i + 1)) (by omega) ⟨i + 1, rfl, by omega, ?_⟩
        simp +decide (disch := first | omega | rfl | (simp +decide only [go_sem, ↓reduceIte, Nat.sub_sub] <;> rfl) | fail) only [go_sem, ↓reduceIte, Nat.sub_sub]
    · simp +decide (disch := first | omega | rfl | (simp +decide only [go_sem, ↓reduceIte, h19] <;> rfl) | fail) only [go_sem, ↓reduceIte, h19]
      refine Qb (fun h2 => ?_) (fun h2 => by omega)
      have h2' : i < b.length := by omega
      simp +decide (disch := first | omega | rfl | (simp +decide only [go_sem, ↓reduceIte, h19] <;> rfl) | fail) only [go_sem, ↓reduceIte, h19]
      refine Qa hP (fin _ _ (Qb8 (by omega)).symm (Qcm h2').symm) rfl rfl rfl ?_
      simp +decide (disch := first | omega | rfl | (simp +decide only [go_sem, ↓reduceIte, h19, hset, ← htk] <;> rfl) | fail) only [go_sem, ↓reduceIte, h19, hset, ← htk]
      refine Qk (max a.length b.length - (i + 1)) (by omega) ⟨i + 1, rfl, by omega, ?_⟩
      simp +decide (disch := first | omega | rfl | (simp +decide only [go_sem, ↓reduceIte, Nat.sub_sub] <;> rfl) | fail) only [go_sem, ↓reduceIte, Nat.sub_sub]
  · obtain rfl : i = max a.length b.length := by omega
    simp +decide (disch := first | omega | rfl | (simp +decide only [go_sem, ↓reduceIte, Qd, List.contains_cons, List.contains_nil, List.flatMap_cons, List.flatMap_nil, List.append_nil] <;> rfl) | fail) only [go_sem, ↓reduceIte, Qd, List.contains_cons, List.contains_nil, List.flatMap_cons, List.flatMap_nil, List.append_nil]
    exact Qc (by simp [List.take_of_length_le, Qby]) rfl
theorem Qv7 {x y : Int} (h1 : -9223372036854775808 ≤ x + y) (h2 : x + y ≤ 9223372036854775807) : Qe Tryz.prog 169 [.int .i64 x, .int .i64 y] (· = .int .i64 (x + y)) := by
  refine Qg Ql Tryz.func169 rfl Q7p (by simp [Q4i]) fun C hP => ?_; simp only [Q4i]
  simp +decide (disch := first | omega | rfl | (simp +decide only [go_sem, ↓reduceIte] <;> rfl) | fail) only [go_sem, ↓reduceIte]
  exact Qc rfl rfl
theorem Qyi {k : Nat} {a b : List Int} (ha : MB k a) (hb : MB k b) (hk : k ≤ 1099511627776) : Qe Tryz.prog 143 [PV.mono a, PV.mono b] (· = PV.mono (Qar a b)) := by
  have h1 := ha.len
  have h2 := hb.len
  have hz := Qby (· + ·) a b
  refine Qg Ql Tryz.func143 rfl Q7o (by simp [Q4h]) fun C hP => ?_; simp only [Q4h]
  simp +decide (disch := first | omega | rfl | (simp +decide only [go_sem, ↓reduceIte] <;> rfl) | fail) only [go_sem, ↓reduceIte]
  refine Qa hP (Qkt (f := 169) (g := (· + ·)) (by omega) (by omega) (fun i => Qv7 (by have := ha.eN i; have := hb.eN i; omega) (by have := ha.eN i; have := hb.eN i; omega))) rfl rfl rfl ?_
  simp +decide (disch := first | omega | rfl | (simp +decide only [go_sem, ↓reduceIte] <;> rfl) | fail) only [go_sem, ↓reduceIte]
  refine Qa hP (Qom (by omega)) rfl rfl rfl ?_
  simp +decide (disch := first | omega | rfl | (simp +decide only [go_sem, ↓reduceIte] <;> rfl) | fail) only [go_sem, ↓reduceIte]
  exact Qc rfl rfl
theorem Qlv {k : Nat} {a b : List Int} {o : Int} (ha : MB k a) (hb : MB k b) (hk : k ≤ 1099511627776) : Qe Tryz.prog 48 [PV.mono a, PV.mono b, .int .i64 o] (· = .int .i64 (Qe0 o a b)) := by
  have h1 := ha.len
  have h2 := hb.len
  have hda : ∀ x ∈ a, 0 ≤ x ∧ x ≤ 1099511627776 := fun x hx => by have := ha.lo x hx; have := ha.hi x hx; omega
  have hdb : ∀ x ∈ b, 0 ≤ x ∧ x ≤ 1099511627776 := fun x hx => by have := hb.lo x hx; have := hb.hi x hx; omega
  refine Qg Ql Tryz.func48 rfl Qaaj (by simp [c48]) fun C hP => ?_; simp only [c48]
  simp +decide (disch := first | omega | rfl | (simp +decide only [go_sem, ↓reduceIte] <;> rfl) | fail) only [go_sem, ↓reduceIte]
  refine Qb (fun ho => ?_) (fun ho => ?_)
  · simp +decide (disch := first | omega | rfl | (simp +decide only [go_sem, ↓reduceIte] <;> rfl) | fail) only [go_sem, ↓reduceIte]
    refine Qa hP (Qma (by omega) hda) rfl rfl rfl ?_
    simp +decide (disch := first | omega | rfl | (simp +decide only [go_sem, ↓reduceIte] <;> rfl) | fail) only [go_sem, ↓reduceIte]
    refine Qa hP (Qma (by omega) hdb) rfl rfl rfl ?_
    simp +decide (disch := first | omega | rfl | (simp +decide only [go_sem, ↓reduceIte] <;> rfl) | fail) only [go_sem, ↓reduceIte]
    refine Qb (fun hd => ?_) (fun hd => ?_)
    · have hord : Qe0 o a b = Qcr (Qfn a) (Qfn b) := by unfold Qe0; rw [if_pos ⟨ho, hd⟩]
      simp +decide (disch := first | omega | rfl | (simp +decide only [go_sem, ↓reduceIte] <;> rfl) | fail) only [go_sem, ↓reduceIte]
      refine Qb (fun h5 => ?_) (fun h5 => ?_)
      · simp +decide (disch := first | omega | rfl | (simp +decide only [go_sem, ↓reduceIte] <;> rfl) | fail) only [go_sem, ↓reduceIte]
        exact Qc (by rw [hord, Qcr, if_pos h5]) rfl
      · simp +decide (disch := first | omega | rfl | (simp +decide only [go_sem, ↓reduceIte] <;> rfl) | fail) only [go_sem, ↓reduceIte]
        exact Qc (by rw [hord, Qcr, if_neg h5, if_pos (by omega)]) rfl
    have hord : Qe0 o a b = Qag a b := by unfold Qe0; rw [if_neg (fun h => hd h.2)]
    simp +decide (disch := first | omega | rfl | (simp +decide only [go_sem, ↓reduceIte] <;> rfl) | fail) only [go_sem, ↓reduceIte]
    refine Qx (by repeat (first | exact Qt | exact Qp | exact Qq | apply Qo | apply Qs | apply Qy | apply Q5 | apply Q6 | apply Qm)) [(6, 6), (9, 11), (30, 45)] [] (fun n J hp => n ≤ max a.length b.length ∧ Qbp a b n = Qag a b ∧ J 9 = .int .i64 ((n : Int) - 1) ∧ hp = hp0) (max a.length b.length) ?_ ?_
    · refine ⟨by omega, rfl, ?_⟩
      simp +decide (disch := first | omega | rfl | (simp +decide only [go_sem, ↓reduceIte] <;> rfl) | fail) only [go_sem, ↓reduceIte]
    rintro n J _ ⟨hn, hc, h9, rfl⟩
    simp +decide (disch := first | omega | rfl | (simp +decide only [go_sem, ↓reduceIte, h9] <;> rfl) | fail) only [go_sem, ↓reduceIte, h9]
    refine Qb (fun hg => ?_) (fun hg => ?_)
    · obtain _ | n := n
      · omega
      have e : ((n + 1 : Nat) : Int) - 1 = n := by omega
      rw [Qbp] at hc
      simp +decide (disch := first | omega | rfl | (simp +decide only [go_sem, ↓reduceIte, h9, e] <;> rfl) | fail) only [go_sem, ↓reduceIte, h9, e]
      refine Qa hP (Qhu (by omega)) rfl rfl rfl ?_
      simp +decide (disch := first | omega | rfl | (simp +decide only [go_sem, ↓reduceIte, h9, e] <;> rfl) | fail) only [go_sem, ↓reduceIte, h9, e]
      refine Qa hP (Qhu (by omega)) rfl rfl rfl ?_
      simp +decide (disch := first | omega | rfl | (simp +decide only [go_sem, ↓reduceIte, h9, e] <;> rfl) | fail) only [go_sem, ↓reduceIte, h9, e]
      refine Qb (fun h4 => ?_) (fun h4 => ?_)
      · rw [if_neg h4] at hc
        simp +decide (disch := first | omega | rfl | (simp +decide only [go_sem, ↓reduceIte, h9, e] <;> rfl) | fail) only [go_sem, ↓reduceIte, h9, e]
        refine Qb (fun h5 => ?_) (fun h5 => ?_)
        · simp +decide (disch := first | omega | rfl | (simp +decide only [go_sem, ↓reduceIte, h9, e] <;> rfl) | fail) only [go_sem, ↓reduceIte, h9, e]
          exact Qc (by rw [hord, ← hc, Qcr, if_pos h5]) rfl
        · simp +decide (disch := first | omega | rfl | (simp +decide only [go_sem, ↓reduceIte, h9, e] <;> rfl) | fail) only [go_sem, ↓reduceIte, h9, e]
          exact Qc (by rw [hord, ← hc, Qcr, if_neg h5, if_pos (by omega)]) rfl
      · rw [if_pos (by omega)] at hc
        simp +decide (disch := first | omega | rfl | (simp +decide only [go_sem, ↓reduceIte, h9, e] <;> rfl) | fail) only [go_sem, ↓reduceIte, h9, e]
        refine Qk n (by omega) ⟨by omega, hc, ?_⟩
        simp +decide (disch := first | omega | rfl | (simp +decide only [go_sem, ↓reduceIte] <;> rfl) | fail) only [go_sem, ↓reduceIte]
    · obtain rfl : n = 0 := by omega
      simp +decide (disch := first | omega | rfl | (simp +decide only [go_sem, ↓reduceIte] <;> rfl) | fail) only [go_sem, ↓reduceIte]
      exact Qc (by rw [hord, ← hc]; rfl) rfl
  · have hord : Qe0 o a b = Qag a b := by unfold Qe0; rw [if_neg (fun h => ho h.1)]
    simp +decide (disch := first | omega | rfl | (simp +decide only [go_sem, ↓reduceIte] <;> rfl) | fail) only [go_sem, ↓reduceIte]
    refine Qx (by repeat (first | exact Qt | exact Qp | exact Qq | apply Qo | apply Qs | apply Qy | apply Q5 | apply Q6 | apply Qm)) [(6, 6), (9, 11), (30, 45)] [] (fun n J hp => n ≤ max a.length b.length ∧ Qbp a b n = Qag a b ∧ J 9 = .int .i64 ((n : Int) - 1) ∧ hp = hp0) (max a.length b.length) ?_ ?_
    · refine ⟨by omega, rfl, ?_⟩
      simp +decide (disch := first | omega | rfl | (simp +decide only [go_sem, ↓reduceIte] <;> rfl) | fail) only [go_sem, ↓reduceIte]
    rintro n J _ ⟨hn, hc, h9, rfl⟩
    simp +decide (disch := first | omega | rfl | (simp +decide only [go_sem, ↓reduceIte, h9] <;> rfl) | fail) only [go_sem, ↓reduceIte, h9]
    refine Qb (fun hg => ?_) (fun hg => ?_)
    · obtain _ | n := n
      · omega
      have e : ((n + 1 : Nat) : Int) - 1 = n := by omega
      rw [Qbp] at hc
      simp +decide (disch := first | omega | rfl | (simp +decide only [go_sem, ↓reduceIte, h9, e] <;> rfl) | fail) only [go_sem, ↓reduceIte, h9, e]
      refine Qa hP (Qhu (by omega)) rfl rfl rfl ?_
      simp +decide (disch := first | omega | rfl | (simp +decide only [go_sem, ↓reduceIte, h9, e] <;> rfl) | fail) only [go_sem, ↓reduceIte, h9, e]
      refine Qa hP (Qhu (by omega)) rfl rfl rfl ?_
      simp +decide (disch := first | omega | rfl | (simp +decide only [go_sem, ↓reduceIte, h9, e] <;> rfl) | fail) only [go_sem, ↓reduceIte, h9, e]
      refine Qb (fun h4 => ?_) (fun h4 => ?_)
      · rw [if_neg h4] at hc
        simp +decide (disch := first | omega | rfl | (simp +decide only [go_sem, ↓reduceIte, h9, e] <;> rfl) | fail) only [go_sem, ↓reduceIte, h9, e]
        refine Qb (fun h5 => ?_) (fun h5 => ?_)
        · simp +decide (disch := first | omega | rfl | (simp +decide only [go_sem, ↓reduceIte, h9, e] <;> rfl) | fail) only [go_sem, ↓reduceIte, h9, e]
          exact Qc (by rw [hord, ← hc, Qcr, if_pos h5]) rfl
        · simp +decide (disch := first | omega | rfl | (simp +decide only [go_sem, ↓reduceIte, h9, e] <;> rfl) | fail) only [go_sem, ↓reduceIte, h9, e]
          exact Qc (by rw [hord, ← hc, Qcr, if_neg h5, if_pos (by omega)]) rfl
      · rw [if_pos (by omega)] at hc
        simp +decide (disch := first | omega | rfl | (simp +decide only [go_sem, ↓reduceIte, h9, e] <;> rfl) | fail) only [go_sem, ↓reduceIte, h9, e]
        refine Qk n (by omega) ⟨by omega, hc, ?_⟩
        simp +decide (disch := first | omega | rfl | (simp +decide only [go_sem, ↓reduceIte] <;> rfl) | fail) only [go_sem, ↓reduceIte]
    · obtain rfl : n = 0 := by omega
      simp +decide (disch := first | omega | rfl | (simp +decide only [go_sem, ↓reduceIte] <;> rfl) | fail) only [go_sem, ↓reduceIte]
      exact Qc (by rw [hord, ← hc]; rfl) rfl
end Go.Proofs.YtjkbalanglgoiaaGreat
namespace Go.Proofs.YtjkbalanglgoiaaGreat
open Go Go.FW
set_option linter.unusedSimpArgs false
set_option linter.unusedVariables false
set_option maxRecDepth 100000
theorem Qacr {a b : Rat} {k : Nat} (ha : rs a ≤ k) (hb : rs b ≤ k) (hk : k < 2 ^ 36) : Qe Tryz.prog 97 [PV.rat a, PV.rat b] (· = PV.rat (a + b)) := by
  have := Qsk (Qb4 ha) (Qb4 hb) hk
  rwa [Qcl, Qcl] at this
theorem Qacs {a b : Rat} {k : Nat} (ha : rs a ≤ k) (hb : rs b ≤ k) (hk : k < 2 ^ 36) : Qe Tryz.prog 142 [PV.rat a, PV.rat b] (· = PV.rat (a * b)) := by
  have := Q02 (Qb4 ha) (Qb4 hb) hk
  rwa [Qcl, Qcl] at this
theorem Qm2 {a : Rat} (ha : rs a < 2 ^ 36) : Qe Tryz.prog 59 [PV.rat a] (· = .int .i64 (Qiv a)) := by
  have := Qyh (Qb4 (Nat.le_refl (rs a))) ha
  rwa [Qcl] at this
theorem Qyj {s t : Tm} {E : Nat} (hs : MB E s.2) (ht : MB E t.2) (hE : E ≤ 2 ^ 38) : Qe Tryz.prog 90 [PV.term s, PV.term t] (· = .int .i64 (Qag s.2 t.2)) := by
  refine Qg Ql Tryz.func90 rfl Qaam (by simp [c90]) fun C hP => ?_; simp only [c90]
  simp +decide (disch := first | omega | rfl | (simp +decide only [go_sem, ↓reduceIte] <;> rfl) | fail) only [go_sem, ↓reduceIte]
  refine Qa hP (Qlv (o := 0) hs ht (by omega)) rfl rfl rfl ?_
  simp +decide (disch := first | omega | rfl | (simp +decide only [go_sem, ↓reduceIte] <;> rfl) | fail) only [go_sem, ↓reduceIte]
  exact Qc (by rw [Qmz]) rfl
theorem Qu4 {s t : Tm} {k : Nat} (hs : rs s.1 ≤ k) (ht : rs t.1 ≤ k) (hk : k < 2 ^ 34) : Qe Tryz.prog 91 [PV.term s, PV.term t] (· = .tup [PV.term (s.1 + t.1, s.2), .bool (decide (¬ s.1 + t.1 = 0))]) := by
  have hr := Qp8 s.1 t.1
  refine Qg Ql Tryz.func91 rfl Qaan (by simp [c91]) fun C hP => ?_; simp only [c91]
  simp +decide (disch := first | omega | rfl | (simp +decide only [go_sem, ↓reduceIte] <;> rfl) | fail) only [go_sem, ↓reduceIte]
  refine Qa hP (Qacr (a := s.1) (b := t.1) hs ht (by omega)) rfl rfl rfl ?_
  simp +decide (disch := first | omega | rfl | (simp +decide only [go_sem, ↓reduceIte] <;> rfl) | fail) only [go_sem, ↓reduceIte]
  refine Qa hP (Qm2 (a := s.1 + t.1) (by omega)) rfl rfl rfl ?_
  simp +decide (disch := first | omega | rfl | (simp +decide only [go_sem, ↓reduceIte] <;> rfl) | fail) only [go_sem, ↓reduceIte]
  refine Qjm ?_
  simp +decide (disch := first | omega | rfl | (simp +decide only [go_sem, ↓reduceIte] <;> rfl) | fail) only [go_sem, ↓reduceIte]
  exact Qfm rfl rfl rfl (Qn _) (Qe7 (congrArg PV.bool (decide_eq_decide.2 (not_congr Qbb))))
theorem Qmb {c : Rat} {m : List Int} (hc : rs c < 2 ^ 36) : Qe Tryz.prog 96 [PV.rat c, PV.mono m] (· = PV.poly (if c = 0 then [] else [(c, m)])) := by
  refine Qg Ql Tryz.func96 rfl Qaao (by simp [c96]) fun C hP => ?_; simp only [c96]
  simp +decide (disch := first | omega | rfl | (simp +decide only [go_sem, ↓reduceIte] <;> rfl) | fail) only [go_sem, ↓reduceIte]
  refine Qa hP (Qm2 (a := c) hc) rfl rfl rfl ?_
  simp +decide (disch := first | omega | rfl | (simp +decide only [go_sem, ↓reduceIte] <;> rfl) | fail) only [go_sem, ↓reduceIte]
  refine Qb (fun h0 => ?_) (fun h0 => ?_)
  · rw [if_pos (Qbb.1 h0)]
    simp +decide (disch := first | omega | rfl | (simp +decide only [go_sem, ↓reduceIte] <;> rfl) | fail) only [go_sem, ↓reduceIte]
    exact Qcu Qa7 rfl
  · rw [if_neg (fun h => h0 (Qbb.2 h))]
    simp +decide (disch := first | omega | rfl | (simp +decide only [go_sem, ↓reduceIte, Qd, List.contains_cons, List.contains_nil, List.flatMap_cons, List.flatMap_nil, List.append_nil] <;> rfl) | fail) only [go_sem, ↓reduceIte, Qd, List.contains_cons, List.contains_nil, List.flatMap_cons, List.flatMap_nil, List.append_nil]
    exact Qc rfl rfl
theorem Qu5 {p q : List Tm} {K E : Nat} (hp : PB K E p) (hq : PB K E q) (hK : K ≤ 2 ^ 33) (hE : E ≤ 2 ^ 38) (hlp : p.length ≤ 2 ^ 36) (hlq : q.length ≤ 2 ^ 36) :
    Qe Tryz.prog 89 [PV.poly p, PV.poly q, .fn 90 [] [], .fn 91 [] []] (· = PV.poly (Q3 p q)) := by
  refine Qg Ql Tryz.func89 rfl Qaal (by simp [c89]) fun C hP => ?_; simp only [c89]
  simp +decide (disch := first | omega | rfl | (simp +decide only [go_sem, ↓reduceIte] <;> rfl) | fail) only [go_sem, ↓reduceIte]
  refine Qx (by repeat (first | exact Qt | exact Qp | exact Qq | apply Qo | apply Qs | apply Qy | apply Q5 | apply Q6 | apply Qm)) [(9, 14), (21, 86)] [13, 20, 57, 58, 71, 72, 83, 84] (fun n J hp => ∃ i k out, n = (p.length - i) + (q.length - k) ∧ i ≤ p.length ∧ k ≤ q.length ∧ out.length ≤ i + k ∧ out ++ Q3 (p.drop i) (q.drop k) = Q3 p q ∧
    J 9 = .ms 20 out.length ∧ J 10 = .int .i64 (i : Nat) ∧ J 11 = .int .i64 (k : Nat) ∧ hp 20 = some ⟨4, 61, out.map PV.term, false⟩) (p.length + q.length) ?_ ?_
  · refine ⟨0, 0, [], by omega, by omega, by omega, by simp, rfl, ?_⟩
    simp +decide (disch := first | omega | rfl | (simp +decide only [go_sem, ↓reduceIte] <;> rfl) | fail) only [go_sem, ↓reduceIte]
    simp
  rintro _ J h ⟨i, k, out, rfl, hi, hk, hol, hpad, h9, h10, h11, hh⟩
  simp +decide (disch := first | omega | rfl | (simp +decide only [go_sem, ↓reduceIte, h9, h10, h11] <;> rfl) | fail) only [go_sem, ↓reduceIte, h9, h10, h11]
  refine Qal (fun hg => ?_) (fun hg => ?_)
  · have hi' : i < p.length := by omega
    simp +decide (disch := first | omega | rfl | (simp +decide only [go_sem, ↓reduceIte, h9, h10, h11] <;> rfl) | fail) only [go_sem, ↓reduceIte, h9, h10, h11]
    refine Qb (fun hg2 => ?_) (fun hg2 => ?_)
    · have hk' : k < q.length := by omega
      have htp := hp.get hi'
      have htq := hq.get hk'
      rw [Qsc hi' hk'] at hpad
      have c1 := htp.c
      have c2 := htq.c
      generalize hx : p[i] = x at *
      generalize hy : q[k] = y at *
      simp +decide (disch := first | omega | rfl | (simp +decide only [go_sem, ↓reduceIte, h9, h10, h11, hx, hy] <;> rfl) | fail) only [go_sem, ↓reduceIte, h9, h10, h11, hx, hy]
      refine Qa hP (Qyj (s := x) (t := y) htp.m htq.m hE) rfl rfl rfl ?_
      simp +decide (disch := first | omega | rfl | (simp +decide only [go_sem, ↓reduceIte, h9, h10, h11, hx, hy] <;> rfl) | fail) only [go_sem, ↓reduceIte, h9, h10, h11, hx, hy]
      refine Qb (fun hc => ?_) (fun hc => ?_)
      · rw [if_pos hc] at hpad
        simp +decide (disch := first | omega | rfl | (simp +decide only [go_sem, ↓reduceIte, h9, h10, h11, hx, hy] <;> rfl) | fail) only [go_sem, ↓reduceIte, h9, h10, h11, hx, hy]
        rw [Q9 (f := PV.term) (y := x) (xs := out) (ty' := 61) (fz := false) (by simp +decide (disch := first | omega | rfl | (simp +decide only [go_sem, ↓reduceIte, hh] <;> rfl) | fail) only [go_sem, ↓reduceIte, hh]) (by simp +decide (disch := first | omega | rfl | (simp +decide only [go_sem, ↓reduceIte] <;> rfl) | fail) only [go_sem, ↓reduceIte] <;> rfl) (by omega) rfl (by omega) (by omega)]
        simp +decide (disch := first | omega | rfl | (simp +decide only [go_sem, ↓reduceIte, h9, h10, h11, hx, hy] <;> rfl) | fail) only [go_sem, ↓reduceIte, h9, h10, h11, hx, hy]
        refine Qk ((p.length - (i + 1)) + (q.length - k)) (by omega) ⟨i + 1, k, out ++ [x], rfl, by omega, hk, by simp; omega, by simpa using hpad, ?_⟩
        simp +decide (disch := first | omega | rfl | (simp +decide only [go_sem, ↓reduceIte, h9, h10, h11] <;> rfl) | fail) only [go_sem, ↓reduceIte, h9, h10, h11]
        simp
      rw [if_neg hc] at hpad
      simp +decide (disch := first | omega | rfl | (simp +decide only [go_sem, ↓reduceIte, h9, h10, h11, hx, hy] <;> rfl) | fail) only [go_sem, ↓reduceIte, h9, h10, h11, hx, hy]
      refine Qb (fun hc2 => ?_) (fun hc2 => ?_)
      · rw [if_pos hc2] at hpad
        simp +decide (disch := first | omega | rfl | (simp +decide only [go_sem, ↓reduceIte, h9, h10, h11, hx, hy] <;> rfl) | fail) only [go_sem, ↓reduceIte, h9, h10, h11, hx, hy]
        rw [Q9 (f := PV.term) (y := y) (xs := out) (ty' := 61) (fz := false) (by simp +decide (disch := first | omega | rfl | (simp +decide only [go_sem, ↓reduceIte, hh] <;> rfl) | fail) only [go_sem, ↓reduceIte, hh]) (by simp +decide (disch := first | omega | rfl | (simp +decide only [go_sem, ↓reduceIte] <;> rfl) | fail) only [go_sem, ↓reduceIte] <;> rfl) (by omega) rfl (by omega) (by omega)]
        simp +decide (disch := first | omega | rfl | (simp +decide only [go_sem, ↓reduceIte, h9, h10, h11, hx, hy] <;> rfl) | fail) only [go_sem, ↓reduceIte, h9, h10, h11, hx, hy]
        refine Qk ((p.length - i) + (q.length - (k + 1))) (by omega) ⟨i, k + 1, out ++ [y], rfl, hi, by omega, by simp; omega, by simpa using hpad, ?_⟩
        simp +decide (disch := first | omega | rfl | (simp +decide only [go_sem, ↓reduceIte, h9, h10, h11] <;> rfl) | fail) only [go_sem, ↓reduceIte, h9, h10, h11]
        simp
      rw [if_neg hc2] at hpad
      simp +decide (disch := first | omega | rfl | (simp +decide only [go_sem, ↓reduceIte, h9, h10, h11, hx, hy] <;> rfl) | fail) only [go_sem, ↓reduceIte, h9, h10, h11, hx, hy]
      refine Qeh ?_ ?_
      all_goals
        simp +decide (disch := first | omega | rfl | (simp +decide only [go_sem, ↓reduceIte, h9, h10, h11, hx, hy] <;> rfl) | fail) only [go_sem, ↓reduceIte, h9, h10, h11, hx, hy]
        refine Qa hP (Qu4 (s := x) (t := y) (k := 2 ^ 33) (by omega) (by omega) (by omega)) rfl rfl rfl ?_
        simp +decide (disch := first | omega | rfl | (simp +decide only [go_sem, ↓reduceIte, h9, h10, h11, hx, hy] <;> rfl) | fail) only [go_sem, ↓reduceIte, h9, h10, h11, hx, hy]
        refine Qb (fun hz => ?_) (fun hz => ?_)
        · rw [if_neg hz] at hpad
          simp +decide (disch := first | omega | rfl | (simp +decide only [go_sem, ↓reduceIte, h9, h10, h11, hx, hy] <;> rfl) | fail) only [go_sem, ↓reduceIte, h9, h10, h11, hx, hy]
          rw [Q9 (f := PV.term) (y := (x.1 + y.1, x.2)) (xs := out) (ty' := 61) (fz := false) (by simp +decide (disch := first | omega | rfl | (simp +decide only [go_sem, ↓reduceIte, hh] <;> rfl) | fail) only [go_sem, ↓reduceIte, hh]) (by simp +decide (disch := first | omega | rfl | (simp +decide only [go_sem, ↓reduceIte] <;> rfl) | fail) only [go_sem, ↓reduceIte] <;> rfl) (by omega) rfl (by omega) (by omega)]
          simp +decide (disch := first | omega | rfl | (simp +decide only [go_sem, ↓reduceIte, h9, h10, h11, hx, hy] <;> rfl) | fail) only [go_sem, ↓reduceIte, h9, h10, h11, hx, hy]
          refine Qk ((p.length - (i + 1)) + (q.length - (k + 1))) (by omega) ⟨i + 1, k + 1, out ++ [(x.1 + y.1, x.2)], rfl, by omega, by omega, by simp; omega, by simpa using hpad, ?_⟩
          simp +decide (disch := first | omega | rfl | (simp +decide only [go_sem, ↓reduceIte, h9, h10, h11] <;> rfl) | fail) only [go_sem, ↓reduceIte, h9, h10, h11]
          simp
        · rw [if_pos (Decidable.not_not.1 hz)] at hpad
          simp +decide (disch := first | omega | rfl | (simp +decide only [go_sem, ↓reduceIte, h9, h10, h11, hx, hy] <;> rfl) | fail) only [go_sem, ↓reduceIte, h9, h10, h11, hx, hy]
          refine Qk ((p.length - (i + 1)) + (q.length - (k + 1))) (by omega) ⟨i + 1, k + 1, out, rfl, by omega, by omega, by omega, hpad, ?_⟩
          simp +decide (disch := first | omega | rfl | (simp +decide only [go_sem, ↓reduceIte, h9, h10, h11, hh] <;> rfl) | fail) only [go_sem, ↓reduceIte, h9, h10, h11, hh]
    · have hfin : (out ++ p.drop i ++ q.drop k).take (out.length + (p.drop i).length + (q.drop k).length) = Q3 p q := by
        rw [List.take_of_length_le (by simp; omega), ← hpad, List.drop_of_length_le (by omega : q.length ≤ k), Qcn, List.append_nil]
      simp +decide (disch := first | omega | rfl | (simp +decide only [go_sem, ↓reduceIte, h9, h10, h11] <;> rfl) | fail) only [go_sem, ↓reduceIte, h9, h10, h11]
      rw [Qcw (f := PV.term) (xs := out) (ys := p.drop i) (by simp +decide (disch := first | omega | rfl | (simp +decide only [go_sem, ↓reduceIte, hh] <;> rfl) | fail) only [go_sem, ↓reduceIte, hh]) rfl (by omega) (by simp; omega) (by simp; omega)]
      simp +decide (disch := first | omega | rfl | (simp +decide only [go_sem, ↓reduceIte, h9, h10, h11] <;> rfl) | fail) only [go_sem, ↓reduceIte, h9, h10, h11]
      rw [Qcw (f := PV.term) (xs := out ++ p.drop i) (ys := q.drop k) (by simp +decide (disch := first | omega | rfl | (simp +decide only [go_sem, ↓reduceIte] <;> rfl) | fail) only [go_sem, ↓reduceIte]) (by simp) (by omega) (by simp; omega) (by simp; omega)]
      simp +decide (disch := first | omega | rfl | (simp +decide only [go_sem, ↓reduceIte, h9, h10, h11, Qd, List.contains_cons, List.contains_nil, List.flatMap_cons, List.flatMap_nil, List.append_nil] <;> rfl) | fail) only [go_sem, ↓reduceIte, h9, h10, h11, Qd, List.contains_cons, List.contains_nil, List.flatMap_cons, List.flatMap_nil, List.append_nil]
      exact Qc (by rw [← List.map_take, hfin]) rfl
  · have hfin : (out ++ p.drop i ++ q.drop k).take (out.length + (p.drop i).length + (q.drop k).length) = Q3 p q := by
      rw [List.take_of_length_le (by simp; omega), ← hpad, List.drop_of_length_le (by omega : p.length ≤ i), Qfa, List.append_nil]
    simp +decide (disch := first | omega | rfl | (simp +decide only [go_sem, ↓reduceIte, h9, h10, h11] <;> rfl) | fail) only [go_sem, ↓reduceIte, h9, h10, h11]
    rw [Qcw (f := PV.term) (xs := out) (ys := p.drop i) (by simp +decide (disch := first | omega | rfl | (simp +decide only [go_sem, ↓reduceIte, hh] <;> rfl) | fail) only [go_sem, ↓reduceIte, hh]) rfl (by omega) (by simp; omega) (by simp; omega)]
    simp +decide (disch := first | omega | rfl | (simp +decide only [go_sem, ↓reduceIte, h9, h10, h11] <;> rfl) | fail) only [go_sem, ↓reduceIte, h9, h10, h11]
    rw [Qcw (f := PV.term) (xs := out ++ p.drop i) (ys := q.drop k) (by simp +decide (disch := first | omega | rfl | (simp +decide only [go_sem, ↓reduceIte] <;> rfl) | fail) only [go_sem, ↓reduceIte]) (by simp) (by omega) (by simp; omega) (by simp; omega)]
    simp +decide (disch := first | omega | rfl | (simp +decide only [go_sem, ↓reduceIte, h9, h10, h11, Qd, List.contains_cons, List.contains_nil, List.flatMap_cons, List.flatMap_nil, List.append_nil] <;> rfl) | fail) only [go_sem, ↓reduceIte, h9, h10, h11, Qd, List.contains_cons, List.contains_nil, List.flatMap_cons, List.flatMap_nil, List.append_nil]
    exact Qc (by rw [← List.map_take, hfin]) rfl
theorem Qib {p q : List Tm} {K E : Nat} (hp : PB K E p) (hq : PB K E q) (hK : K ≤ 2 ^ 33) (hE : E ≤ 2 ^ 38) (hlp : p.length ≤ 2 ^ 36) (hlq : q.length ≤ 2 ^ 36) :
    Qe Tryz.prog 38 [PV.poly p, PV.poly q] (· = PV.poly (Q3 p q)) := by
  refine Qg Ql Tryz.func38 rfl Qaas (by simp [c38]) fun C hP => ?_; simp only [c38]
  simp +decide (disch := first | omega | rfl | (simp +decide only [go_sem, ↓reduceIte] <;> rfl) | fail) only [go_sem, ↓reduceIte]
  refine Qa hP (Qu5 hp hq hK hE hlp hlq) rfl rfl rfl ?_
  simp +decide (disch := first | omega | rfl | (simp +decide only [go_sem, ↓reduceIte] <;> rfl) | fail) only [go_sem, ↓reduceIte]
  exact Qc rfl rfl
end Go.Proofs.YtjkbalanglgoiaaGreat
namespace Go.Proofs.YtjkbalanglgoiaaGreat
open Go Go.FW
set_option linter.unusedSimpArgs false
set_option linter.unusedVariables false
set_option maxRecDepth 100000
theorem Qqi {K E : Nat} (hE : E ≤ 2 ^ 38) : ∀ (n : Nat) (l : List (List Tm)), l.length ≤ n → (∀ p ∈ l, PB K E p) → l.length * K ≤ 2 ^ 33 → l.length ≤ 2 ^ 36 → Qll l ≤ 2 ^ 36 → Qe Tryz.prog 84 [PV.polys l] (· = PV.poly (Qca l)) := by
  intro n
  induction n with
  | zero =>
    intro l hl _ _ _ _
    have : l = [] := List.length_eq_zero_iff.1 (by omega)
    subst this
    refine Qg Ql Tryz.func84 rfl Q01 (by simp [c84]) fun C hP => ?_; simp only [c84]
    simp +decide (disch := first | omega | rfl | (simp +decide only [go_sem, ↓reduceIte, List.map_nil, List.length_nil] <;> rfl) | fail) only [go_sem, ↓reduceIte, List.map_nil, List.length_nil]
    exact Qcu (Qhs (by rw [Qca])) rfl
  | succ n ih =>
    intro l hl hb hK hll hpl
    refine Qg Ql Tryz.func84 rfl Q01 (by simp [c84]) fun C hP => ?_; simp only [c84]
    simp +decide (disch := first | omega | rfl | (simp +decide only [go_sem, ↓reduceIte] <;> rfl) | fail) only [go_sem, ↓reduceIte]
    refine Qb (fun h0 => ?_) (fun h0 => ?_)
    · have : l = [] := List.length_eq_zero_iff.1 (by omega)
      subst this
      simp +decide (disch := first | omega | rfl | (simp +decide only [go_sem, ↓reduceIte] <;> rfl) | fail) only [go_sem, ↓reduceIte]
      exact Qcu (Qhs (by rw [Qca])) rfl
    simp +decide (disch := first | omega | rfl | (simp +decide only [go_sem, ↓reduceIte] <;> rfl) | fail) only [go_sem, ↓reduceIte]
    refine Qb (fun h1 => ?_) (fun h1 => ?_)
    · obtain ⟨p, rfl⟩ : ∃ p, l = [p] := List.length_eq_one_iff.1 (by omega)
      simp +decide (disch := first | omega | rfl | (simp +decide only [go_sem, ↓reduceIte, List.map_cons, List.map_nil] <;> rfl) | fail) only [go_sem, ↓reduceIte, List.map_cons, List.map_nil]
      exact Qc (by rw [Qca]; rfl) rfl
    have h2 : 2 ≤ l.length := by omega
    have hs := Qqa l (l.length / 2)
    have e : (2 : Int) = ((2 : Nat) : Int) := rfl
    have hq : ∀ d fr hp K, Qav .quo false (.int .i64 (l.length : Int)) (.int .i64 2) d fr hp K = K (upd fr d (.int .i64 ((l.length / 2 : Nat) : Int))) hp := fun d fr hp K => by
      rw [e, Qre (by omega) (by omega)]
    have b1 := Qlm (K := K) (E := E) _ (l.take (l.length / 2)) (Nat.le_refl _) (fun p hp => hb p (List.mem_of_mem_take hp))
    have b2 := Qlm (K := K) (E := E) _ (l.drop (l.length / 2)) (Nat.le_refl _) (fun p hp => hb p (List.mem_of_mem_drop hp))
    have l1 : (l.take (l.length / 2)).length * K ≤ l.length * K := Nat.mul_le_mul_right _ (by rw [List.length_take]; omega)
    have l2 : (l.drop (l.length / 2)).length * K ≤ l.length * K := Nat.mul_le_mul_right _ (by rw [List.length_drop]; omega)
    simp +decide (disch := first | omega | rfl | (simp +decide only [go_sem, ↓reduceIte, hq] <;> rfl) | fail) only [go_sem, ↓reduceIte, hq]
    refine Qa hP (ih (l.take (l.length / 2)) (by rw [List.length_take]; omega) (fun p hp => hb p (List.mem_of_mem_take hp)) (by omega) (by rw [List.length_take]; omega) (by omega)) rfl rfl rfl ?_
    simp +decide (disch := first | omega | rfl | (simp +decide only [go_sem, ↓reduceIte, hq] <;> rfl) | fail) only [go_sem, ↓reduceIte, hq]
    refine Qa hP (ih (l.drop (l.length / 2)) (by rw [List.length_drop]; omega) (fun p hp => hb p (List.mem_of_mem_drop hp)) (by omega) (by rw [List.length_drop]; omega) (by omega)) rfl rfl rfl ?_
    simp +decide (disch := first | omega | rfl | (simp +decide only [go_sem, ↓reduceIte, hq] <;> rfl) | fail) only [go_sem, ↓reduceIte, hq]
    refine Qa hP (Qib (b1.1.mono (K' := l.length * K) l1 (Nat.le_refl _)) (b2.1.mono l2 (Nat.le_refl _)) hK hE (by omega) (by omega)) rfl rfl rfl ?_
    simp +decide (disch := first | omega | rfl | (simp +decide only [go_sem, ↓reduceIte] <;> rfl) | fail) only [go_sem, ↓reduceIte]
    exact Qc (by rw [Qhq h2]) rfl
theorem Qj6 {p : List Tm} {t : Tm} {i : Nat} (h : i < p.length) : Q8 (p.take (i + 1)) t = Q8 (p.take i) t ++ (if p[i].1 * t.1 = 0 then [] else [(p[i].1 * t.1, Qar p[i].2 t.2)]) := by
  rw [List.take_succ_eq_append_getElem h, Q8, List.filterMap_append, Q8]
  congr 1
  simp only [List.filterMap_cons, List.filterMap_nil]
  split <;> split <;> simp_all
theorem Qi0 {p : List Tm} {t : Tm} {K E : Nat} (hp : PB K E p) (ht : TB K E t) (hK : K ≤ 2 ^ 33) (hE : E ≤ 2 ^ 38) (hlp : p.length ≤ 2 ^ 36) :
    Qe Tryz.prog 83 [PV.poly p, PV.term t] (· = PV.poly (Q8 p t)) := by
  refine Qg Ql Tryz.func83 rfl Qaau (by simp [c83]) fun C hP => ?_; simp only [c83]
  simp +decide (disch := first | omega | rfl | (simp +decide only [go_sem, ↓reduceIte] <;> rfl) | fail) only [go_sem, ↓reduceIte]
  refine Qx (by repeat (first | exact Qt | exact Qp | exact Qq | apply Qo | apply Qs | apply Qy | apply Q5 | apply Q6 | apply Qm)) [(5, 5), (7, 8), (14, 36)] [7, 8, 11, 34, 35] (fun n J hp => ∃ i, n = p.length - i ∧ i ≤ p.length ∧ J 5 = .ms 11 (Q8 (p.take i) t).length ∧ J 14 = .int .i64 (i : Nat) ∧ hp 3 = some ⟨4, 61, [PV.term t], false⟩ ∧ hp 11 = some ⟨4, 61, (Q8 (p.take i) t).map PV.term, false⟩) p.length ?_ ?_
  · refine ⟨0, rfl, by omega, ?_⟩
    simp +decide (disch := first | omega | rfl | (simp +decide only [go_sem, ↓reduceIte] <;> rfl) | fail) only [go_sem, ↓reduceIte]
    simp [Q8]
  rintro _ J h ⟨i, rfl, hi, h5, h14, hh3, hh11⟩
  simp +decide (disch := first | omega | rfl | (simp +decide only [go_sem, ↓reduceIte, h5, h14] <;> rfl) | fail) only [go_sem, ↓reduceIte, h5, h14]
  refine Qb (fun hg => ?_) (fun hg => ?_)
  · have hi' : i < p.length := by omega
    have htp := hp.get hi'
    have htk := Qj6 (t := t) hi'
    have hlen := Qc0 (p.take i) t
    rw [List.length_take] at hlen
    have c1 := htp.c
    have c2 := ht.c
    have hrm := Quo p[i].1 t.1
    generalize hx : p[i] = x at *
    simp +decide (disch := first | omega | rfl | (simp +decide only [go_sem, ↓reduceIte, h5, h14, hh3, hx] <;> rfl) | fail) only [go_sem, ↓reduceIte, h5, h14, hh3, hx]
    refine Qa hP (Qacs (a := x.1) (b := t.1) (k := 2 ^ 33) (by omega) (by omega) (by omega)) rfl rfl rfl ?_
    simp +decide (disch := first | omega | rfl | (simp +decide only [go_sem, ↓reduceIte, h5, h14, hh3, hx] <;> rfl) | fail) only [go_sem, ↓reduceIte, h5, h14, hh3, hx]
    refine Qa hP (Qm2 (a := x.1 * t.1) (by omega)) rfl rfl rfl ?_
    simp +decide (disch := first | omega | rfl | (simp +decide only [go_sem, ↓reduceIte, h5, h14, hh3, hx] <;> rfl) | fail) only [go_sem, ↓reduceIte, h5, h14, hh3, hx]
    refine Qb (fun hz => ?_) (fun hz => ?_)
    · rw [if_neg (fun h => hz (Qbb.2 h))] at htk
      simp +decide (disch := first | omega | rfl | (simp +decide only [go_sem, ↓reduceIte, h5, h14, hh3, hx] <;> rfl) | fail) only [go_sem, ↓reduceIte, h5, h14, hh3, hx]
      refine Qa hP (Qyi htp.m ht.m (by omega)) rfl rfl rfl ?_
      simp +decide (disch := first | omega | rfl | (simp +decide only [go_sem, ↓reduceIte, h5, h14, hh3, hx] <;> rfl) | fail) only [go_sem, ↓reduceIte, h5, h14, hh3, hx]
      rw [Q9 (f := PV.term) (y := (x.1 * t.1, Qar x.2 t.2)) (xs := Q8 (p.take i) t) (ty' := 61) (fz := false) (by simp +decide (disch := first | omega | rfl | (simp +decide only [go_sem, ↓reduceIte, hh11] <;> rfl) | fail) only [go_sem, ↓reduceIte, hh11]) (by simp +decide (disch := first | omega | rfl | (simp +decide only [go_sem, ↓reduceIte] <;> rfl) | fail) only [go_sem, ↓reduceIte] <;> rfl) (by omega) rfl (by omega) (by omega)]
      rw [← htk]
      simp +decide (disch := first | omega | rfl | (simp +decide only [go_sem, ↓reduceIte, h5, h14, hh3, hx] <;> rfl) | fail) only [go_sem, ↓reduceIte, h5, h14, hh3, hx]
      refine Qk (p.length - (i + 1)) (by omega) ⟨i + 1, rfl, by omega, ?_⟩
      rw [htk]
      simp +decide (disch := first | omega | rfl | (simp +decide only [go_sem, ↓reduceIte, h5, h14, hh3, List.length_append] <;> rfl) | fail) only [go_sem, ↓reduceIte, h5, h14, hh3, List.length_append]
    · rw [if_pos (Qbb.1 (Decidable.not_not.1 hz)), List.append_nil] at htk
      simp +decide (disch := first | omega | rfl | (simp +decide only [go_sem, ↓reduceIte, h5, h14, hh3, hx] <;> rfl) | fail) only [go_sem, ↓reduceIte, h5, h14, hh3, hx]
      refine Qk (p.length - (i + 1)) (by omega) ⟨i + 1, rfl, by omega, ?_⟩
      rw [htk]
      simp +decide (disch := first | omega | rfl | (simp +decide only [go_sem, ↓reduceIte, h5, h14, hh3, hh11] <;> rfl) | fail) only [go_sem, ↓reduceIte, h5, h14, hh3, hh11]
  · obtain rfl : i = p.length := by omega
    rw [List.take_length] at h5 hh11
    simp +decide (disch := first | omega | rfl | (simp +decide only [go_sem, ↓reduceIte, h5, hh11, Qd, List.contains_cons, List.contains_nil, List.flatMap_cons, List.flatMap_nil, List.append_nil] <;> rfl) | fail) only [go_sem, ↓reduceIte, h5, hh11, Qd, List.contains_cons, List.contains_nil, List.flatMap_cons, List.flatMap_nil, List.append_nil]
    exact Qc (by simp [List.take_of_length_le]) rfl
theorem Qdp {p q : List Tm} {K E : Nat} (hp : PB K E p) (hq : PB K E q) (hE : E ≤ 2 ^ 37) (hlp : p.length ≤ 2 ^ 30) (hlq : q.length ≤ 2 ^ 30) (hlm : p.length * q.length ≤ 2 ^ 36) (hK : min p.length q.length * (K + K) ≤ 2 ^ 33) (hK2 : K ≤ 2 ^ 33) :
    Qe Tryz.prog 32 [PV.poly p, PV.poly q] (· = PV.poly (Qay p q)) := by
  have main : ∀ (p q : List Tm), PB K E p → PB K E q → p.length ≤ 2 ^ 30 → q.length ≤ 2 ^ 30 → p.length * q.length ≤ 2 ^ 36 → p.length * (K + K) ≤ 2 ^ 33 → p.length ≤ q.length → True := fun _ _ _ _ _ _ _ _ _ => trivial
  refine Qg Ql Tryz.func32 rfl Qaav (by simp [c32]) fun C hP => ?_; simp only [c32]
  simp +decide (disch := first | omega | rfl | (simp +decide only [go_sem, ↓reduceIte] <;> rfl) | fail) only [go_sem, ↓reduceIte]
  refine Qb (fun hg => ?_) (fun hg => ?_)
  · have hfin : Qhc q p = Qay p q := by rw [Qay, if_pos (by omega)]
    have hK3 : q.length * (K + K) ≤ 2 ^ 33 := by rw [Nat.min_eq_right (by omega)] at hK; exact hK
    have hlm2 : q.length * p.length ≤ 2 ^ 36 := by rw [Nat.mul_comm]; exact hlm
    simp +decide (disch := first | omega | rfl | (simp +decide only [go_sem, ↓reduceIte] <;> rfl) | fail) only [go_sem, ↓reduceIte]
    refine Qx (by repeat (first | exact Qt | exact Qp | exact Qq | apply Qo | apply Qs | apply Qy | apply Q5 | apply Q6 | apply Qm)) [(5, 5), (7, 7), (20, 30)] [7, 17, 28, 29] (fun n J hp => ∃ i, n = q.length - i ∧ i ≤ q.length ∧ J 5 = .ms 17 i ∧ J 20 = .int .i64 (i : Nat) ∧ hp 17 = some ⟨1, 23, ((q.take i).map (Q8 p)).map PV.poly, false⟩) q.length ?_ ?_
    · refine ⟨0, rfl, by omega, ?_⟩
      simp +decide (disch := first | omega | rfl | (simp +decide only [go_sem, ↓reduceIte] <;> rfl) | fail) only [go_sem, ↓reduceIte]
      simp
    rintro _ J h ⟨i, rfl, hi, h5, h20, hh⟩
    simp +decide (disch := first | omega | rfl | (simp +decide only [go_sem, ↓reduceIte, h5, h20] <;> rfl) | fail) only [go_sem, ↓reduceIte, h5, h20]
    refine Qb (fun hg2 => ?_) (fun hg2 => ?_)
    · have hi' : i < q.length := by omega
      have htp := hq.get hi'
      have htk : (q.take (i + 1)).map (Q8 p) = (q.take i).map (Q8 p) ++ [Q8 p q[i]] := by
        rw [List.take_succ_eq_append_getElem hi', List.map_append]; rfl
      generalize hx : q[i] = x at *
      simp +decide (disch := first | omega | rfl | (simp +decide only [go_sem, ↓reduceIte, h5, h20, hx] <;> rfl) | fail) only [go_sem, ↓reduceIte, h5, h20, hx]
      refine Qa hP (Qi0 (t := x) hp htp hK2 (by omega) (by omega)) rfl rfl rfl ?_
      simp +decide (disch := first | omega | rfl | (simp +decide only [go_sem, ↓reduceIte, h5, h20, hx] <;> rfl) | fail) only [go_sem, ↓reduceIte, h5, h20, hx]
      rw [Q9 (f := PV.poly) (y := Q8 p x) (xs := (q.take i).map (Q8 p)) (ty' := 23) (fz := false) (by simp +decide (disch := first | omega | rfl | (simp +decide only [go_sem, ↓reduceIte, hh] <;> rfl) | fail) only [go_sem, ↓reduceIte, hh]) (by simp +decide (disch := first | omega | rfl | (simp +decide only [go_sem, ↓reduceIte] <;> rfl) | fail) only [go_sem, ↓reduceIte] <;> rfl) (by omega) (by simp; omega) (by omega) (by omega)]
      rw [← htk]
      simp +decide (disch := first | omega | rfl | (simp +decide only [go_sem, ↓reduceIte, h5, h20, hx] <;> rfl) | fail) only [go_sem, ↓reduceIte, h5, h20, hx]
      refine Qk (q.length - (i + 1)) (by omega) ⟨i + 1, rfl, by omega, ?_⟩
      simp +decide (disch := first | omega | rfl | (simp +decide only [go_sem, ↓reduceIte, h5, h20] <;> rfl) | fail) only [go_sem, ↓reduceIte, h5, h20]
    · obtain rfl : i = q.length := by omega
      rw [List.take_length] at hh
      have hpl := Qg2 q p
      simp +decide (disch := first | omega | rfl | (simp +decide only [go_sem, ↓reduceIte, h5, hh] <;> rfl) | fail) only [go_sem, ↓reduceIte, h5, hh]
      refine Qbg hP (Qqi (K := K + K) (E := E + E) (by omega) _ (q.map (Q8 p)) (Nat.le_refl _) (fun x hx => by
        obtain ⟨t, ht, rfl⟩ := List.mem_map.1 hx
        exact Qf4 hp (hq t ht)) (by rw [List.length_map]; omega) (by rw [List.length_map]; omega) (by omega)) (by simp +decide (disch := first | omega | rfl | (simp +decide only [go_sem, ↓reduceIte, hh, Qd, List.contains_cons, List.contains_nil, List.flatMap_cons, List.flatMap_nil, List.append_nil] <;> rfl) | fail) only [go_sem, ↓reduceIte, hh, Qd, List.contains_cons, List.contains_nil, List.flatMap_cons, List.flatMap_nil, List.append_nil]; simp [List.take_of_length_le]) rfl ?_
      simp +decide (disch := first | omega | rfl | (simp +decide only [go_sem, ↓reduceIte] <;> rfl) | fail) only [go_sem, ↓reduceIte]
      exact Qc (congrArg PV.poly hfin) rfl
  · have hfin : Qhc p q = Qay p q := by rw [Qay, if_neg (by omega)]
    have hK3 : p.length * (K + K) ≤ 2 ^ 33 := by rw [Nat.min_eq_left (by omega)] at hK; exact hK
    simp +decide (disch := first | omega | rfl | (simp +decide only [go_sem, ↓reduceIte] <;> rfl) | fail) only [go_sem, ↓reduceIte]
    refine Qx (by repeat (first | exact Qt | exact Qp | exact Qq | apply Qo | apply Qs | apply Qy | apply Q5 | apply Q6 | apply Qm)) [(5, 5), (7, 7), (20, 30)] [7, 17, 28, 29] (fun n J hp => ∃ i, n = p.length - i ∧ i ≤ p.length ∧ J 5 = .ms 17 i ∧ J 20 = .int .i64 (i : Nat) ∧ hp 17 = some ⟨1, 23, ((p.take i).map (Q8 q)).map PV.poly, false⟩) p.length ?_ ?_
    · refine ⟨0, rfl, by omega, ?_⟩
      simp +decide (disch := first | omega | rfl | (simp +decide only [go_sem, ↓reduceIte] <;> rfl) | fail) only [go_sem, ↓reduceIte]
      simp
    rintro _ J h ⟨i, rfl, hi, h5, h20, hh⟩
    simp +decide (disch := first | omega | rfl | (simp +decide only [go_sem, ↓reduceIte, h5, h20] <;> rfl) | fail) only [go_sem, ↓reduceIte, h5, h20]
    refine Qb (fun hg2 => ?_) (fun hg2 => ?_)
    · have hi' : i < p.length := by omega
      have htp := hp.get hi'
      have htk : (p.take (i + 1)).map (Q8 q) = (p.take i).map (Q8 q) ++ [Q8 q p[i]] := by
        rw [List.take_succ_eq_append_getElem hi', List.map_append]; rfl
      generalize hx : p[i] = x at *
      simp +decide (disch := first | omega | rfl | (simp +decide only [go_sem, ↓reduceIte, h5, h20, hx] <;> rfl) | fail) only [go_sem, ↓reduceIte, h5, h20, hx]
      refine Qa hP (Qi0 (t := x) hq htp hK2 (by omega) (by omega)) rfl rfl rfl ?_
      simp +decide (disch := first | omega | rfl | (simp +decide only [go_sem, ↓reduceIte, h5, h20, hx] <;> rfl) | fail) only [go_sem, ↓reduceIte, h5, h20, hx]
      rw [Q9 (f := PV.poly) (y := Q8 q x) (xs := (p.take i).map (Q8 q)) (ty' := 23) (fz := false) (by simp +decide (disch := first | omega | rfl | (simp +decide only [go_sem, ↓reduceIte, hh] <;> rfl) | fail) only [go_sem, ↓reduceIte, hh]) (by simp +decide (disch := first | omega | rfl | (simp +decide only [go_sem, ↓reduceIte] <;> rfl) | fail) only [go_sem, ↓reduceIte] <;> rfl) (by omega) (by simp; omega) (by omega) (by omega)]
      rw [← htk]
      simp +decide (disch := first | omega | rfl | (simp +decide only [go_sem, ↓reduceIte, h5, h20, hx] <;> rfl) | fail) only [go_sem, ↓reduceIte, h5, h20, hx]
      refine Qk (p.length - (i + 1)) (by omega) ⟨i + 1, rfl, by omega, ?_⟩
      simp +decide (disch := first | omega | rfl | (simp +decide only [go_sem, ↓reduceIte, h5, h20] <;> rfl) | fail) only [go_sem, ↓reduceIte, h5, h20]
    · obtain rfl : i = p.length := by omega
      rw [List.take_length] at hh
      have hpl := Qg2 p q
      simp +decide (disch := first | omega | rfl | (simp +decide only [go_sem, ↓reduceIte, h5, hh] <;> rfl) | fail) only [go_sem, ↓reduceIte, h5, hh]
      refine Qbg hP (Qqi (K := K + K) (E := E + E) (by omega) _ (p.map (Q8 q)) (Nat.le_refl _) (fun x hx => by
        obtain ⟨t, ht, rfl⟩ := List.mem_map.1 hx
        exact Qf4 hq (hp t ht)) (by rw [List.length_map]; omega) (by rw [List.length_map]; omega) (by omega)) (by simp +decide (disch := first | omega | rfl | (simp +decide only [go_sem, ↓reduceIte, hh, Qd, List.contains_cons, List.contains_nil, List.flatMap_cons, List.flatMap_nil, List.append_nil] <;> rfl) | fail) only [go_sem, ↓reduceIte, hh, Qd, List.contains_cons, List.contains_nil, List.flatMap_cons, List.flatMap_nil, List.append_nil]; simp [List.take_of_length_le]) rfl ?_
      simp +decide (disch := first | omega | rfl | (simp +decide only [go_sem, ↓reduceIte] <;> rfl) | fail) only [go_sem, ↓reduceIte]
      exact Qc (congrArg PV.poly hfin) rfl
end Go.Proofs.YtjkbalanglgoiaaGreat
namespace Go.Proofs.YtjkbalanglgoiaaGreat
open Go Go.FW
set_option linter.unusedSimpArgs false
set_option linter.unusedVariables false
set_option maxRecDepth 100000
theorem Qi1 {p : List Tm} {a : Rat} {K E : Nat} (hp : PB K E p) (ha : rs a + 1 ≤ K) (hK : K ≤ 2 ^ 33) (hE : E ≤ 2 ^ 38) (hlp : p.length ≤ 2 ^ 36) : Qe Tryz.prog 33 [PV.poly p, PV.rat a] (· = PV.poly (Qbt p a)) := by
  refine Qg Ql Tryz.func33 rfl Qaaw (by simp [c33]) fun C hP => ?_; simp only [c33]
  simp +decide (disch := first | omega | rfl | (simp +decide only [go_sem, ↓reduceIte] <;> rfl) | fail) only [go_sem, ↓reduceIte]
  refine Qa hP (Qm2 (a := a) (by omega)) rfl rfl rfl ?_
  simp +decide (disch := first | omega | rfl | (simp +decide only [go_sem, ↓reduceIte] <;> rfl) | fail) only [go_sem, ↓reduceIte]
  refine Qb (fun h0 => ?_) (fun h0 => ?_)
  · simp +decide (disch := first | omega | rfl | (simp +decide only [go_sem, ↓reduceIte] <;> rfl) | fail) only [go_sem, ↓reduceIte]
    exact Qcu (Qhs (by rw [Qbt, if_pos (Qbb.1 h0)])) rfl
  · simp +decide (disch := first | omega | rfl | (simp +decide only [go_sem, ↓reduceIte] <;> rfl) | fail) only [go_sem, ↓reduceIte]
    refine Qa hP ((Qi0 (t := (a, [])) hp (TB.num ha) hK hE hlp).le (args' := [PV.poly p, .agg [.bool (decide (a.num < 0)), PV.num a.num.natAbs, PV.num a.den, .nilS]]) ⟨Qn _, ⟨rfl, Qee _, Qee _, trivial, trivial⟩, trivial⟩) rfl rfl rfl ?_
    simp +decide (disch := first | omega | rfl | (simp +decide only [go_sem, ↓reduceIte] <;> rfl) | fail) only [go_sem, ↓reduceIte]
    exact Qc (by rw [Qbt, if_neg (fun h => h0 (Qbb.2 h))]) rfl
theorem Qyk {p : List Tm} {K E : Nat} (hp : PB K E p) (hK2 : 2 ≤ K) (hK : K ≤ 2 ^ 33) (hE : E ≤ 2 ^ 38) (hlp : p.length ≤ 2 ^ 36) : Qe Tryz.prog 98 [PV.poly p] (· = PV.poly (Qiw p)) := by
  have h1 := Qx9
  refine Qg Ql Tryz.func98 rfl Qaar (by simp [c98]) fun C hP => ?_; simp only [c98]
  simp +decide (disch := first | omega | rfl | (simp +decide only [go_sem, ↓reduceIte] <;> rfl) | fail) only [go_sem, ↓reduceIte]
  refine Qa hP (Qjq (x := -1) (by omega) (by omega)) rfl rfl rfl ?_
  simp +decide (disch := first | omega | rfl | (simp +decide only [go_sem, ↓reduceIte] <;> rfl) | fail) only [go_sem, ↓reduceIte]
  refine Qa hP (Qi1 (a := ((-1 : Int) : Rat)) hp (by have : ((-1 : Int) : Rat) = -1 := rfl; rw [this]; omega) hK hE hlp) rfl rfl rfl ?_
  simp +decide (disch := first | omega | rfl | (simp +decide only [go_sem, ↓reduceIte] <;> rfl) | fail) only [go_sem, ↓reduceIte]
  exact Qc rfl rfl
theorem Qgj {p q : List Tm} {K E : Nat} (hp : PB K E p) (hq : PB K E q) (hK2 : 2 ≤ K) (hK : K ≤ 2 ^ 32) (hE : E ≤ 2 ^ 38) (hlp : p.length ≤ 2 ^ 36) (hlq : q.length ≤ 2 ^ 36) : Qe Tryz.prog 42 [PV.poly p, PV.poly q] (· = PV.poly (Qfz p q)) := by
  have hl := Qdj q (-1)
  refine Qg Ql Tryz.func42 rfl Qaat (by simp [c42]) fun C hP => ?_; simp only [c42]
  simp +decide (disch := first | omega | rfl | (simp +decide only [go_sem, ↓reduceIte] <;> rfl) | fail) only [go_sem, ↓reduceIte]
  refine Qa hP (Qyk hq hK2 (by omega) hE hlq) rfl rfl rfl ?_
  simp +decide (disch := first | omega | rfl | (simp +decide only [go_sem, ↓reduceIte] <;> rfl) | fail) only [go_sem, ↓reduceIte]
  refine Qa hP (Qib (hp.mono (K' := K + 2) (by omega) (Nat.le_refl _)) (Qkq hq) (by omega) hE hlp (by show (Qbt q (-1)).length ≤ _; omega)) rfl rfl rfl ?_
  simp +decide (disch := first | omega | rfl | (simp +decide only [go_sem, ↓reduceIte] <;> rfl) | fail) only [go_sem, ↓reduceIte]
  exact Qc rfl rfl
theorem Qyl {n : Bool} {a d : List Nat} {k : Nat} (hp : Raw k n a d) (hk : k < 2 ^ 36) : Qe Tryz.prog 97 [PV.rr n a d, PV.rat ((0 : Int) : Rat)] (· = PV.rat (rv n a d)) := by
  have h0 : rs ((0 : Int) : Rat) ≤ k := by have := rs_0; have := hp.k1; have e : ((0 : Int) : Rat) = 0 := rfl; rw [e]; omega
  have := Qsk hp (Qb4 h0) hk
  rw [Qcl] at this
  have e : rv n a d + ((0 : Int) : Rat) = rv n a d := Rat.add_zero _
  rwa [e] at this
theorem Qu6 {n : Bool} {a d : List Nat} {k : Nat} (hp : Raw k n a d) (hk : k < 2 ^ 36) : Qe Tryz.prog 41 [PV.rr n a d] (· = PV.poly (Qix (rv n a d))) := by
  have hr := hp.rs
  refine Qg Ql Tryz.func41 rfl Qaap (by simp [c41]) fun C hP => ?_; simp only [c41]
  simp +decide (disch := first | omega | rfl | (simp +decide only [go_sem, ↓reduceIte] <;> rfl) | fail) only [go_sem, ↓reduceIte]
  refine Qa hP (Qjq (x := 0) (by omega) (by omega)) rfl rfl rfl ?_
  simp +decide (disch := first | omega | rfl | (simp +decide only [go_sem, ↓reduceIte] <;> rfl) | fail) only [go_sem, ↓reduceIte]
  refine Qa hP (Qyl hp hk) rfl rfl rfl ?_
  simp +decide (disch := first | omega | rfl | (simp +decide only [go_sem, ↓reduceIte] <;> rfl) | fail) only [go_sem, ↓reduceIte]
  refine Qa hP ((Qmb (c := rv n a d) (m := []) (by omega)).le (args' := [PV.rat (rv n a d), .nilS]) ⟨Qn _, trivial, trivial⟩) rfl rfl rfl ?_
  simp +decide (disch := first | omega | rfl | (simp +decide only [go_sem, ↓reduceIte] <;> rfl) | fail) only [go_sem, ↓reduceIte]
  exact Qc rfl rfl
theorem Qqj {v : Int} (h1 : -9223372036854775808 ≤ v) (h2 : v < 9223372036854775807) : Qe Tryz.prog 40 [.int .i64 v] (· = PV.poly (Qa4 v)) := by
  refine Qg Ql Tryz.func40 rfl Qaaq (by simp [c40]) fun C hP => ?_; simp only [c40]
  simp +decide (disch := first | omega | rfl | (simp +decide only [go_sem, ↓reduceIte] <;> rfl) | fail) only [go_sem, ↓reduceIte]
  refine Q2 (fun h => ?_) (fun h => ?_)
  · simp +decide (disch := first | omega | rfl | (simp +decide only [go_sem, ↓reduceIte] <;> rfl) | fail) only [go_sem, ↓reduceIte]
    exact Qcu (Qhs (by rw [Qa4, if_pos (.inl h)])) rfl
  obtain ⟨n, rfl⟩ : ∃ n : Nat, v = n := ⟨v.toNat, by omega⟩
  simp +decide (disch := first | omega | rfl | (simp +decide only [go_sem, ↓reduceIte] <;> rfl) | fail) only [go_sem, ↓reduceIte]
  refine Qb (fun h => ?_) (fun h => ?_)
  · simp +decide (disch := first | omega | rfl | (simp +decide only [go_sem, ↓reduceIte] <;> rfl) | fail) only [go_sem, ↓reduceIte]
    exact Qcu (Qhs (by rw [Qa4, if_pos (.inr h)])) rfl
  have hset : (List.replicate (n + 1) (0 : Int)).set n 1 = Qj1 n := by
    rw [List.replicate_succ', Qj1, List.set_append_right _ _ (by simp)]; simp
  have hl : n < (List.replicate (n + 1) (0 : Int)).length := by simp
  have hr := Qpa
  simp +decide (disch := first | omega | rfl | (simp +decide only [go_sem, ↓reduceIte, hset] <;> rfl) | fail) only [go_sem, ↓reduceIte, hset]
  refine Qa hP (Qjq (x := 1) (by omega) (by omega)) rfl rfl rfl ?_
  simp +decide (disch := first | omega | rfl | (simp +decide only [go_sem, ↓reduceIte] <;> rfl) | fail) only [go_sem, ↓reduceIte]
  refine Qbg hP (Qmb (c := ((1 : Int) : Rat)) (m := Qj1 n) (by have : ((1 : Int) : Rat) = 1 := rfl; rw [this]; omega)) (by simp +decide (disch := first | omega | rfl | (simp +decide only [go_sem, ↓reduceIte, Qd, List.contains_cons, List.contains_nil, List.flatMap_cons, List.flatMap_nil, List.append_nil] <;> rfl) | fail) only [go_sem, ↓reduceIte, Qd, List.contains_cons, List.contains_nil, List.flatMap_cons, List.flatMap_nil, List.append_nil]; simp [Qj1, List.take_of_length_le]) rfl ?_
  simp +decide (disch := first | omega | rfl | (simp +decide only [go_sem, ↓reduceIte] <;> rfl) | fail) only [go_sem, ↓reduceIte]
  refine Qc ?_ rfl
  rw [Qa4, if_neg (show ¬ ((n : Int) < 0 ∨ 64 ≤ (n : Int)) by omega), Int.toNat_natCast]
  rfl
end Go.Proofs.YtjkbalanglgoiaaGreat
namespace Go.FW
open Go
def pev (φ : List Int → Rat) : List Tm → Rat
  | [] => 0
  | t :: p => t.1 * φ t.2 + pev φ p
theorem Qb0 (φ : List Int → Rat) : pev φ [] = 0 := rfl
theorem Qai (φ : List Int → Rat) (t : Tm) (p : List Tm) : pev φ (t :: p) = t.1 * φ t.2 + pev φ p := rfl
theorem Qym (φ : List Int → Rat) : ∀ (p q : List Tm), pev φ (p ++ q) = pev φ p + pev φ q
  | [], q => by rw [List.nil_append, Qb0]; grind
  | t :: p, q => by rw [List.cons_append, Qai, Qai, Qym φ p q]; grind
theorem Qc8 {φ ψ : List Int → Rat} : ∀ {p : List Tm}, (∀ t ∈ p, φ t.2 = ψ t.2) → pev φ p = pev ψ p
  | [], _ => rfl
  | t :: p, h => by
    rw [Qai, Qai, h t (by simp), Qc8 (p := p) (fun x hx => h x (by simp [hx]))]
theorem Qw7 (φ ψ : List Int → Rat) : ∀ (p : List Tm), pev (fun m => φ m + ψ m) p = pev φ p + pev ψ p
  | [] => by simp only [Qb0]; grind
  | t :: p => by simp only [Qai]; rw [Qw7 φ ψ p]; grind
theorem Qu7 (c : Rat) (φ : List Int → Rat) : ∀ (p : List Tm), pev (fun m => c * φ m) p = c * pev φ p
  | [] => by simp only [Qb0]; grind
  | t :: p => by simp only [Qai]; rw [Qu7 c φ p]; grind
theorem Qu8 : ∀ (p : List Tm), pev (fun _ => 0) p = 0
  | [] => rfl
  | t :: p => by simp only [Qai]; rw [Qu8 p]; grind
theorem Qlw (ψ : List Int → List Int → Rat) (q : List Tm) : ∀ (p : List Tm), pev (fun m => pev (fun n => ψ m n) q) p = pev (fun n => pev (fun m => ψ m n) p) q
  | [] => by simp only [Qb0]; rw [Qu8]
  | t :: p => by
    simp only [Qai]
    rw [Qlw ψ q p, Qw7 (fun n => t.1 * ψ t.2 n), Qu7]
def Can (p : List Tm) : Prop := ∀ t ∈ p, t.2.getLast? ≠ some 0
def NZ (p : List Tm) : Prop := ∀ t ∈ p, t.1 ≠ 0
structure Nrm (p : List Tm) : Prop where
  c : Can p
  z : NZ p
  s : Qaz p
theorem Can.cons {t : Tm} {p : List Tm} : Can (t :: p) ↔ t.2.getLast? ≠ some 0 ∧ Can p := by simp [Can]
theorem NZ.cons {t : Tm} {p : List Tm} : NZ (t :: p) ↔ t.1 ≠ 0 ∧ NZ p := by simp [NZ]
theorem Nrm.nil : Nrm [] := ⟨by simp [Can], by simp [NZ], trivial⟩
theorem Nrm.tail {t : Tm} {p : List Tm} (h : Nrm (t :: p)) : Nrm p := ⟨(Can.cons.1 h.c).2, (NZ.cons.1 h.z).2, h.s.2⟩
theorem Nrm.one {t : Tm} (h : t.1 ≠ 0) (hm : t.2.getLast? ≠ some 0) : Nrm [t] := ⟨by simpa [Can] using hm, by simpa [NZ] using h, ⟨by simp, trivial⟩⟩
theorem PVd.nrm {p : List Tm} (h : PVd p) : Nrm p := ⟨fun t ht => Qoi (h.t t ht).m, fun t ht => (h.t t ht).c, h.s⟩
theorem Qsn {E : Nat} {a : List Int} (h : MB E a) (hE : E ≤ 1048576) (hl : a.getLast? ≠ some 0) : Qb3 a = true := by
  simp only [Qb3, Bool.and_eq_true, decide_eq_true_eq, List.all_eq_true]
  exact ⟨h.len, hl, fun x hx => ⟨h.lo x hx, by have := h.hi x hx; omega⟩⟩
theorem Qi2 {φ : List Int → Rat} : ∀ {p q : List Tm}, Can p → Can q → pev φ (Q3 p q) = pev φ p + pev φ q := by
  intro p q
  induction p, q using Q3.induct with
  | case1 q => rw [Q3, Qb0]; intros; grind
  | case2 p h => rw [Qcn, Qb0]; intros; grind
  | case3 c m p d l q h ih =>
    intro hp hq
    rw [Q3, if_pos h, Qai, Qai, ih (Can.cons.1 hp).2 hq]; grind
  | case4 c m p d l q h1 h2 ih =>
    intro hp hq
    rw [Q3, if_neg h1, if_pos h2, Qai, ih hp (Can.cons.1 hq).2, Qai φ (d, l)]; grind
  | case5 c m p d l q h1 h2 h3 ih =>
    intro hp hq
    have e := Qln h1 h2 (Can.cons.1 hp).1 (Can.cons.1 hq).1
    rw [Q3, if_neg h1, if_neg h2, if_pos h3, ih (Can.cons.1 hp).2 (Can.cons.1 hq).2, Qai, Qai]
    subst e
    have : c * φ m + d * φ m = 0 := by rw [← Rat.add_mul, h3]; grind
    grind
  | case6 c m p d l q h1 h2 h3 ih =>
    intro hp hq
    have e := Qln h1 h2 (Can.cons.1 hp).1 (Can.cons.1 hq).1
    rw [Q3, if_neg h1, if_neg h2, if_neg h3, Qai, ih (Can.cons.1 hp).2 (Can.cons.1 hq).2, Qai, Qai]
    subst e
    grind
theorem Qg3 : ∀ {p q : List Tm} {t : Tm}, t ∈ Q3 p q → (∃ s ∈ p, s.2 = t.2) ∨ (∃ s ∈ q, s.2 = t.2) := by
  intro p q
  induction p, q using Q3.induct with
  | case1 q => rw [Q3]; intro t ht; exact Or.inr ⟨t, ht, rfl⟩
  | case2 p h => rw [Qcn]; intro t ht; exact Or.inl ⟨t, ht, rfl⟩
  | case3 c m p d l q h ih =>
    intro t ht
    rw [Q3, if_pos h] at ht
    rcases List.mem_cons.1 ht with rfl | ht
    · exact Or.inl ⟨_, by simp, rfl⟩
    · rcases ih ht with ⟨s, h1, h2⟩ | h1
      · exact Or.inl ⟨s, by simp [h1], h2⟩
      · exact Or.inr h1
  | case4 c m p d l q h1 h2 ih =>
    intro t ht
    rw [Q3, if_neg h1, if_pos h2] at ht
    rcases List.mem_cons.1 ht with rfl | ht
    · exact Or.inr ⟨_, by simp, rfl⟩
    · rcases ih ht with h3 | ⟨s, h3, h4⟩
      · exact Or.inl h3
      · exact Or.inr ⟨s, by simp [h3], h4⟩
  | case5 c m p d l q h1 h2 h3 ih =>
    intro t ht
    rw [Q3, if_neg h1, if_neg h2, if_pos h3] at ht
    rcases ih ht with ⟨s, h4, h5⟩ | ⟨s, h4, h5⟩
    · exact Or.inl ⟨s, by simp [h4], h5⟩
    · exact Or.inr ⟨s, by simp [h4], h5⟩
  | case6 c m p d l q h1 h2 h3 ih =>
    intro t ht
    rw [Q3, if_neg h1, if_neg h2, if_neg h3] at ht
    rcases List.mem_cons.1 ht with rfl | ht
    · exact Or.inl ⟨(c, m), by simp, rfl⟩
    · rcases ih ht with ⟨s, h4, h5⟩ | ⟨s, h4, h5⟩
      · exact Or.inl ⟨s, by simp [h4], h5⟩
      · exact Or.inr ⟨s, by simp [h4], h5⟩
theorem Qu9 {p q : List Tm} (hp : Can p) (hq : Can q) : Can (Q3 p q) := fun t ht => by
  rcases Qg3 ht with ⟨s, h1, h2⟩ | ⟨s, h1, h2⟩
  · rw [← h2]; exact hp s h1
  · rw [← h2]; exact hq s h1
theorem Q7s : ∀ {p q : List Tm}, NZ p → NZ q → NZ (Q3 p q) := by
  intro p q
  induction p, q using Q3.induct with
  | case1 q => rw [Q3]; exact fun _ h => h
  | case2 p h => rw [Qcn]; exact fun h _ => h
  | case3 c m p d l q h ih =>
    intro hp hq
    rw [Q3, if_pos h, NZ.cons]
    exact ⟨(NZ.cons.1 hp).1, ih (NZ.cons.1 hp).2 hq⟩
  | case4 c m p d l q h1 h2 ih =>
    intro hp hq
    rw [Q3, if_neg h1, if_pos h2, NZ.cons]
    exact ⟨(NZ.cons.1 hq).1, ih hp (NZ.cons.1 hq).2⟩
  | case5 c m p d l q h1 h2 h3 ih =>
    intro hp hq
    rw [Q3, if_neg h1, if_neg h2, if_pos h3]
    exact ih (NZ.cons.1 hp).2 (NZ.cons.1 hq).2
  | case6 c m p d l q h1 h2 h3 ih =>
    intro hp hq
    rw [Q3, if_neg h1, if_neg h2, if_neg h3, NZ.cons]
    exact ⟨h3, ih (NZ.cons.1 hp).2 (NZ.cons.1 hq).2⟩
theorem Qyn {a b c : List Int} (h : Qag a b = 0) (h2 : 0 < Qag b c) : 0 < Qag a c := by
  have e : ∀ i, eN a i = eN b i := by
    intro i
    have := (Qjn a b _).1 h
    by_cases hi : i < max a.length b.length
    · exact this i hi
    · rw [Qb8 (by omega), Qb8 (by omega)]
  rw [Qx8 e (fun _ => rfl)]; exact h2
theorem Qv8 : ∀ {p q : List Tm}, Qaz p → Qaz q → Qaz (Q3 p q) := by
  intro p q
  induction p, q using Q3.induct with
  | case1 q => rw [Q3]; exact fun _ h => h
  | case2 p h => rw [Qcn]; exact fun h _ => h
  | case3 c m p d l q h ih =>
    intro hp hq
    rw [Q3, if_pos h]
    refine ⟨fun t ht => ?_, ih hp.2 hq⟩
    rcases Qg3 ht with ⟨s, h1, h2⟩ | ⟨s, h1, h2⟩
    · rw [← h2]; exact hp.1 s h1
    · rw [← h2]
      rcases List.mem_cons.1 h1 with rfl | h1
      · exact h
      · exact Qdk h (hq.1 s h1)
  | case4 c m p d l q h1 h2 ih =>
    intro hp hq
    rw [Q3, if_neg h1, if_pos h2]
    have h2' : 0 < Qag l m := by have := Qg1 m l; omega
    refine ⟨fun t ht => ?_, ih hp hq.2⟩
    rcases Qg3 ht with ⟨s, h3, h4⟩ | ⟨s, h3, h4⟩
    · rw [← h4]
      rcases List.mem_cons.1 h3 with rfl | h3
      · exact h2'
      · exact Qdk h2' (hp.1 s h3)
    · rw [← h4]; exact hq.1 s h3
  | case5 c m p d l q h1 h2 h3 ih =>
    intro hp hq
    rw [Q3, if_neg h1, if_neg h2, if_pos h3]
    exact ih hp.2 hq.2
  | case6 c m p d l q h1 h2 h3 ih =>
    intro hp hq
    rw [Q3, if_neg h1, if_neg h2, if_neg h3]
    refine ⟨fun t ht => ?_, ih hp.2 hq.2⟩
    rcases Qg3 ht with ⟨s, h4, h5⟩ | ⟨s, h4, h5⟩
    · rw [← h5]; exact hp.1 s h4
    · rw [← h5]; exact Qyn (b := l) (by show Qag m l = 0; omega) (hq.1 s h4)
theorem Qg4 {p q : List Tm} (hp : Nrm p) (hq : Nrm q) : Nrm (Q3 p q) := ⟨Qu9 hp.c hq.c, Q7s hp.z hq.z, Qv8 hp.s hq.s⟩
def ind (m : List Int) : List Int → Rat := fun n => if n = m then 1 else 0
theorem Qhd {m : List Int} : ∀ {p : List Tm}, (∀ t ∈ p, t.2 ≠ m) → pev (ind m) p = 0
  | [], _ => rfl
  | t :: p, h => by
    rw [Qai, Qhd (p := p) (fun x hx => h x (by simp [hx])), ind, if_neg (h t (by simp))]; grind
theorem Qjr {a b : List Int} (h : 0 < Qag a b) : b ≠ a := by rintro rfl; rw [Qjo] at h; omega
theorem Qew {t : Tm} {p : List Tm} (h : Qaz (t :: p)) : pev (ind t.2) (t :: p) = t.1 := by
  rw [Qai, Qhd (fun s hs => Qjr (h.1 s hs)), ind, if_pos rfl]; grind
theorem Qnz : ∀ {p q : List Tm}, Nrm p → Nrm q → (∀ φ, pev φ p = pev φ q) → p = q
  | [], [], _, _, _ => rfl
  | [], t :: q, _, hq, h => by
    have := h (ind t.2)
    rw [Qew hq.s, Qb0] at this
    exact absurd this.symm (hq.z t (by simp))
  | t :: p, [], hp, _, h => by
    have := h (ind t.2)
    rw [Qew hp.s, Qb0] at this
    exact absurd this (hp.z t (by simp))
  | s :: p, t :: q, hp, hq, h => by
    by_cases h1 : 0 < Qag s.2 t.2
    · have := h (ind s.2)
      rw [Qew hp.s, Qhd (fun x hx => ?_)] at this
      · exact absurd this (hp.z s (by simp))
      · rcases List.mem_cons.1 hx with rfl | hx
        · exact Qjr h1
        · exact Qjr (Qdk h1 (hq.s.1 x hx))
    · by_cases h2 : Qag s.2 t.2 < 0
      · have h2' : 0 < Qag t.2 s.2 := by have := Qg1 s.2 t.2; omega
        have := h (ind t.2)
        rw [Qew hq.s, Qhd (fun x hx => ?_)] at this
        · exact absurd this.symm (hq.z t (by simp))
        · rcases List.mem_cons.1 hx with rfl | hx
          · exact Qjr h2'
          · exact Qjr (Qdk h2' (hp.s.1 x hx))
      · have e := Qln h1 h2 (hp.c s (by simp)) (hq.c t (by simp))
        have e2 := h (ind s.2)
        rw [Qew hp.s, e, Qew hq.s] at e2
        have e3 : s = t := Prod.ext e2 e
        subst e3
        rw [Qnz hp.tail hq.tail (fun φ => by have := h φ; rw [Qai, Qai] at this; grind)]
theorem Q04 {φ : List Int → Rat} : ∀ (n : Nat) (l : List (List Tm)), l.length ≤ n → (∀ p ∈ l, Can p) → Can (Qca l) ∧ pev φ (Qca l) = (l.map (pev φ)).sum := by
  intro n
  induction n with
  | zero =>
    intro l hl _
    have : l = [] := List.length_eq_zero_iff.1 (by omega)
    subst this
    rw [Qca]; exact ⟨Nrm.nil.c, rfl⟩
  | succ n ih =>
    intro l hl h
    match l, h with
    | [], _ => rw [Qca]; exact ⟨Nrm.nil.c, rfl⟩
    | [p], h => rw [Qca]; exact ⟨h p (by simp), by simp; grind⟩
    | p :: q :: r, h =>
      rw [Qhq (by simp)]
      generalize hL : p :: q :: r = L at *
      have hlen : 2 ≤ L.length := by rw [← hL]; simp
      obtain ⟨a1, a2⟩ := ih (L.take (L.length / 2)) (by rw [List.length_take]; omega) (fun x hx => h x (List.mem_of_mem_take hx))
      obtain ⟨b1, b2⟩ := ih (L.drop (L.length / 2)) (by rw [List.length_drop]; omega) (fun x hx => h x (List.mem_of_mem_drop hx))
      refine ⟨Qu9 a1 b1, ?_⟩
      rw [Qi2 a1 b1, a2, b2, ← List.sum_append, ← List.map_append, List.take_append_drop]
theorem Q4l : ∀ (n : Nat) (l : List (List Tm)), l.length ≤ n → (∀ p ∈ l, Nrm p) → Nrm (Qca l) := by
  intro n
  induction n with
  | zero =>
    intro l hl _
    have : l = [] := List.length_eq_zero_iff.1 (by omega)
    subst this
    rw [Qca]; exact Nrm.nil
  | succ n ih =>
    intro l hl h
    match l, h with
    | [], _ => rw [Qca]; exact Nrm.nil
    | [p], h => rw [Qca]; exact h p (by simp)
    | p :: q :: r, h =>
      rw [Qhq (by simp)]
      generalize hL : p :: q :: r = L at *
      have hlen : 2 ≤ L.length := by rw [← hL]; simp
      exact Qg4 (ih (L.take (L.length / 2)) (by rw [List.length_take]; omega) (fun x hx => h x (List.mem_of_mem_take hx)))
        (ih (L.drop (L.length / 2)) (by rw [List.length_drop]; omega) (fun x hx => h x (List.mem_of_mem_drop hx)))
theorem Qic (φ : List Int → Rat) (t : Tm) : ∀ (p : List Tm), pev φ (Q8 p t) = t.1 * pev (fun m => φ (Qar m t.2)) p
  | [] => by rw [Q8, List.filterMap_nil, Qb0, Qb0]; grind
  | s :: p => by
    have ih := Qic φ t p
    rw [Q8] at ih ⊢
    rw [List.filterMap_cons]
    by_cases h : s.1 * t.1 = 0
    · simp only [h, if_true, Qai]
      rw [ih]
      have : t.1 * (s.1 * φ (Qar s.2 t.2)) = (s.1 * t.1) * φ (Qar s.2 t.2) := by grind
      rw [Rat.mul_add, this, h]; grind
    · simp only [h, if_false, Qai]
      rw [ih]; grind
theorem Qlx (p : List Tm) (t : Tm) : Can (Q8 p t) := by
  intro x hx
  simp only [Q8, List.mem_filterMap] at hx
  obtain ⟨y, hy, h⟩ := hx
  split at h
  · cases h
  · cases h; exact Qc6 _ _
theorem Q05 (p : List Tm) (t : Tm) : NZ (Q8 p t) := by
  intro x hx
  simp only [Q8, List.mem_filterMap] at hx
  obtain ⟨y, hy, h⟩ := hx
  split at h
  · cases h
  · rename_i h0; cases h; exact h0
theorem Qmc (t : Tm) : ∀ (p : List Tm), Qaz p → Qaz (Q8 p t)
  | [], _ => trivial
  | s :: p, hp => by
    have ih := Qmc t p hp.2
    rw [Q8] at ih ⊢
    rw [List.filterMap_cons]
    split
    · exact ih
    · rename_i b hb
      split at hb
      · cases hb
      · cases hb
        refine ⟨fun x hx => ?_, ih⟩
        simp only [List.mem_filterMap] at hx
        obtain ⟨y, hy, h⟩ := hx
        split at h
        · cases h
        · cases h
          simp only [Qo9]
          exact hp.1 y hy
theorem Qly {p : List Tm} (t : Tm) (hp : Qaz p) : Nrm (Q8 p t) := ⟨Qlx _ _, Q05 _ _, Qmc t p hp⟩
theorem Qqk (φ : List Int → Rat) (q : List Tm) : ∀ (p : List Tm), ((p.map (Q8 q)).map (pev φ)).sum = pev (fun m => pev (fun n => φ (Qar m n)) q) p
  | [] => rfl
  | t :: p => by
    rw [List.map_cons, List.map_cons, List.sum_cons, Qqk φ q p, Qic, Qai]
    congr 2
    exact Qc8 fun s _ => by rw [Qeb]
theorem Qso (φ : List Int → Rat) (p q : List Tm) : pev φ (Qhc p q) = pev (fun m => pev (fun n => φ (Qar m n)) q) p := by
  rw [Qhc, (Q04 (φ := φ) _ _ (Nat.le_refl _) ?_).2, Qqk]
  intro x hx
  obtain ⟨t, _, rfl⟩ := List.mem_map.1 hx
  exact Qlx _ _
theorem Qg5 (φ : List Int → Rat) (p q : List Tm) : pev φ (Qay p q) = pev (fun m => pev (fun n => φ (Qar m n)) q) p := by
  unfold Qay
  split
  · rw [Qso, Qlw (fun m n => φ (Qar m n))]
    exact Qc8 fun s _ => Qc8 fun t _ => by rw [Qeb]
  · exact Qso φ p q
theorem Qsp {p q : List Tm} (hq : Qaz q) : Nrm (Qhc p q) := Q4l _ _ (Nat.le_refl _) fun x hx => by
  obtain ⟨t, _, rfl⟩ := List.mem_map.1 hx
  exact Qly t hq
theorem Qcb {p q : List Tm} (hp : Qaz p) (hq : Qaz q) : Nrm (Qay p q) := by
  unfold Qay
  split
  · exact Qsp hp
  · exact Qsp hq
theorem Qyo (φ : List Int → Rat) {p : List Tm} (hp : Can p) (a : Rat) : pev φ (Qbt p a) = a * pev φ p := by
  unfold Qbt
  split
  · rename_i h; rw [h, Qb0]; grind
  · rw [Qic]
    congr 1
    exact Qc8 fun s hs => by rw [Qlk (hp s hs)]
theorem Qql {p : List Tm} (hp : Qaz p) (a : Rat) : Nrm (Qbt p a) := by
  unfold Qbt
  split
  · exact Nrm.nil
  · exact Qly _ hp
theorem Q4m (φ : List Int → Rat) {p : List Tm} (hp : Can p) : pev φ (Qiw p) = - pev φ p := by
  rw [Qiw, Qyo φ hp]; grind
theorem Qva (φ : List Int → Rat) {p q : List Tm} (hp : Can p) (hq : Nrm q) : pev φ (Qfz p q) = pev φ p - pev φ q := by
  rw [Qfz, Qi2 hp (show Can (Qiw q) from (Qql hq.s _).c), Q4m φ hq.c]; grind
theorem Qpe {p q : List Tm} (hp : Nrm p) (hq : Nrm q) : Nrm (Qfz p q) := Qg4 hp (Qql hq.s _)
def Qfq (p q : List Tm) : List Tm := q.foldl (fun out t => Q3 out (Q8 p t)) []
theorem Qsq (p : List Tm) (hp : Nrm p) : ∀ (q out : List Tm), Nrm out → Nrm (q.foldl (fun out t => Q3 out (Q8 p t)) out) ∧
    ∀ φ, pev φ (q.foldl (fun out t => Q3 out (Q8 p t)) out) = pev φ out + pev (fun m => pev (fun n => φ (Qar n m)) p) q
  | [], out, h => ⟨h, fun φ => by rw [List.foldl_nil, Qb0]; grind⟩
  | t :: q, out, h => by
    obtain ⟨h1, h2⟩ := Qsq p hp q (Q3 out (Q8 p t)) (Qg4 h (Qly t hp.s))
    refine ⟨h1, fun φ => ?_⟩
    rw [List.foldl_cons, h2, Qi2 h.c (Qlx _ _), Qic, Qai]; grind
theorem Qlz {p q : List Tm} (hp : Nrm p) (hq : Nrm q) : Qfq p q = Qay p q := by
  obtain ⟨h1, h2⟩ := Qsq p hp q [] Nrm.nil
  refine Qnz h1 (Qcb hp.s hq.s) fun φ => ?_
  rw [Qfq, h2, Qg5, Qb0, Qlw (fun m n => φ (Qar m n))]
  grind
end Go.FW
namespace Go.FW
open Go
variable {C : Ctx} {fr : Fr} {hp : HP} {w : World} {K R : Qh}
theorem Qv9 {e by_ ty d : Nat} (h0 : 0 < e) : Qfu e by_ ty .nilS (.sl e []) d fr hp K = K (upd (Qaq d fr) d (.ms d 0)) (Qu hp d ⟨e, ty, [], false⟩) := by
  have := Qh7 (fr := fr) (hp := hp) (K := K) (e := e) (by_ := by_) (ty := ty) (d := d) (x := .sl e []) (ys := []) rfl h0 (by simp) (by simp)
  simpa using this
def Qa2 (p : List Tm) : Bool := decide (4000 < p.length) || p.any fun t => t.2.any fun x => decide (1048576 < x)
end Go.FW
namespace Go.FW
open Go
theorem Qro {m : List Int} {c : Rat} : ∀ {u v : List Tm}, (∀ t ∈ u, 0 < Qag t.2 m) → (∀ t ∈ v, Qag t.2 m < 0) → Q3 (u ++ v) [(c, m)] = u ++ (c, m) :: v
  | [], [], _, _ => by rw [List.nil_append, Qfa]; rfl
  | [], t :: v, _, hv => by
    have h1 := hv t (by simp)
    rw [List.nil_append, Qhr, if_neg (by show ¬ 0 < Qag t.2 m; omega), if_pos (by exact h1), Qcn]; rfl
  | t :: u, v, hu, hv => by
    rw [List.cons_append, Qhr, if_pos (by exact hu t (by simp)), Qro (fun s hs => hu s (by simp [hs])) hv]; rfl
theorem Qw8 {m : List Int} {c d : Rat} : ∀ {u v : List Tm}, (∀ t ∈ u, 0 < Qag t.2 m) → Q3 (u ++ (d, m) :: v) [(c, m)] = u ++ (if d + c = 0 then [] else [(d + c, m)]) ++ v
  | [], v, _ => by
    have h0 := Qjo m
    rw [List.nil_append, Qhr, if_neg (by show ¬ 0 < Qag m m; omega), if_neg (by show ¬ Qag m m < 0; omega)]
    show (if d + c = 0 then Q3 v [] else (d + c, m) :: Q3 v []) = _
    rw [Qcn]
    split <;> rfl
  | t :: u, v, hu => by
    rw [List.cons_append, Qhr, if_pos (by exact hu t (by simp)), Qw8 (fun s hs => hu s (by simp [hs]))]; simp
def Qcx (p : List Tm) (c : Rat) (m : List Int) : List Tm := Q3 p (if c = 0 then [] else [(c, m)])
theorem Qvb {p : List Tm} (hs : Qaz p) : ∀ {i : Nat} (h : i < p.length), ∀ t ∈ p.take i, 0 < Qag t.2 p[i].2 := by
  induction p with
  | nil => intro i h; simp at h
  | cons s p ih =>
    intro i h t ht
    cases i with
    | zero => simp at ht
    | succ i =>
      simp only [List.take_succ_cons, List.mem_cons] at ht
      have hi : i < p.length := by simpa using h
      show 0 < Qag t.2 p[i].2
      rcases ht with rfl | ht
      · exact hs.1 _ (List.getElem_mem hi)
      · exact ih hs.2 hi t ht
theorem Q06 {c : Rat} {m : List Int} (hl : m.getLast? ≠ some 0) : Nrm (if c = 0 then [] else [(c, m)]) := by
  split
  · exact Nrm.nil
  · rename_i h; exact Nrm.one h hl
theorem Q07 {p : List Tm} {c : Rat} {m : List Int} (hp : Nrm p) (hl : m.getLast? ≠ some 0) : Nrm (Qcx p c m) := Qg4 hp (Q06 hl)
theorem Q08 {φ : List Int → Rat} {p : List Tm} {c : Rat} {m : List Int} (hp : Can p) (hl : m.getLast? ≠ some 0) : pev φ (Qcx p c m) = pev φ p + c * φ m := by
  rw [Qcx, Qi2 hp (Q06 hl).c]
  split
  · rename_i h; rw [h, Qb0]; grind
  · rw [Qai, Qb0]; grind
end Go.FW
