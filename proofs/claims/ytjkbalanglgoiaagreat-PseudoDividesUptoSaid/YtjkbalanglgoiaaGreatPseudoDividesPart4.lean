/- Part 4 of the proof of PseudoDivides: M1, M2, P1, P2, P3, FwQA, FwSD. Own lemmas; no conditions. -/
import Derived.Test.YtjkbalanglgoiaaGreatPseudoDividesPart3
set_option linter.unusedSimpArgs false
set_option linter.unnecessarySimpa false
set_option linter.unusedVariables false
namespace Go.Proofs.YtjkbalanglgoiaaGreat
open Go Go.FW
set_option linter.unusedSimpArgs false
set_option linter.unusedVariables false
set_option maxRecDepth 100000
theorem Qom {a : List Int} (hl : a.length < 2 ^ 42) : Qe Tryz.prog 104 [PV.mono a] (· = PV.mono (Qcg a)) := by
  refine Qg Ql Tryz.func104 rfl Q7n (by simp [Q4g]) fun C hP => ?_; simp only [Q4g]
  simp +decide (disch := first | omega | rfl | (simp +decide only [go_sem, ↓reduceIte] <;> rfl) | fail) only [go_sem, ↓reduceIte]
  refine Qx (by repeat (first | exact Qt | exact Qp | exact Qq | apply Qo | apply Qs | apply Qy | apply Q5 | apply Q6 | apply Qm)) [(3, 3), (6, 17)] [] (fun n J hp => n ≤ a.length ∧ Qfa a n = Qcg a ∧ J 3 = .int .i64 n ∧ hp = hp0) a.length ?_ ?_
  · refine ⟨Nat.le_refl _, rfl, ?_⟩
    simp +decide (disch := first | omega | rfl | (simp +decide only [go_sem, ↓reduceIte] <;> rfl) | fail) only [go_sem, ↓reduceIte]
  rintro n J _ ⟨hn, hc, h3, rfl⟩
  simp +decide (disch := first | omega | rfl | (simp +decide only [go_sem, ↓reduceIte, h3] <;> rfl) | fail) only [go_sem, ↓reduceIte, h3]
  refine Qal (fun hg => ?_) (fun hg => ?_)
  · obtain _ | n := n
    · omega
    have e : ((n + 1 : Nat) : Int) - 1 = n := by omega
    simp only [Qfa] at hc
    simp +decide (disch := first | omega | rfl | (simp +decide only [go_sem, ↓reduceIte, h3, e] <;> rfl) | fail) only [go_sem, ↓reduceIte, h3, e]
    refine Qb (fun hz => ?_) (fun hz => ?_)
    · rw [if_pos (by simp [hz, show n < a.length by omega])] at hc
      simp +decide (disch := first | omega | rfl | (simp +decide only [go_sem, ↓reduceIte, h3, e] <;> rfl) | fail) only [go_sem, ↓reduceIte, h3, e]
      refine Qk n (by omega) ⟨by omega, hc, ?_⟩
      simp +decide (disch := first | omega | rfl | (simp +decide only [go_sem, ↓reduceIte] <;> rfl) | fail) only [go_sem, ↓reduceIte]
    · rw [if_neg (by simpa [show n < a.length by omega] using hz)] at hc
      simp +decide (disch := first | omega | rfl | (simp +decide only [go_sem, ↓reduceIte, h3, e] <;> rfl) | fail) only [go_sem, ↓reduceIte, h3, e]
      refine Qb (fun h => by omega) (fun h => ?_)
      simp +decide (disch := first | omega | rfl | (simp +decide only [go_sem, ↓reduceIte, h3, e] <;> rfl) | fail) only [go_sem, ↓reduceIte, h3, e]
      exact Qc (congrArg PV.mono hc) rfl
  · obtain rfl : n = 0 := by omega
    simp +decide (disch := first | omega | rfl | (simp +decide only [go_sem, ↓reduceIte, h3] <;> rfl) | fail) only [go_sem, ↓reduceIte, h3]
    exact Qcv (Qsc (by rw [← hc]; rfl)) rfl
theorem Qmb {a : List Int} (hl : a.length ≤ 1048576) (hb : ∀ x ∈ a, 0 ≤ x ∧ x ≤ 1099511627776) : Qe Tryz.prog 110 [PV.mono a] (· = .int .i64 (Qfo a)) := by
  refine Qg Ql Tryz.func110 rfl Q7o (by simp [Q4h]) fun C hP => ?_; simp only [Q4h]
  simp +decide (disch := first | omega | rfl | (simp +decide only [go_sem, ↓reduceIte] <;> rfl) | fail) only [go_sem, ↓reduceIte]
  refine Qx (by repeat (first | exact Qt | exact Qp | exact Qq | apply Qo | apply Qs | apply Qy | apply Q5 | apply Q6 | apply Qm)) [(3, 3), (5, 5), (8, 15)] [] (fun k J hp => ∃ (i : Nat) (s : Int), k = a.length - i ∧ i ≤ a.length ∧ 0 ≤ s ∧ s ≤ 1099511627776 * i ∧ s + (a.drop i).sum = Qfo a ∧ J 8 = .int .i64 (i : Nat) ∧ J 3 = .int .i64 s ∧ hp = hp0) a.length ?_ ?_
  · refine ⟨0, 0, rfl, by omega, by omega, by omega, by simp [Qfo], ?_⟩
    simp +decide (disch := first | omega | rfl | (simp +decide only [go_sem, ↓reduceIte] <;> rfl) | fail) only [go_sem, ↓reduceIte]
    simp
  rintro _ J _ ⟨i, s, rfl, hi, hs0, hs1, hsum, h8, h3, rfl⟩
  simp +decide (disch := first | omega | rfl | (simp +decide only [go_sem, ↓reduceIte, h8, h3] <;> rfl) | fail) only [go_sem, ↓reduceIte, h8, h3]
  refine Qb (fun hg => ?_) (fun hg => ?_)
  · have hi' : i < a.length := by omega
    have hx := hb _ (List.getElem_mem hi')
    rw [List.drop_eq_getElem_cons hi', List.sum_cons] at hsum
    generalize hxx : a[i] = x at *
    simp +decide (disch := first | omega | rfl | (simp +decide only [go_sem, ↓reduceIte, h8, h3, hxx] <;> rfl) | fail) only [go_sem, ↓reduceIte, h8, h3, hxx]
    refine Qk (a.length - (i + 1)) (by omega) ⟨i + 1, s + x, rfl, by omega, by omega, by push_cast; omega, by omega, ?_⟩
    simp +decide (disch := first | omega | rfl | (simp +decide only [go_sem, ↓reduceIte] <;> rfl) | fail) only [go_sem, ↓reduceIte]
  · rw [List.drop_of_length_le (by omega), List.sum_nil, Int.add_zero] at hsum
    simp +decide (disch := first | omega | rfl | (simp +decide only [go_sem, ↓reduceIte, h3] <;> rfl) | fail) only [go_sem, ↓reduceIte, h3]
    exact Qc (by rw [hsum]) rfl
theorem Qqi {a : List Int} {v : Int} (hl : a.length < 2 ^ 42) : Qe Tryz.prog 75 [PV.mono a, .int .i64 v] (· = .int .i64 (if v < 0 then 0 else eN a v.toNat)) := by
  refine Qg Ql Tryz.func75 rfl Qaaj (by simp [c75]) fun C hP => ?_; simp only [c75]
  simp +decide (disch := first | omega | rfl | (simp +decide only [go_sem, ↓reduceIte] <;> rfl) | fail) only [go_sem, ↓reduceIte]
  refine Q2 (fun h1 => ?_) (fun h1 => ?_)
  · simp +decide (disch := first | omega | rfl | (simp +decide only [go_sem, ↓reduceIte] <;> rfl) | fail) only [go_sem, ↓reduceIte]
    exact Qc (by rw [if_pos h1]) rfl
  · obtain ⟨n, rfl⟩ : ∃ n : Nat, v = n := ⟨v.toNat, by omega⟩
    rw [if_neg h1]
    simp +decide (disch := first | omega | rfl | (simp +decide only [go_sem, ↓reduceIte] <;> rfl) | fail) only [go_sem, ↓reduceIte]
    refine Qb (fun h2 => ?_) (fun h2 => ?_)
    · simp +decide (disch := first | omega | rfl | (simp +decide only [go_sem, ↓reduceIte] <;> rfl) | fail) only [go_sem, ↓reduceIte]
      exact Qc (by rw [Qb9 (by omega)]) rfl
    · have hn : n < a.length := by omega
      simp +decide (disch := first | omega | rfl | (simp +decide only [go_sem, ↓reduceIte] <;> rfl) | fail) only [go_sem, ↓reduceIte]
      exact Qc (by rw [Qcn hn]) rfl
theorem Qhv {a : List Int} {i : Nat} (hl : a.length < 2 ^ 42) : Qe Tryz.prog 75 [PV.mono a, .int .i64 i] (· = .int .i64 (eN a i)) := by
  have := Qqi (v := i) hl
  rwa [if_neg (by omega), Int.toNat_natCast] at this
end Go.Proofs.YtjkbalanglgoiaaGreat
namespace Go.Proofs.YtjkbalanglgoiaaGreat
open Go Go.FW
set_option linter.unusedSimpArgs false
set_option linter.unusedVariables false
set_option maxRecDepth 100000
theorem Qku {a b : List Int} {f : Nat} {g : Int → Int → Int} (hla : a.length < 2 ^ 40) (hlb : b.length < 2 ^ 40) (hf : ∀ i, Qe Tryz.prog f [.int .i64 (eN a i), .int .i64 (eN b i)] (· = .int .i64 (g (eN a i) (eN b i)))) :
    Qe Tryz.prog 105 [PV.mono a, PV.mono b, .fn f [] []] (· = PV.mono (Qe0 g a b)) := by
  refine Qg Ql Tryz.func105 rfl Q7m (by simp [Q4f]) fun C hP => ?_; simp only [Q4f]
  simp +decide (disch := first | omega | rfl | (simp +decide only [go_sem, ↓reduceIte] <;> rfl) | fail) only [go_sem, ↓reduceIte]
  refine Qx (by repeat (first | exact Qt | exact Qp | exact Qq | apply Qo | apply Qs | apply Qy | apply Q5 | apply Q6 | apply Qm)) [(8, 10), (19, 45)] [] (fun k J hp => ∃ i, k = max a.length b.length - i ∧ i ≤ max a.length b.length ∧ J 19 = .int .i64 (i : Nat) ∧ hp = Qu hp0 16 ⟨1, 3, Qd5 ((Qe0 g a b).take i ++ List.replicate (max a.length b.length - i) 0), false⟩) (max a.length b.length) ?_ ?_
  · refine ⟨0, rfl, by omega, ?_⟩
    simp +decide (disch := first | omega | rfl | (simp +decide only [go_sem, ↓reduceIte] <;> rfl) | fail) only [go_sem, ↓reduceIte]
    simp
  rintro _ J _ ⟨i, rfl, hi, h19, rfl⟩
  simp +decide (disch := first | omega | rfl | (simp +decide only [go_sem, ↓reduceIte, h19] <;> rfl) | fail) only [go_sem, ↓reduceIte, h19]
  refine Qb (fun hg => ?_) (fun hg => ?_)
  · have hi' : i < max a.length b.length := by omega
    have hfi := hf i
    have htl : ((Qe0 g a b).take i).length = i := by rw [List.length_take, Qbz]; omega
    have hset := fun v => Q0q (v := v) (z := (0 : Int)) htl (show 0 < max a.length b.length - i by omega)
    have hlen : i < ((Qe0 g a b).take i ++ List.replicate (max a.length b.length - i) (0 : Int)).length := by rw [List.length_append, htl, List.length_replicate]; omega
    have htk := Qmz (g := g) hi'
    have fin : ∀ x y, x = eN a i → y = eN b i → Qe Tryz.prog f [.int .i64 x, .int .i64 y] (· = .int .i64 (g (eN a i) (eN b i))) := by rintro _ _ rfl rfl; exact hfi
    simp +decide (disch := first | omega | rfl | (simp +decide only [go_sem, ↓reduceIte, h19] <;> rfl) | fail) only [go_sem, ↓reduceIte, h19]
    refine Qb (fun h1 => ?_) (fun h1 => ?_)
    · have h1' : i < a.length := by omega
      simp +decide (disch := first | omega | rfl | (simp +decide only [go_sem, ↓reduceIte, h19] <;> rfl) | fail) only [go_sem, ↓reduceIte, h19]
      refine Qb (fun h2 => ?_) (fun h2 => ?_)
      · have h2' : i < b.length := by omega
        simp +decide (disch := first | omega | rfl | (simp +decide only [go_sem, ↓reduceIte, h19] <;> rfl) | fail) only [go_sem, ↓reduceIte, h19]
        refine Qa hP (fin _ _ (Qcn h1').symm (Qcn h2').symm) rfl rfl rfl ?_
        simp +decide (disch := first | omega | rfl | (simp +decide only [go_sem, ↓reduceIte, h19, hset, ← htk] <;> rfl) | fail) only [go_sem, ↓reduceIte, h19, hset, ← htk]
        refine Qk (max a.length b.length - (i + 1)) (by omega) ⟨i + 1, rfl, by omega, ?_⟩
        simp +decide (disch := first | omega | rfl | (simp +decide only [go_sem, ↓reduceIte, Nat.sub_sub] <;> rfl) | fail) only [go_sem, ↓reduceIte, Nat.sub_sub]
      · simp +decide (disch := first | omega | rfl | (simp +decide only [go_sem, ↓reduceIte, h19] <;> rfl) | fail) only [go_sem, ↓reduceIte, h19]
        refine Qa hP (fin _ _ (Qcn h1').symm (Qb9 (by omega)).symm) rfl rfl rfl ?_
        simp +decide (disch := first | omega | rfl | (simp +decide only [go_sem, ↓reduceIte, h19, hset, ← htk] <;> rfl) | fail) only [go_sem, ↓reduceIte, h19, hset, ← htk]
        refine Qk (max a.length b.length - (i + 1)) (by omega) ⟨i + 1, rfl, by omega, ?_⟩
        simp +decide (disch := first | omega | rfl | (simp +decide only [go_sem, ↓reduceIte, Nat.sub_sub] <;> rfl) | fail) only [go_sem, ↓reduceIte, Nat.sub_sub]
    · simp +decide (disch := first | omega | rfl | (simp +decide only [go_sem, ↓reduceIte, h19] <;> rfl) | fail) only [go_sem, ↓reduceIte, h19]
      refine Qb (fun h2 => ?_) (fun h2 => by omega)
      have h2' : i < b.length := by omega
      simp +decide (disch := first | omega | rfl | (simp +decide only [go_sem, ↓reduceIte, h19] <;> rfl) | fail) only [go_sem, ↓reduceIte, h19]
      refine Qa hP (fin _ _ (Qb9 (by omega)).symm (Qcn h2').symm) rfl rfl rfl ?_
      simp +decide (disch := first | omega | rfl | (simp +decide only [go_sem, ↓reduceIte, h19, hset, ← htk] <;> rfl) | fail) only [go_sem, ↓reduceIte, h19, hset, ← htk]
      refine Qk (max a.length b.length - (i + 1)) (by omega) ⟨i + 1, rfl, by omega, ?_⟩
      simp +decide (disch := first | omega | rfl | (simp +decide only [go_sem, ↓reduceIte, Nat.sub_sub] <;> rfl) | fail) only [go_sem, ↓reduceIte, Nat.sub_sub]
  · obtain rfl : i = max a.length b.length := by omega
    simp +decide (disch := first | omega | rfl | (simp +decide only [go_sem, ↓reduceIte, Qd, List.contains_cons, List.contains_nil, List.flatMap_cons, List.flatMap_nil, List.append_nil] <;> rfl) | fail) only [go_sem, ↓reduceIte, Qd, List.contains_cons, List.contains_nil, List.flatMap_cons, List.flatMap_nil, List.append_nil]
    exact Qc (by simp [List.take_of_length_le, Qbz]) rfl
theorem Qv8 {x y : Int} (h1 : -9223372036854775808 ≤ x + y) (h2 : x + y ≤ 9223372036854775807) : Qe Tryz.prog 169 [.int .i64 x, .int .i64 y] (· = .int .i64 (x + y)) := by
  refine Qg Ql Tryz.func169 rfl Q7q (by simp [Q4j]) fun C hP => ?_; simp only [Q4j]
  simp +decide (disch := first | omega | rfl | (simp +decide only [go_sem, ↓reduceIte] <;> rfl) | fail) only [go_sem, ↓reduceIte]
  exact Qc rfl rfl
theorem Qyj {k : Nat} {a b : List Int} (ha : MB k a) (hb : MB k b) (hk : k ≤ 1099511627776) : Qe Tryz.prog 143 [PV.mono a, PV.mono b] (· = PV.mono (Qar a b)) := by
  have h1 := ha.len
  have h2 := hb.len
  have hz := Qbz (· + ·) a b
  refine Qg Ql Tryz.func143 rfl Q7p (by simp [Q4i]) fun C hP => ?_; simp only [Q4i]
  simp +decide (disch := first | omega | rfl | (simp +decide only [go_sem, ↓reduceIte] <;> rfl) | fail) only [go_sem, ↓reduceIte]
  refine Qa hP (Qku (f := 169) (g := (· + ·)) (by omega) (by omega) (fun i => Qv8 (by have := ha.eN i; have := hb.eN i; omega) (by have := ha.eN i; have := hb.eN i; omega))) rfl rfl rfl ?_
  simp +decide (disch := first | omega | rfl | (simp +decide only [go_sem, ↓reduceIte] <;> rfl) | fail) only [go_sem, ↓reduceIte]
  refine Qa hP (Qom (by omega)) rfl rfl rfl ?_
  simp +decide (disch := first | omega | rfl | (simp +decide only [go_sem, ↓reduceIte] <;> rfl) | fail) only [go_sem, ↓reduceIte]
  exact Qc rfl rfl
theorem Qlw {k : Nat} {a b : List Int} {o : Int} (ha : MB k a) (hb : MB k b) (hk : k ≤ 1099511627776) : Qe Tryz.prog 48 [PV.mono a, PV.mono b, .int .i64 o] (· = .int .i64 (Qe1 o a b)) := by
  have h1 := ha.len
  have h2 := hb.len
  have hda : ∀ x ∈ a, 0 ≤ x ∧ x ≤ 1099511627776 := fun x hx => by have := ha.lo x hx; have := ha.hi x hx; omega
  have hdb : ∀ x ∈ b, 0 ≤ x ∧ x ≤ 1099511627776 := fun x hx => by have := hb.lo x hx; have := hb.hi x hx; omega
  refine Qg Ql Tryz.func48 rfl Qaak (by simp [c48]) fun C hP => ?_; simp only [c48]
  simp +decide (disch := first | omega | rfl | (simp +decide only [go_sem, ↓reduceIte] <;> rfl) | fail) only [go_sem, ↓reduceIte]
  refine Qb (fun ho => ?_) (fun ho => ?_)
  · simp +decide (disch := first | omega | rfl | (simp +decide only [go_sem, ↓reduceIte] <;> rfl) | fail) only [go_sem, ↓reduceIte]
    refine Qa hP (Qmb (by omega) hda) rfl rfl rfl ?_
    simp +decide (disch := first | omega | rfl | (simp +decide only [go_sem, ↓reduceIte] <;> rfl) | fail) only [go_sem, ↓reduceIte]
    refine Qa hP (Qmb (by omega) hdb) rfl rfl rfl ?_
    simp +decide (disch := first | omega | rfl | (simp +decide only [go_sem, ↓reduceIte] <;> rfl) | fail) only [go_sem, ↓reduceIte]
    refine Qb (fun hd => ?_) (fun hd => ?_)
    · have hord : Qe1 o a b = Qcs (Qfo a) (Qfo b) := by unfold Qe1; rw [if_pos ⟨ho, hd⟩]
      simp +decide (disch := first | omega | rfl | (simp +decide only [go_sem, ↓reduceIte] <;> rfl) | fail) only [go_sem, ↓reduceIte]
      refine Qb (fun h5 => ?_) (fun h5 => ?_)
      · simp +decide (disch := first | omega | rfl | (simp +decide only [go_sem, ↓reduceIte] <;> rfl) | fail) only [go_sem, ↓reduceIte]
        exact Qc (by rw [hord, Qcs, if_pos h5]) rfl
      · simp +decide (disch := first | omega | rfl | (simp +decide only [go_sem, ↓reduceIte] <;> rfl) | fail) only [go_sem, ↓reduceIte]
        exact Qc (by rw [hord, Qcs, if_neg h5, if_pos (by omega)]) rfl
    have hord : Qe1 o a b = Qag a b := by unfold Qe1; rw [if_neg (fun h => hd h.2)]
    simp +decide (disch := first | omega | rfl | (simp +decide only [go_sem, ↓reduceIte] <;> rfl) | fail) only [go_sem, ↓reduceIte]
    refine Qx (by repeat (first | exact Qt | exact Qp | exact Qq | apply Qo | apply Qs | apply Qy | apply Q5 | apply Q6 | apply Qm)) [(6, 6), (9, 11), (30, 45)] [] (fun n J hp => n ≤ max a.length b.length ∧ Qbq a b n = Qag a b ∧ J 9 = .int .i64 ((n : Int) - 1) ∧ hp = hp0) (max a.length b.length) ?_ ?_
    · refine ⟨by omega, rfl, ?_⟩
      simp +decide (disch := first | omega | rfl | (simp +decide only [go_sem, ↓reduceIte] <;> rfl) | fail) only [go_sem, ↓reduceIte]
    rintro n J _ ⟨hn, hc, h9, rfl⟩
    simp +decide (disch := first | omega | rfl | (simp +decide only [go_sem, ↓reduceIte, h9] <;> rfl) | fail) only [go_sem, ↓reduceIte, h9]
    refine Qb (fun hg => ?_) (fun hg => ?_)
    · obtain _ | n := n
      · omega
      have e : ((n + 1 : Nat) : Int) - 1 = n := by omega
      rw [Qbq] at hc
      simp +decide (disch := first | omega | rfl | (simp +decide only [go_sem, ↓reduceIte, h9, e] <;> rfl) | fail) only [go_sem, ↓reduceIte, h9, e]
      refine Qa hP (Qhv (by omega)) rfl rfl rfl ?_
      simp +decide (disch := first | omega | rfl | (simp +decide only [go_sem, ↓reduceIte, h9, e] <;> rfl) | fail) only [go_sem, ↓reduceIte, h9, e]
      refine Qa hP (Qhv (by omega)) rfl rfl rfl ?_
      simp +decide (disch := first | omega | rfl | (simp +decide only [go_sem, ↓reduceIte, h9, e] <;> rfl) | fail) only [go_sem, ↓reduceIte, h9, e]
      refine Qb (fun h4 => ?_) (fun h4 => ?_)
      · rw [if_neg h4] at hc
        simp +decide (disch := first | omega | rfl | (simp +decide only [go_sem, ↓reduceIte, h9, e] <;> rfl) | fail) only [go_sem, ↓reduceIte, h9, e]
        refine Qb (fun h5 => ?_) (fun h5 => ?_)
        · simp +decide (disch := first | omega | rfl | (simp +decide only [go_sem, ↓reduceIte, h9, e] <;> rfl) | fail) only [go_sem, ↓reduceIte, h9, e]
          exact Qc (by rw [hord, ← hc, Qcs, if_pos h5]) rfl
        · simp +decide (disch := first | omega | rfl | (simp +decide only [go_sem, ↓reduceIte, h9, e] <;> rfl) | fail) only [go_sem, ↓reduceIte, h9, e]
          exact Qc (by rw [hord, ← hc, Qcs, if_neg h5, if_pos (by omega)]) rfl
      · rw [if_pos (by omega)] at hc
        simp +decide (disch := first | omega | rfl | (simp +decide only [go_sem, ↓reduceIte, h9, e] <;> rfl) | fail) only [go_sem, ↓reduceIte, h9, e]
        refine Qk n (by omega) ⟨by omega, hc, ?_⟩
        simp +decide (disch := first | omega | rfl | (simp +decide only [go_sem, ↓reduceIte] <;> rfl) | fail) only [go_sem, ↓reduceIte]
    · obtain rfl : n = 0 := by omega
      simp +decide (disch := first | omega | rfl | (simp +decide only [go_sem, ↓reduceIte] <;> rfl) | fail) only [go_sem, ↓reduceIte]
      exact Qc (by rw [hord, ← hc]; rfl) rfl
  · have hord : Qe1 o a b = Qag a b := by unfold Qe1; rw [if_neg (fun h => ho h.1)]
    simp +decide (disch := first | omega | rfl | (simp +decide only [go_sem, ↓reduceIte] <;> rfl) | fail) only [go_sem, ↓reduceIte]
    refine Qx (by repeat (first | exact Qt | exact Qp | exact Qq | apply Qo | apply Qs | apply Qy | apply Q5 | apply Q6 | apply Qm)) [(6, 6), (9, 11), (30, 45)] [] (fun n J hp => n ≤ max a.length b.length ∧ Qbq a b n = Qag a b ∧ J 9 = .int .i64 ((n : Int) - 1) ∧ hp = hp0) (max a.length b.length) ?_ ?_
    · refine ⟨by omega, rfl, ?_⟩
      simp +decide (disch := first | omega | rfl | (simp +decide only [go_sem, ↓reduceIte] <;> rfl) | fail) only [go_sem, ↓reduceIte]
    rintro n J _ ⟨hn, hc, h9, rfl⟩
    simp +decide (disch := first | omega | rfl | (simp +decide only [go_sem, ↓reduceIte, h9] <;> rfl) | fail) only [go_sem, ↓reduceIte, h9]
    refine Qb (fun hg => ?_) (fun hg => ?_)
    · obtain _ | n := n
      · omega
      have e : ((n + 1 : Nat) : Int) - 1 = n := by omega
      rw [Qbq] at hc
      simp +decide (disch := first | omega | rfl | (simp +decide only [go_sem, ↓reduceIte, h9, e] <;> rfl) | fail) only [go_sem, ↓reduceIte, h9, e]
      refine Qa hP (Qhv (by omega)) rfl rfl rfl ?_
      simp +decide (disch := first | omega | rfl | (simp +decide only [go_sem, ↓reduceIte, h9, e] <;> rfl) | fail) only [go_sem, ↓reduceIte, h9, e]
      refine Qa hP (Qhv (by omega)) rfl rfl rfl ?_
      simp +decide (disch := first | omega | rfl | (simp +decide only [go_sem, ↓reduceIte, h9, e] <;> rfl) | fail) only [go_sem, ↓reduceIte, h9, e]
      refine Qb (fun h4 => ?_) (fun h4 => ?_)
      · rw [if_neg h4] at hc
        simp +decide (disch := first | omega | rfl | (simp +decide only [go_sem, ↓reduceIte, h9, e] <;> rfl) | fail) only [go_sem, ↓reduceIte, h9, e]
        refine Qb (fun h5 => ?_) (fun h5 => ?_)
        · simp +decide (disch := first | omega | rfl | (simp +decide only [go_sem, ↓reduceIte, h9, e] <;> rfl) | fail) only [go_sem, ↓reduceIte, h9, e]
          exact Qc (by rw [hord, ← hc, Qcs, if_pos h5]) rfl
        · simp +decide (disch := first | omega | rfl | (simp +decide only [go_sem, ↓reduceIte, h9, e] <;> rfl) | fail) only [go_sem, ↓reduceIte, h9, e]
          exact Qc (by rw [hord, ← hc, Qcs, if_neg h5, if_pos (by omega)]) rfl
      · rw [if_pos (by omega)] at hc
        simp +decide (disch := first | omega | rfl | (simp +decide only [go_sem, ↓reduceIte, h9, e] <;> rfl) | fail) only [go_sem, ↓reduceIte, h9, e]
        refine Qk n (by omega) ⟨by omega, hc, ?_⟩
        simp +decide (disch := first | omega | rfl | (simp +decide only [go_sem, ↓reduceIte] <;> rfl) | fail) only [go_sem, ↓reduceIte]
    · obtain rfl : n = 0 := by omega
      simp +decide (disch := first | omega | rfl | (simp +decide only [go_sem, ↓reduceIte] <;> rfl) | fail) only [go_sem, ↓reduceIte]
      exact Qc (by rw [hord, ← hc]; rfl) rfl
end Go.Proofs.YtjkbalanglgoiaaGreat
namespace Go.Proofs.YtjkbalanglgoiaaGreat
open Go Go.FW
set_option linter.unusedSimpArgs false
set_option linter.unusedVariables false
set_option maxRecDepth 100000
theorem Qacs {a b : Rat} {k : Nat} (ha : rs a ≤ k) (hb : rs b ≤ k) (hk : k < 2 ^ 36) : Qe Tryz.prog 97 [PV.rat a, PV.rat b] (· = PV.rat (a + b)) := by
  have := Qsl (Qb5 ha) (Qb5 hb) hk
  rwa [Qcm, Qcm] at this
theorem Qact {a b : Rat} {k : Nat} (ha : rs a ≤ k) (hb : rs b ≤ k) (hk : k < 2 ^ 36) : Qe Tryz.prog 142 [PV.rat a, PV.rat b] (· = PV.rat (a * b)) := by
  have := Q03 (Qb5 ha) (Qb5 hb) hk
  rwa [Qcm, Qcm] at this
theorem Qm3 {a : Rat} (ha : rs a < 2 ^ 36) : Qe Tryz.prog 59 [PV.rat a] (· = .int .i64 (Qiw a)) := by
  have := Qyi (Qb5 (Nat.le_refl (rs a))) ha
  rwa [Qcm] at this
theorem Qyk {s t : Tm} {E : Nat} (hs : MB E s.2) (ht : MB E t.2) (hE : E ≤ 2 ^ 38) : Qe Tryz.prog 90 [PV.term s, PV.term t] (· = .int .i64 (Qag s.2 t.2)) := by
  refine Qg Ql Tryz.func90 rfl Qaan (by simp [c90]) fun C hP => ?_; simp only [c90]
  simp +decide (disch := first | omega | rfl | (simp +decide only [go_sem, ↓reduceIte] <;> rfl) | fail) only [go_sem, ↓reduceIte]
  refine Qa hP (Qlw (o := 0) hs ht (by omega)) rfl rfl rfl ?_
  simp +decide (disch := first | omega | rfl | (simp +decide only [go_sem, ↓reduceIte] <;> rfl) | fail) only [go_sem, ↓reduceIte]
  exact Qc (by rw [Qm0]) rfl
theorem Qu5 {s t : Tm} {k : Nat} (hs : rs s.1 ≤ k) (ht : rs t.1 ≤ k) (hk : k < 2 ^ 34) : Qe Tryz.prog 91 [PV.term s, PV.term t] (· = .tup [PV.term (s.1 + t.1, s.2), .bool (decide (¬ s.1 + t.1 = 0))]) := by
  have hr := Qp9 s.1 t.1
  refine Qg Ql Tryz.func91 rfl Qaao (by simp [c91]) fun C hP => ?_; simp only [c91]
  simp +decide (disch := first | omega | rfl | (simp +decide only [go_sem, ↓reduceIte] <;> rfl) | fail) only [go_sem, ↓reduceIte]
  refine Qa hP (Qacs (a := s.1) (b := t.1) hs ht (by omega)) rfl rfl rfl ?_
  simp +decide (disch := first | omega | rfl | (simp +decide only [go_sem, ↓reduceIte] <;> rfl) | fail) only [go_sem, ↓reduceIte]
  refine Qa hP (Qm3 (a := s.1 + t.1) (by omega)) rfl rfl rfl ?_
  simp +decide (disch := first | omega | rfl | (simp +decide only [go_sem, ↓reduceIte] <;> rfl) | fail) only [go_sem, ↓reduceIte]
  refine Qjn ?_
  simp +decide (disch := first | omega | rfl | (simp +decide only [go_sem, ↓reduceIte] <;> rfl) | fail) only [go_sem, ↓reduceIte]
  exact Qfn rfl rfl rfl (Qn _) (Qe8 (congrArg PV.bool (decide_eq_decide.2 (not_congr Qbc))))
theorem Qmc {c : Rat} {m : List Int} (hc : rs c < 2 ^ 36) : Qe Tryz.prog 96 [PV.rat c, PV.mono m] (· = PV.poly (if c = 0 then [] else [(c, m)])) := by
  refine Qg Ql Tryz.func96 rfl Qaap (by simp [c96]) fun C hP => ?_; simp only [c96]
  simp +decide (disch := first | omega | rfl | (simp +decide only [go_sem, ↓reduceIte] <;> rfl) | fail) only [go_sem, ↓reduceIte]
  refine Qa hP (Qm3 (a := c) hc) rfl rfl rfl ?_
  simp +decide (disch := first | omega | rfl | (simp +decide only [go_sem, ↓reduceIte] <;> rfl) | fail) only [go_sem, ↓reduceIte]
  refine Qb (fun h0 => ?_) (fun h0 => ?_)
  · rw [if_pos (Qbc.1 h0)]
    simp +decide (disch := first | omega | rfl | (simp +decide only [go_sem, ↓reduceIte] <;> rfl) | fail) only [go_sem, ↓reduceIte]
    exact Qcv Qa8 rfl
  · rw [if_neg (fun h => h0 (Qbc.2 h))]
    simp +decide (disch := first | omega | rfl | (simp +decide only [go_sem, ↓reduceIte, Qd, List.contains_cons, List.contains_nil, List.flatMap_cons, List.flatMap_nil, List.append_nil] <;> rfl) | fail) only [go_sem, ↓reduceIte, Qd, List.contains_cons, List.contains_nil, List.flatMap_cons, List.flatMap_nil, List.append_nil]
    exact Qc rfl rfl
theorem Qu6 {p q : List Tm} {K E : Nat} (hp : PB K E p) (hq : PB K E q) (hK : K ≤ 2 ^ 33) (hE : E ≤ 2 ^ 38) (hlp : p.length ≤ 2 ^ 36) (hlq : q.length ≤ 2 ^ 36) :
    Qe Tryz.prog 89 [PV.poly p, PV.poly q, .fn 90 [] [], .fn 91 [] []] (· = PV.poly (Q3 p q)) := by
  refine Qg Ql Tryz.func89 rfl Qaam (by simp [c89]) fun C hP => ?_; simp only [c89]
  simp +decide (disch := first | omega | rfl | (simp +decide only [go_sem, ↓reduceIte] <;> rfl) | fail) only [go_sem, ↓reduceIte]
  refine Qx (by repeat (first | exact Qt | exact Qp | exact Qq | apply Qo | apply Qs | apply Qy | apply Q5 | apply Q6 | apply Qm)) [(9, 14), (21, 86)] [13, 20, 57, 58, 71, 72, 83, 84] (fun n J hp => ∃ i k out, n = (p.length - i) + (q.length - k) ∧ i ≤ p.length ∧ k ≤ q.length ∧ out.length ≤ i + k ∧ out ++ Q3 (p.drop i) (q.drop k) = Q3 p q ∧
    J 9 = .ms 20 out.length ∧ J 10 = .int .i64 (i : Nat) ∧ J 11 = .int .i64 (k : Nat) ∧ hp 20 = some ⟨4, 61, out.map PV.term, false⟩) (p.length + q.length) ?_ ?_
  · refine ⟨0, 0, [], by omega, by omega, by omega, by simp, rfl, ?_⟩
    simp +decide (disch := first | omega | rfl | (simp +decide only [go_sem, ↓reduceIte] <;> rfl) | fail) only [go_sem, ↓reduceIte]
    simp
  rintro _ J h ⟨i, k, out, rfl, hi, hk, hol, hpad, h9, h10, h11, hh⟩
  simp +decide (disch := first | omega | rfl | (simp +decide only [go_sem, ↓reduceIte, h9, h10, h11] <;> rfl) | fail) only [go_sem, ↓reduceIte, h9, h10, h11]
  refine Qal (fun hg => ?_) (fun hg => ?_)
  · have hi' : i < p.length := by omega
    simp +decide (disch := first | omega | rfl | (simp +decide only [go_sem, ↓reduceIte, h9, h10, h11] <;> rfl) | fail) only [go_sem, ↓reduceIte, h9, h10, h11]
    refine Qb (fun hg2 => ?_) (fun hg2 => ?_)
    · have hk' : k < q.length := by omega
      have htp := hp.get hi'
      have htq := hq.get hk'
      rw [Qsd hi' hk'] at hpad
      have c1 := htp.c
      have c2 := htq.c
      generalize hx : p[i] = x at *
      generalize hy : q[k] = y at *
      simp +decide (disch := first | omega | rfl | (simp +decide only [go_sem, ↓reduceIte, h9, h10, h11, hx, hy] <;> rfl) | fail) only [go_sem, ↓reduceIte, h9, h10, h11, hx, hy]
      refine Qa hP (Qyk (s := x) (t := y) htp.m htq.m hE) rfl rfl rfl ?_
      simp +decide (disch := first | omega | rfl | (simp +decide only [go_sem, ↓reduceIte, h9, h10, h11, hx, hy] <;> rfl) | fail) only [go_sem, ↓reduceIte, h9, h10, h11, hx, hy]
      refine Qb (fun hc => ?_) (fun hc => ?_)
      · rw [if_pos hc] at hpad
        simp +decide (disch := first | omega | rfl | (simp +decide only [go_sem, ↓reduceIte, h9, h10, h11, hx, hy] <;> rfl) | fail) only [go_sem, ↓reduceIte, h9, h10, h11, hx, hy]
        rw [Q9 (f := PV.term) (y := x) (xs := out) (ty' := 61) (fz := false) (by simp +decide (disch := first | omega | rfl | (simp +decide only [go_sem, ↓reduceIte, hh] <;> rfl) | fail) only [go_sem, ↓reduceIte, hh]) (by simp +decide (disch := first | omega | rfl | (simp +decide only [go_sem, ↓reduceIte] <;> rfl) | fail) only [go_sem, ↓reduceIte] <;> rfl) (by omega) rfl (by omega) (by omega)]
        simp +decide (disch := first | omega | rfl | (simp +decide only [go_sem, ↓reduceIte, h9, h10, h11, hx, hy] <;> rfl) | fail) only [go_sem, ↓reduceIte, h9, h10, h11, hx, hy]
        refine Qk ((p.length - (i + 1)) + (q.length - k)) (by omega) ⟨i + 1, k, out ++ [x], rfl, by omega, hk, by simp; omega, by simpa using hpad, ?_⟩
        simp +decide (disch := first | omega | rfl | (simp +decide only [go_sem, ↓reduceIte, h9, h10, h11] <;> rfl) | fail) only [go_sem, ↓reduceIte, h9, h10, h11]
        simp
      rw [if_neg hc] at hpad
      simp +decide (disch := first | omega | rfl | (simp +decide only [go_sem, ↓reduceIte, h9, h10, h11, hx, hy] <;> rfl) | fail) only [go_sem, ↓reduceIte, h9, h10, h11, hx, hy]
      refine Qb (fun hc2 => ?_) (fun hc2 => ?_)
      · rw [if_pos hc2] at hpad
        simp +decide (disch := first | omega | rfl | (simp +decide only [go_sem, ↓reduceIte, h9, h10, h11, hx, hy] <;> rfl) | fail) only [go_sem, ↓reduceIte, h9, h10, h11, hx, hy]
        rw [Q9 (f := PV.term) (y := y) (xs := out) (ty' := 61) (fz := false) (by simp +decide (disch := first | omega | rfl | (simp +decide only [go_sem, ↓reduceIte, hh] <;> rfl) | fail) only [go_sem, ↓reduceIte, hh]) (by simp +decide (disch := first | omega | rfl | (simp +decide only [go_sem, ↓reduceIte] <;> rfl) | fail) only [go_sem, ↓reduceIte] <;> rfl) (by omega) rfl (by omega) (by omega)]
        simp +decide (disch := first | omega | rfl | (simp +decide only [go_sem, ↓reduceIte, h9, h10, h11, hx, hy] <;> rfl) | fail) only [go_sem, ↓reduceIte, h9, h10, h11, hx, hy]
        refine Qk ((p.length - i) + (q.length - (k + 1))) (by omega) ⟨i, k + 1, out ++ [y], rfl, hi, by omega, by simp; omega, by simpa using hpad, ?_⟩
        simp +decide (disch := first | omega | rfl | (simp +decide only [go_sem, ↓reduceIte, h9, h10, h11] <;> rfl) | fail) only [go_sem, ↓reduceIte, h9, h10, h11]
        simp
      rw [if_neg hc2] at hpad
      simp +decide (disch := first | omega | rfl | (simp +decide only [go_sem, ↓reduceIte, h9, h10, h11, hx, hy] <;> rfl) | fail) only [go_sem, ↓reduceIte, h9, h10, h11, hx, hy]
      refine Qei ?_ ?_
      all_goals
        simp +decide (disch := first | omega | rfl | (simp +decide only [go_sem, ↓reduceIte, h9, h10, h11, hx, hy] <;> rfl) | fail) only [go_sem, ↓reduceIte, h9, h10, h11, hx, hy]
        refine Qa hP (Qu5 (s := x) (t := y) (k := 2 ^ 33) (by omega) (by omega) (by omega)) rfl rfl rfl ?_
        simp +decide (disch := first | omega | rfl | (simp +decide only [go_sem, ↓reduceIte, h9, h10, h11, hx, hy] <;> rfl) | fail) only [go_sem, ↓reduceIte, h9, h10, h11, hx, hy]
        refine Qb (fun hz => ?_) (fun hz => ?_)
        · rw [if_neg hz] at hpad
          simp +decide (disch := first | omega | rfl | (simp +decide only [go_sem, ↓reduceIte, h9, h10, h11, hx, hy] <;> rfl) | fail) only [go_sem, ↓reduceIte, h9, h10, h11, hx, hy]
          rw [Q9 (f := PV.term) (y := (x.1 + y.1, x.2)) (xs := out) (ty' := 61) (fz := false) (by simp +decide (disch := first | omega | rfl | (simp +decide only [go_sem, ↓reduceIte, hh] <;> rfl) | fail) only [go_sem, ↓reduceIte, hh]) (by simp +decide (disch := first | omega | rfl | (simp +decide only [go_sem, ↓reduceIte] <;> rfl) | fail) only [go_sem, ↓reduceIte] <;> rfl) (by omega) rfl (by omega) (by omega)]
          simp +decide (disch := first | omega | rfl | (simp +decide only [go_sem, ↓reduceIte, h9, h10, h11, hx, hy] <;> rfl) | fail) only [go_sem, ↓reduceIte, h9, h10, h11, hx, hy]
          refine Qk ((p.length - (i + 1)) + (q.length - (k + 1))) (by omega) ⟨i + 1, k + 1, out ++ [(x.1 + y.1, x.2)], rfl, by omega, by omega, by simp; omega, by simpa using hpad, ?_⟩
          simp +decide (disch := first | omega | rfl | (simp +decide only [go_sem, ↓reduceIte, h9, h10, h11] <;> rfl) | fail) only [go_sem, ↓reduceIte, h9, h10, h11]
          simp
        · rw [if_pos (Decidable.not_not.1 hz)] at hpad
          simp +decide (disch := first | omega | rfl | (simp +decide only [go_sem, ↓reduceIte, h9, h10, h11, hx, hy] <;> rfl) | fail) only [go_sem, ↓reduceIte, h9, h10, h11, hx, hy]
          refine Qk ((p.length - (i + 1)) + (q.length - (k + 1))) (by omega) ⟨i + 1, k + 1, out, rfl, by omega, by omega, by omega, hpad, ?_⟩
          simp +decide (disch := first | omega | rfl | (simp +decide only [go_sem, ↓reduceIte, h9, h10, h11, hh] <;> rfl) | fail) only [go_sem, ↓reduceIte, h9, h10, h11, hh]
    · have hfin : (out ++ p.drop i ++ q.drop k).take (out.length + (p.drop i).length + (q.drop k).length) = Q3 p q := by
        rw [List.take_of_length_le (by simp; omega), ← hpad, List.drop_of_length_le (by omega : q.length ≤ k), Qco, List.append_nil]
      simp +decide (disch := first | omega | rfl | (simp +decide only [go_sem, ↓reduceIte, h9, h10, h11] <;> rfl) | fail) only [go_sem, ↓reduceIte, h9, h10, h11]
      rw [Qcx (f := PV.term) (xs := out) (ys := p.drop i) (by simp +decide (disch := first | omega | rfl | (simp +decide only [go_sem, ↓reduceIte, hh] <;> rfl) | fail) only [go_sem, ↓reduceIte, hh]) rfl (by omega) (by simp; omega) (by simp; omega)]
      simp +decide (disch := first | omega | rfl | (simp +decide only [go_sem, ↓reduceIte, h9, h10, h11] <;> rfl) | fail) only [go_sem, ↓reduceIte, h9, h10, h11]
      rw [Qcx (f := PV.term) (xs := out ++ p.drop i) (ys := q.drop k) (by simp +decide (disch := first | omega | rfl | (simp +decide only [go_sem, ↓reduceIte] <;> rfl) | fail) only [go_sem, ↓reduceIte]) (by simp) (by omega) (by simp; omega) (by simp; omega)]
      simp +decide (disch := first | omega | rfl | (simp +decide only [go_sem, ↓reduceIte, h9, h10, h11, Qd, List.contains_cons, List.contains_nil, List.flatMap_cons, List.flatMap_nil, List.append_nil] <;> rfl) | fail) only [go_sem, ↓reduceIte, h9, h10, h11, Qd, List.contains_cons, List.contains_nil, List.flatMap_cons, List.flatMap_nil, List.append_nil]
      exact Qc (by rw [← List.map_take, hfin]) rfl
  · have hfin : (out ++ p.drop i ++ q.drop k).take (out.length + (p.drop i).length + (q.drop k).length) = Q3 p q := by
      rw [List.take_of_length_le (by simp; omega), ← hpad, List.drop_of_length_le (by omega : p.length ≤ i), Qfb, List.append_nil]
    simp +decide (disch := first | omega | rfl | (simp +decide only [go_sem, ↓reduceIte, h9, h10, h11] <;> rfl) | fail) only [go_sem, ↓reduceIte, h9, h10, h11]
    rw [Qcx (f := PV.term) (xs := out) (ys := p.drop i) (by simp +decide (disch := first | omega | rfl | (simp +decide only [go_sem, ↓reduceIte, hh] <;> rfl) | fail) only [go_sem, ↓reduceIte, hh]) rfl (by omega) (by simp; omega) (by simp; omega)]
    simp +decide (disch := first | omega | rfl | (simp +decide only [go_sem, ↓reduceIte, h9, h10, h11] <;> rfl) | fail) only [go_sem, ↓reduceIte, h9, h10, h11]
    rw [Qcx (f := PV.term) (xs := out ++ p.drop i) (ys := q.drop k) (by simp +decide (disch := first | omega | rfl | (simp +decide only [go_sem, ↓reduceIte] <;> rfl) | fail) only [go_sem, ↓reduceIte]) (by simp) (by omega) (by simp; omega) (by simp; omega)]
    simp +decide (disch := first | omega | rfl | (simp +decide only [go_sem, ↓reduceIte, h9, h10, h11, Qd, List.contains_cons, List.contains_nil, List.flatMap_cons, List.flatMap_nil, List.append_nil] <;> rfl) | fail) only [go_sem, ↓reduceIte, h9, h10, h11, Qd, List.contains_cons, List.contains_nil, List.flatMap_cons, List.flatMap_nil, List.append_nil]
    exact Qc (by rw [← List.map_take, hfin]) rfl
theorem Qic {p q : List Tm} {K E : Nat} (hp : PB K E p) (hq : PB K E q) (hK : K ≤ 2 ^ 33) (hE : E ≤ 2 ^ 38) (hlp : p.length ≤ 2 ^ 36) (hlq : q.length ≤ 2 ^ 36) :
    Qe Tryz.prog 38 [PV.poly p, PV.poly q] (· = PV.poly (Q3 p q)) := by
  refine Qg Ql Tryz.func38 rfl Qaat (by simp [c38]) fun C hP => ?_; simp only [c38]
  simp +decide (disch := first | omega | rfl | (simp +decide only [go_sem, ↓reduceIte] <;> rfl) | fail) only [go_sem, ↓reduceIte]
  refine Qa hP (Qu6 hp hq hK hE hlp hlq) rfl rfl rfl ?_
  simp +decide (disch := first | omega | rfl | (simp +decide only [go_sem, ↓reduceIte] <;> rfl) | fail) only [go_sem, ↓reduceIte]
  exact Qc rfl rfl
end Go.Proofs.YtjkbalanglgoiaaGreat
namespace Go.Proofs.YtjkbalanglgoiaaGreat
open Go Go.FW
set_option linter.unusedSimpArgs false
set_option linter.unusedVariables false
set_option maxRecDepth 100000
theorem Qqj {K E : Nat} (hE : E ≤ 2 ^ 38) : ∀ (n : Nat) (l : List (List Tm)), l.length ≤ n → (∀ p ∈ l, PB K E p) → l.length * K ≤ 2 ^ 33 → l.length ≤ 2 ^ 36 → Qlm l ≤ 2 ^ 36 → Qe Tryz.prog 84 [PV.polys l] (· = PV.poly (Qcb l)) := by
  intro n
  induction n with
  | zero =>
    intro l hl _ _ _ _
    have : l = [] := List.length_eq_zero_iff.1 (by omega)
    subst this
    refine Qg Ql Tryz.func84 rfl Q02 (by simp [c84]) fun C hP => ?_; simp only [c84]
    simp +decide (disch := first | omega | rfl | (simp +decide only [go_sem, ↓reduceIte, List.map_nil, List.length_nil] <;> rfl) | fail) only [go_sem, ↓reduceIte, List.map_nil, List.length_nil]
    exact Qcv (Qht (by rw [Qcb])) rfl
  | succ n ih =>
    intro l hl hb hK hll hpl
    refine Qg Ql Tryz.func84 rfl Q02 (by simp [c84]) fun C hP => ?_; simp only [c84]
    simp +decide (disch := first | omega | rfl | (simp +decide only [go_sem, ↓reduceIte] <;> rfl) | fail) only [go_sem, ↓reduceIte]
    refine Qb (fun h0 => ?_) (fun h0 => ?_)
    · have : l = [] := List.length_eq_zero_iff.1 (by omega)
      subst this
      simp +decide (disch := first | omega | rfl | (simp +decide only [go_sem, ↓reduceIte] <;> rfl) | fail) only [go_sem, ↓reduceIte]
      exact Qcv (Qht (by rw [Qcb])) rfl
    simp +decide (disch := first | omega | rfl | (simp +decide only [go_sem, ↓reduceIte] <;> rfl) | fail) only [go_sem, ↓reduceIte]
    refine Qb (fun h1 => ?_) (fun h1 => ?_)
    · obtain ⟨p, rfl⟩ : ∃ p, l = [p] := List.length_eq_one_iff.1 (by omega)
      simp +decide (disch := first | omega | rfl | (simp +decide only [go_sem, ↓reduceIte, List.map_cons, List.map_nil] <;> rfl) | fail) only [go_sem, ↓reduceIte, List.map_cons, List.map_nil]
      exact Qc (by rw [Qcb]; rfl) rfl
    have h2 : 2 ≤ l.length := by omega
    have hs := Qqb l (l.length / 2)
    have e : (2 : Int) = ((2 : Nat) : Int) := rfl
    have hq : ∀ d fr hp K, Qav .quo false (.int .i64 (l.length : Int)) (.int .i64 2) d fr hp K = K (upd fr d (.int .i64 ((l.length / 2 : Nat) : Int))) hp := fun d fr hp K => by
      rw [e, Qrf (by omega) (by omega)]
    have b1 := Qln (K := K) (E := E) _ (l.take (l.length / 2)) (Nat.le_refl _) (fun p hp => hb p (List.mem_of_mem_take hp))
    have b2 := Qln (K := K) (E := E) _ (l.drop (l.length / 2)) (Nat.le_refl _) (fun p hp => hb p (List.mem_of_mem_drop hp))
    have l1 : (l.take (l.length / 2)).length * K ≤ l.length * K := Nat.mul_le_mul_right _ (by rw [List.length_take]; omega)
    have l2 : (l.drop (l.length / 2)).length * K ≤ l.length * K := Nat.mul_le_mul_right _ (by rw [List.length_drop]; omega)
    simp +decide (disch := first | omega | rfl | (simp +decide only [go_sem, ↓reduceIte, hq] <;> rfl) | fail) only [go_sem, ↓reduceIte, hq]
    refine Qa hP (ih (l.take (l.length / 2)) (by rw [List.length_take]; omega) (fun p hp => hb p (List.mem_of_mem_take hp)) (by omega) (by rw [List.length_take]; omega) (by omega)) rfl rfl rfl ?_
    simp +decide (disch := first | omega | rfl | (simp +decide only [go_sem, ↓reduceIte, hq] <;> rfl) | fail) only [go_sem, ↓reduceIte, hq]
    refine Qa hP (ih (l.drop (l.length / 2)) (by rw [List.length_drop]; omega) (fun p hp => hb p (List.mem_of_mem_drop hp)) (by omega) (by rw [List.length_drop]; omega) (by omega)) rfl rfl rfl ?_
    simp +decide (disch := first | omega | rfl | (simp +decide only [go_sem, ↓reduceIte, hq] <;> rfl) | fail) only [go_sem, ↓reduceIte, hq]
    refine Qa hP (Qic (b1.1.mono (K' := l.length * K) l1 (Nat.le_refl _)) (b2.1.mono l2 (Nat.le_refl _)) hK hE (by omega) (by omega)) rfl rfl rfl ?_
    simp +decide (disch := first | omega | rfl | (simp +decide only [go_sem, ↓reduceIte] <;> rfl) | fail) only [go_sem, ↓reduceIte]
    exact Qc (by rw [Qhr h2]) rfl
theorem Qj7 {p : List Tm} {t : Tm} {i : Nat} (h : i < p.length) : Q8 (p.take (i + 1)) t = Q8 (p.take i) t ++ (if p[i].1 * t.1 = 0 then [] else [(p[i].1 * t.1, Qar p[i].2 t.2)]) := by
  rw [List.take_succ_eq_append_getElem h, Q8, List.filterMap_append, Q8]
  congr 1
  simp only [List.filterMap_cons, List.filterMap_nil]
  split <;> split <;> simp_all
theorem Qi1 {p : List Tm} {t : Tm} {K E : Nat} (hp : PB K E p) (ht : TB K E t) (hK : K ≤ 2 ^ 33) (hE : E ≤ 2 ^ 38) (hlp : p.length ≤ 2 ^ 36) :
    Qe Tryz.prog 83 [PV.poly p, PV.term t] (· = PV.poly (Q8 p t)) := by
  refine Qg Ql Tryz.func83 rfl Qaav (by simp [c83]) fun C hP => ?_; simp only [c83]
  simp +decide (disch := first | omega | rfl | (simp +decide only [go_sem, ↓reduceIte] <;> rfl) | fail) only [go_sem, ↓reduceIte]
  refine Qx (by repeat (first | exact Qt | exact Qp | exact Qq | apply Qo | apply Qs | apply Qy | apply Q5 | apply Q6 | apply Qm)) [(5, 5), (7, 8), (14, 36)] [7, 8, 11, 34, 35] (fun n J hp => ∃ i, n = p.length - i ∧ i ≤ p.length ∧ J 5 = .ms 11 (Q8 (p.take i) t).length ∧ J 14 = .int .i64 (i : Nat) ∧ hp 3 = some ⟨4, 61, [PV.term t], false⟩ ∧ hp 11 = some ⟨4, 61, (Q8 (p.take i) t).map PV.term, false⟩) p.length ?_ ?_
  · refine ⟨0, rfl, by omega, ?_⟩
    simp +decide (disch := first | omega | rfl | (simp +decide only [go_sem, ↓reduceIte] <;> rfl) | fail) only [go_sem, ↓reduceIte]
    simp [Q8]
  rintro _ J h ⟨i, rfl, hi, h5, h14, hh3, hh11⟩
  simp +decide (disch := first | omega | rfl | (simp +decide only [go_sem, ↓reduceIte, h5, h14] <;> rfl) | fail) only [go_sem, ↓reduceIte, h5, h14]
  refine Qb (fun hg => ?_) (fun hg => ?_)
  · have hi' : i < p.length := by omega
    have htp := hp.get hi'
    have htk := Qj7 (t := t) hi'
    have hlen := Qc1 (p.take i) t
    rw [List.length_take] at hlen
    have c1 := htp.c
    have c2 := ht.c
    have hrm := Qup p[i].1 t.1
    generalize hx : p[i] = x at *
    simp +decide (disch := first | omega | rfl | (simp +decide only [go_sem, ↓reduceIte, h5, h14, hh3, hx] <;> rfl) | fail) only [go_sem, ↓reduceIte, h5, h14, hh3, hx]
    refine Qa hP (Qact (a := x.1) (b := t.1) (k := 2 ^ 33) (by omega) (by omega) (by omega)) rfl rfl rfl ?_
    simp +decide (disch := first | omega | rfl | (simp +decide only [go_sem, ↓reduceIte, h5, h14, hh3, hx] <;> rfl) | fail) only [go_sem, ↓reduceIte, h5, h14, hh3, hx]
    refine Qa hP (Qm3 (a := x.1 * t.1) (by omega)) rfl rfl rfl ?_
    simp +decide (disch := first | omega | rfl | (simp +decide only [go_sem, ↓reduceIte, h5, h14, hh3, hx] <;> rfl) | fail) only [go_sem, ↓reduceIte, h5, h14, hh3, hx]
    refine Qb (fun hz => ?_) (fun hz => ?_)
    · rw [if_neg (fun h => hz (Qbc.2 h))] at htk
      simp +decide (disch := first | omega | rfl | (simp +decide only [go_sem, ↓reduceIte, h5, h14, hh3, hx] <;> rfl) | fail) only [go_sem, ↓reduceIte, h5, h14, hh3, hx]
      refine Qa hP (Qyj htp.m ht.m (by omega)) rfl rfl rfl ?_
      simp +decide (disch := first | omega | rfl | (simp +decide only [go_sem, ↓reduceIte, h5, h14, hh3, hx] <;> rfl) | fail) only [go_sem, ↓reduceIte, h5, h14, hh3, hx]
      rw [Q9 (f := PV.term) (y := (x.1 * t.1, Qar x.2 t.2)) (xs := Q8 (p.take i) t) (ty' := 61) (fz := false) (by simp +decide (disch := first | omega | rfl | (simp +decide only [go_sem, ↓reduceIte, hh11] <;> rfl) | fail) only [go_sem, ↓reduceIte, hh11]) (by simp +decide (disch := first | omega | rfl | (simp +decide only [go_sem, ↓reduceIte] <;> rfl) | fail) only [go_sem, ↓reduceIte] <;> rfl) (by omega) rfl (by omega) (by omega)]
      rw [← htk]
      simp +decide (disch := first | omega | rfl | (simp +decide only [go_sem, ↓reduceIte, h5, h14, hh3, hx] <;> rfl) | fail) only [go_sem, ↓reduceIte, h5, h14, hh3, hx]
      refine Qk (p.length - (i + 1)) (by omega) ⟨i + 1, rfl, by omega, ?_⟩
      rw [htk]
      simp +decide (disch := first | omega | rfl | (simp +decide only [go_sem, ↓reduceIte, h5, h14, hh3, List.length_append] <;> rfl) | fail) only [go_sem, ↓reduceIte, h5, h14, hh3, List.length_append]
    · rw [if_pos (Qbc.1 (Decidable.not_not.1 hz)), List.append_nil] at htk
      simp +decide (disch := first | omega | rfl | (simp +decide only [go_sem, ↓reduceIte, h5, h14, hh3, hx] <;> rfl) | fail) only [go_sem, ↓reduceIte, h5, h14, hh3, hx]
      refine Qk (p.length - (i + 1)) (by omega) ⟨i + 1, rfl, by omega, ?_⟩
      rw [htk]
      simp +decide (disch := first | omega | rfl | (simp +decide only [go_sem, ↓reduceIte, h5, h14, hh3, hh11] <;> rfl) | fail) only [go_sem, ↓reduceIte, h5, h14, hh3, hh11]
  · obtain rfl : i = p.length := by omega
    rw [List.take_length] at h5 hh11
    simp +decide (disch := first | omega | rfl | (simp +decide only [go_sem, ↓reduceIte, h5, hh11, Qd, List.contains_cons, List.contains_nil, List.flatMap_cons, List.flatMap_nil, List.append_nil] <;> rfl) | fail) only [go_sem, ↓reduceIte, h5, hh11, Qd, List.contains_cons, List.contains_nil, List.flatMap_cons, List.flatMap_nil, List.append_nil]
    exact Qc (by simp [List.take_of_length_le]) rfl
theorem Qdq {p q : List Tm} {K E : Nat} (hp : PB K E p) (hq : PB K E q) (hE : E ≤ 2 ^ 37) (hlp : p.length ≤ 2 ^ 30) (hlq : q.length ≤ 2 ^ 30) (hlm : p.length * q.length ≤ 2 ^ 36) (hK : min p.length q.length * (K + K) ≤ 2 ^ 33) (hK2 : K ≤ 2 ^ 33) :
    Qe Tryz.prog 32 [PV.poly p, PV.poly q] (· = PV.poly (Qaz p q)) := by
  have main : ∀ (p q : List Tm), PB K E p → PB K E q → p.length ≤ 2 ^ 30 → q.length ≤ 2 ^ 30 → p.length * q.length ≤ 2 ^ 36 → p.length * (K + K) ≤ 2 ^ 33 → p.length ≤ q.length → True := fun _ _ _ _ _ _ _ _ _ => trivial
  refine Qg Ql Tryz.func32 rfl Qaaw (by simp [c32]) fun C hP => ?_; simp only [c32]
  simp +decide (disch := first | omega | rfl | (simp +decide only [go_sem, ↓reduceIte] <;> rfl) | fail) only [go_sem, ↓reduceIte]
  refine Qb (fun hg => ?_) (fun hg => ?_)
  · have hfin : Qhd q p = Qaz p q := by rw [Qaz, if_pos (by omega)]
    have hK3 : q.length * (K + K) ≤ 2 ^ 33 := by rw [Nat.min_eq_right (by omega)] at hK; exact hK
    have hlm2 : q.length * p.length ≤ 2 ^ 36 := by rw [Nat.mul_comm]; exact hlm
    simp +decide (disch := first | omega | rfl | (simp +decide only [go_sem, ↓reduceIte] <;> rfl) | fail) only [go_sem, ↓reduceIte]
    refine Qx (by repeat (first | exact Qt | exact Qp | exact Qq | apply Qo | apply Qs | apply Qy | apply Q5 | apply Q6 | apply Qm)) [(5, 5), (7, 7), (20, 30)] [7, 17, 28, 29] (fun n J hp => ∃ i, n = q.length - i ∧ i ≤ q.length ∧ J 5 = .ms 17 i ∧ J 20 = .int .i64 (i : Nat) ∧ hp 17 = some ⟨1, 23, ((q.take i).map (Q8 p)).map PV.poly, false⟩) q.length ?_ ?_
    · refine ⟨0, rfl, by omega, ?_⟩
      simp +decide (disch := first | omega | rfl | (simp +decide only [go_sem, ↓reduceIte] <;> rfl) | fail) only [go_sem, ↓reduceIte]
      simp
    rintro _ J h ⟨i, rfl, hi, h5, h20, hh⟩
    simp +decide (disch := first | omega | rfl | (simp +decide only [go_sem, ↓reduceIte, h5, h20] <;> rfl) | fail) only [go_sem, ↓reduceIte, h5, h20]
    refine Qb (fun hg2 => ?_) (fun hg2 => ?_)
    · have hi' : i < q.length := by omega
      have htp := hq.get hi'
      have htk : (q.take (i + 1)).map (Q8 p) = (q.take i).map (Q8 p) ++ [Q8 p q[i]] := by
        rw [List.take_succ_eq_append_getElem hi', List.map_append]; rfl
      generalize hx : q[i] = x at *
      simp +decide (disch := first | omega | rfl | (simp +decide only [go_sem, ↓reduceIte, h5, h20, hx] <;> rfl) | fail) only [go_sem, ↓reduceIte, h5, h20, hx]
      refine Qa hP (Qi1 (t := x) hp htp hK2 (by omega) (by omega)) rfl rfl rfl ?_
      simp +decide (disch := first | omega | rfl | (simp +decide only [go_sem, ↓reduceIte, h5, h20, hx] <;> rfl) | fail) only [go_sem, ↓reduceIte, h5, h20, hx]
      rw [Q9 (f := PV.poly) (y := Q8 p x) (xs := (q.take i).map (Q8 p)) (ty' := 23) (fz := false) (by simp +decide (disch := first | omega | rfl | (simp +decide only [go_sem, ↓reduceIte, hh] <;> rfl) | fail) only [go_sem, ↓reduceIte, hh]) (by simp +decide (disch := first | omega | rfl | (simp +decide only [go_sem, ↓reduceIte] <;> rfl) | fail) only [go_sem, ↓reduceIte] <;> rfl) (by omega) (by simp; omega) (by omega) (by omega)]
      rw [← htk]
      simp +decide (disch := first | omega | rfl | (simp +decide only [go_sem, ↓reduceIte, h5, h20, hx] <;> rfl) | fail) only [go_sem, ↓reduceIte, h5, h20, hx]
      refine Qk (q.length - (i + 1)) (by omega) ⟨i + 1, rfl, by omega, ?_⟩
      simp +decide (disch := first | omega | rfl | (simp +decide only [go_sem, ↓reduceIte, h5, h20] <;> rfl) | fail) only [go_sem, ↓reduceIte, h5, h20]
    · obtain rfl : i = q.length := by omega
      rw [List.take_length] at hh
      have hpl := Qg3 q p
      simp +decide (disch := first | omega | rfl | (simp +decide only [go_sem, ↓reduceIte, h5, hh] <;> rfl) | fail) only [go_sem, ↓reduceIte, h5, hh]
      refine Qbh hP (Qqj (K := K + K) (E := E + E) (by omega) _ (q.map (Q8 p)) (Nat.le_refl _) (fun x hx => by
        obtain ⟨t, ht, rfl⟩ := List.mem_map.1 hx
        exact Qf5 hp (hq t ht)) (by rw [List.length_map]; omega) (by rw [List.length_map]; omega) (by omega)) (by simp +decide (disch := first | omega | rfl | (simp +decide only [go_sem, ↓reduceIte, hh, Qd, List.contains_cons, List.contains_nil, List.flatMap_cons, List.flatMap_nil, List.append_nil] <;> rfl) | fail) only [go_sem, ↓reduceIte, hh, Qd, List.contains_cons, List.contains_nil, List.flatMap_cons, List.flatMap_nil, List.append_nil]; simp [List.take_of_length_le]) rfl ?_
      simp +decide (disch := first | omega | rfl | (simp +decide only [go_sem, ↓reduceIte] <;> rfl) | fail) only [go_sem, ↓reduceIte]
      exact Qc (congrArg PV.poly hfin) rfl
  · have hfin : Qhd p q = Qaz p q := by rw [Qaz, if_neg (by omega)]
    have hK3 : p.length * (K + K) ≤ 2 ^ 33 := by rw [Nat.min_eq_left (by omega)] at hK; exact hK
    simp +decide (disch := first | omega | rfl | (simp +decide only [go_sem, ↓reduceIte] <;> rfl) | fail) only [go_sem, ↓reduceIte]
    refine Qx (by repeat (first | exact Qt | exact Qp | exact Qq | apply Qo | apply Qs | apply Qy | apply Q5 | apply Q6 | apply Qm)) [(5, 5), (7, 7), (20, 30)] [7, 17, 28, 29] (fun n J hp => ∃ i, n = p.length - i ∧ i ≤ p.length ∧ J 5 = .ms 17 i ∧ J 20 = .int .i64 (i : Nat) ∧ hp 17 = some ⟨1, 23, ((p.take i).map (Q8 q)).map PV.poly, false⟩) p.length ?_ ?_
    · refine ⟨0, rfl, by omega, ?_⟩
      simp +decide (disch := first | omega | rfl | (simp +decide only [go_sem, ↓reduceIte] <;> rfl) | fail) only [go_sem, ↓reduceIte]
      simp
    rintro _ J h ⟨i, rfl, hi, h5, h20, hh⟩
    simp +decide (disch := first | omega | rfl | (simp +decide only [go_sem, ↓reduceIte, h5, h20] <;> rfl) | fail) only [go_sem, ↓reduceIte, h5, h20]
    refine Qb (fun hg2 => ?_) (fun hg2 => ?_)
    · have hi' : i < p.length := by omega
      have htp := hp.get hi'
      have htk : (p.take (i + 1)).map (Q8 q) = (p.take i).map (Q8 q) ++ [Q8 q p[i]] := by
        rw [List.take_succ_eq_append_getElem hi', List.map_append]; rfl
      generalize hx : p[i] = x at *
      simp +decide (disch := first | omega | rfl | (simp +decide only [go_sem, ↓reduceIte, h5, h20, hx] <;> rfl) | fail) only [go_sem, ↓reduceIte, h5, h20, hx]
      refine Qa hP (Qi1 (t := x) hq htp hK2 (by omega) (by omega)) rfl rfl rfl ?_
      simp +decide (disch := first | omega | rfl | (simp +decide only [go_sem, ↓reduceIte, h5, h20, hx] <;> rfl) | fail) only [go_sem, ↓reduceIte, h5, h20, hx]
      rw [Q9 (f := PV.poly) (y := Q8 q x) (xs := (p.take i).map (Q8 q)) (ty' := 23) (fz := false) (by simp +decide (disch := first | omega | rfl | (simp +decide only [go_sem, ↓reduceIte, hh] <;> rfl) | fail) only [go_sem, ↓reduceIte, hh]) (by simp +decide (disch := first | omega | rfl | (simp +decide only [go_sem, ↓reduceIte] <;> rfl) | fail) only [go_sem, ↓reduceIte] <;> rfl) (by omega) (by simp; omega) (by omega) (by omega)]
      rw [← htk]
      simp +decide (disch := first | omega | rfl | (simp +decide only [go_sem, ↓reduceIte, h5, h20, hx] <;> rfl) | fail) only [go_sem, ↓reduceIte, h5, h20, hx]
      refine Qk (p.length - (i + 1)) (by omega) ⟨i + 1, rfl, by omega, ?_⟩
      simp +decide (disch := first | omega | rfl | (simp +decide only [go_sem, ↓reduceIte, h5, h20] <;> rfl) | fail) only [go_sem, ↓reduceIte, h5, h20]
    · obtain rfl : i = p.length := by omega
      rw [List.take_length] at hh
      have hpl := Qg3 p q
      simp +decide (disch := first | omega | rfl | (simp +decide only [go_sem, ↓reduceIte, h5, hh] <;> rfl) | fail) only [go_sem, ↓reduceIte, h5, hh]
      refine Qbh hP (Qqj (K := K + K) (E := E + E) (by omega) _ (p.map (Q8 q)) (Nat.le_refl _) (fun x hx => by
        obtain ⟨t, ht, rfl⟩ := List.mem_map.1 hx
        exact Qf5 hq (hp t ht)) (by rw [List.length_map]; omega) (by rw [List.length_map]; omega) (by omega)) (by simp +decide (disch := first | omega | rfl | (simp +decide only [go_sem, ↓reduceIte, hh, Qd, List.contains_cons, List.contains_nil, List.flatMap_cons, List.flatMap_nil, List.append_nil] <;> rfl) | fail) only [go_sem, ↓reduceIte, hh, Qd, List.contains_cons, List.contains_nil, List.flatMap_cons, List.flatMap_nil, List.append_nil]; simp [List.take_of_length_le]) rfl ?_
      simp +decide (disch := first | omega | rfl | (simp +decide only [go_sem, ↓reduceIte] <;> rfl) | fail) only [go_sem, ↓reduceIte]
      exact Qc (congrArg PV.poly hfin) rfl
end Go.Proofs.YtjkbalanglgoiaaGreat
namespace Go.Proofs.YtjkbalanglgoiaaGreat
open Go Go.FW
set_option linter.unusedSimpArgs false
set_option linter.unusedVariables false
set_option maxRecDepth 100000
theorem Qi2 {p : List Tm} {a : Rat} {K E : Nat} (hp : PB K E p) (ha : rs a + 1 ≤ K) (hK : K ≤ 2 ^ 33) (hE : E ≤ 2 ^ 38) (hlp : p.length ≤ 2 ^ 36) : Qe Tryz.prog 33 [PV.poly p, PV.rat a] (· = PV.poly (Qbu p a)) := by
  refine Qg Ql Tryz.func33 rfl Qaax (by simp [c33]) fun C hP => ?_; simp only [c33]
  simp +decide (disch := first | omega | rfl | (simp +decide only [go_sem, ↓reduceIte] <;> rfl) | fail) only [go_sem, ↓reduceIte]
  refine Qa hP (Qm3 (a := a) (by omega)) rfl rfl rfl ?_
  simp +decide (disch := first | omega | rfl | (simp +decide only [go_sem, ↓reduceIte] <;> rfl) | fail) only [go_sem, ↓reduceIte]
  refine Qb (fun h0 => ?_) (fun h0 => ?_)
  · simp +decide (disch := first | omega | rfl | (simp +decide only [go_sem, ↓reduceIte] <;> rfl) | fail) only [go_sem, ↓reduceIte]
    exact Qcv (Qht (by rw [Qbu, if_pos (Qbc.1 h0)])) rfl
  · simp +decide (disch := first | omega | rfl | (simp +decide only [go_sem, ↓reduceIte] <;> rfl) | fail) only [go_sem, ↓reduceIte]
    refine Qa hP ((Qi1 (t := (a, [])) hp (TB.num ha) hK hE hlp).le (args' := [PV.poly p, .agg [.bool (decide (a.num < 0)), PV.num a.num.natAbs, PV.num a.den, .nilS]]) ⟨Qn _, ⟨rfl, Qef _, Qef _, trivial, trivial⟩, trivial⟩) rfl rfl rfl ?_
    simp +decide (disch := first | omega | rfl | (simp +decide only [go_sem, ↓reduceIte] <;> rfl) | fail) only [go_sem, ↓reduceIte]
    exact Qc (by rw [Qbu, if_neg (fun h => h0 (Qbc.2 h))]) rfl
theorem Qyl {p : List Tm} {K E : Nat} (hp : PB K E p) (hK2 : 2 ≤ K) (hK : K ≤ 2 ^ 33) (hE : E ≤ 2 ^ 38) (hlp : p.length ≤ 2 ^ 36) : Qe Tryz.prog 98 [PV.poly p] (· = PV.poly (Qix p)) := by
  have h1 := Qya
  refine Qg Ql Tryz.func98 rfl Qaas (by simp [c98]) fun C hP => ?_; simp only [c98]
  simp +decide (disch := first | omega | rfl | (simp +decide only [go_sem, ↓reduceIte] <;> rfl) | fail) only [go_sem, ↓reduceIte]
  refine Qa hP (Qjr (x := -1) (by omega) (by omega)) rfl rfl rfl ?_
  simp +decide (disch := first | omega | rfl | (simp +decide only [go_sem, ↓reduceIte] <;> rfl) | fail) only [go_sem, ↓reduceIte]
  refine Qa hP (Qi2 (a := ((-1 : Int) : Rat)) hp (by have : ((-1 : Int) : Rat) = -1 := rfl; rw [this]; omega) hK hE hlp) rfl rfl rfl ?_
  simp +decide (disch := first | omega | rfl | (simp +decide only [go_sem, ↓reduceIte] <;> rfl) | fail) only [go_sem, ↓reduceIte]
  exact Qc rfl rfl
theorem Qgk {p q : List Tm} {K E : Nat} (hp : PB K E p) (hq : PB K E q) (hK2 : 2 ≤ K) (hK : K ≤ 2 ^ 32) (hE : E ≤ 2 ^ 38) (hlp : p.length ≤ 2 ^ 36) (hlq : q.length ≤ 2 ^ 36) : Qe Tryz.prog 42 [PV.poly p, PV.poly q] (· = PV.poly (Qf0 p q)) := by
  have hl := Qdk q (-1)
  refine Qg Ql Tryz.func42 rfl Qaau (by simp [c42]) fun C hP => ?_; simp only [c42]
  simp +decide (disch := first | omega | rfl | (simp +decide only [go_sem, ↓reduceIte] <;> rfl) | fail) only [go_sem, ↓reduceIte]
  refine Qa hP (Qyl hq hK2 (by omega) hE hlq) rfl rfl rfl ?_
  simp +decide (disch := first | omega | rfl | (simp +decide only [go_sem, ↓reduceIte] <;> rfl) | fail) only [go_sem, ↓reduceIte]
  refine Qa hP (Qic (hp.mono (K' := K + 2) (by omega) (Nat.le_refl _)) (Qkr hq) (by omega) hE hlp (by show (Qbu q (-1)).length ≤ _; omega)) rfl rfl rfl ?_
  simp +decide (disch := first | omega | rfl | (simp +decide only [go_sem, ↓reduceIte] <;> rfl) | fail) only [go_sem, ↓reduceIte]
  exact Qc rfl rfl
theorem Qym {n : Bool} {a d : List Nat} {k : Nat} (hp : Raw k n a d) (hk : k < 2 ^ 36) : Qe Tryz.prog 97 [PV.rr n a d, PV.rat ((0 : Int) : Rat)] (· = PV.rat (rv n a d)) := by
  have h0 : rs ((0 : Int) : Rat) ≤ k := by have := rs_0; have := hp.k1; have e : ((0 : Int) : Rat) = 0 := rfl; rw [e]; omega
  have := Qsl hp (Qb5 h0) hk
  rw [Qcm] at this
  have e : rv n a d + ((0 : Int) : Rat) = rv n a d := Rat.add_zero _
  rwa [e] at this
theorem Qu7 {n : Bool} {a d : List Nat} {k : Nat} (hp : Raw k n a d) (hk : k < 2 ^ 36) : Qe Tryz.prog 41 [PV.rr n a d] (· = PV.poly (Qiy (rv n a d))) := by
  have hr := hp.rs
  refine Qg Ql Tryz.func41 rfl Qaaq (by simp [c41]) fun C hP => ?_; simp only [c41]
  simp +decide (disch := first | omega | rfl | (simp +decide only [go_sem, ↓reduceIte] <;> rfl) | fail) only [go_sem, ↓reduceIte]
  refine Qa hP (Qjr (x := 0) (by omega) (by omega)) rfl rfl rfl ?_
  simp +decide (disch := first | omega | rfl | (simp +decide only [go_sem, ↓reduceIte] <;> rfl) | fail) only [go_sem, ↓reduceIte]
  refine Qa hP (Qym hp hk) rfl rfl rfl ?_
  simp +decide (disch := first | omega | rfl | (simp +decide only [go_sem, ↓reduceIte] <;> rfl) | fail) only [go_sem, ↓reduceIte]
  refine Qa hP ((Qmc (c := rv n a d) (m := []) (by omega)).le (args' := [PV.rat (rv n a d), .nilS]) ⟨Qn _, trivial, trivial⟩) rfl rfl rfl ?_
  simp +decide (disch := first | omega | rfl | (simp +decide only [go_sem, ↓reduceIte] <;> rfl) | fail) only [go_sem, ↓reduceIte]
  exact Qc rfl rfl
theorem Qqk {v : Int} (h1 : -9223372036854775808 ≤ v) (h2 : v < 9223372036854775807) : Qe Tryz.prog 40 [.int .i64 v] (· = PV.poly (Qa5 v)) := by
  refine Qg Ql Tryz.func40 rfl Qaar (by simp [c40]) fun C hP => ?_; simp only [c40]
  simp +decide (disch := first | omega | rfl | (simp +decide only [go_sem, ↓reduceIte] <;> rfl) | fail) only [go_sem, ↓reduceIte]
  refine Q2 (fun h => ?_) (fun h => ?_)
  · simp +decide (disch := first | omega | rfl | (simp +decide only [go_sem, ↓reduceIte] <;> rfl) | fail) only [go_sem, ↓reduceIte]
    exact Qcv (Qht (by rw [Qa5, if_pos (.inl h)])) rfl
  obtain ⟨n, rfl⟩ : ∃ n : Nat, v = n := ⟨v.toNat, by omega⟩
  simp +decide (disch := first | omega | rfl | (simp +decide only [go_sem, ↓reduceIte] <;> rfl) | fail) only [go_sem, ↓reduceIte]
  refine Qb (fun h => ?_) (fun h => ?_)
  · simp +decide (disch := first | omega | rfl | (simp +decide only [go_sem, ↓reduceIte] <;> rfl) | fail) only [go_sem, ↓reduceIte]
    exact Qcv (Qht (by rw [Qa5, if_pos (.inr h)])) rfl
  have hset : (List.replicate (n + 1) (0 : Int)).set n 1 = Qj2 n := by
    rw [List.replicate_succ', Qj2, List.set_append_right _ _ (by simp)]; simp
  have hl : n < (List.replicate (n + 1) (0 : Int)).length := by simp
  have hr := Qpa
  simp +decide (disch := first | omega | rfl | (simp +decide only [go_sem, ↓reduceIte, hset] <;> rfl) | fail) only [go_sem, ↓reduceIte, hset]
  refine Qa hP (Qjr (x := 1) (by omega) (by omega)) rfl rfl rfl ?_
  simp +decide (disch := first | omega | rfl | (simp +decide only [go_sem, ↓reduceIte] <;> rfl) | fail) only [go_sem, ↓reduceIte]
  refine Qbh hP (Qmc (c := ((1 : Int) : Rat)) (m := Qj2 n) (by have : ((1 : Int) : Rat) = 1 := rfl; rw [this]; omega)) (by simp +decide (disch := first | omega | rfl | (simp +decide only [go_sem, ↓reduceIte, Qd, List.contains_cons, List.contains_nil, List.flatMap_cons, List.flatMap_nil, List.append_nil] <;> rfl) | fail) only [go_sem, ↓reduceIte, Qd, List.contains_cons, List.contains_nil, List.flatMap_cons, List.flatMap_nil, List.append_nil]; simp [Qj2, List.take_of_length_le]) rfl ?_
  simp +decide (disch := first | omega | rfl | (simp +decide only [go_sem, ↓reduceIte] <;> rfl) | fail) only [go_sem, ↓reduceIte]
  refine Qc ?_ rfl
  rw [Qa5, if_neg (show ¬ ((n : Int) < 0 ∨ 64 ≤ (n : Int)) by omega), Int.toNat_natCast]
  rfl
end Go.Proofs.YtjkbalanglgoiaaGreat
namespace Go.FW
open Go
def pev (φ : List Int → Rat) : List Tm → Rat
  | [] => 0
  | t :: p => t.1 * φ t.2 + pev φ p
theorem Qb1 (φ : List Int → Rat) : pev φ [] = 0 := rfl
theorem Qai (φ : List Int → Rat) (t : Tm) (p : List Tm) : pev φ (t :: p) = t.1 * φ t.2 + pev φ p := rfl
theorem Qyn (φ : List Int → Rat) : ∀ (p q : List Tm), pev φ (p ++ q) = pev φ p + pev φ q
  | [], q => by rw [List.nil_append, Qb1]; grind
  | t :: p, q => by rw [List.cons_append, Qai, Qai, Qyn φ p q]; grind
theorem Qc9 {φ ψ : List Int → Rat} : ∀ {p : List Tm}, (∀ t ∈ p, φ t.2 = ψ t.2) → pev φ p = pev ψ p
  | [], _ => rfl
  | t :: p, h => by
    rw [Qai, Qai, h t (by simp), Qc9 (p := p) (fun x hx => h x (by simp [hx]))]
theorem Qw8 (φ ψ : List Int → Rat) : ∀ (p : List Tm), pev (fun m => φ m + ψ m) p = pev φ p + pev ψ p
  | [] => by simp only [Qb1]; grind
  | t :: p => by simp only [Qai]; rw [Qw8 φ ψ p]; grind
theorem Qu8 (c : Rat) (φ : List Int → Rat) : ∀ (p : List Tm), pev (fun m => c * φ m) p = c * pev φ p
  | [] => by simp only [Qb1]; grind
  | t :: p => by simp only [Qai]; rw [Qu8 c φ p]; grind
theorem Qu9 : ∀ (p : List Tm), pev (fun _ => 0) p = 0
  | [] => rfl
  | t :: p => by simp only [Qai]; rw [Qu9 p]; grind
theorem Qlx (ψ : List Int → List Int → Rat) (q : List Tm) : ∀ (p : List Tm), pev (fun m => pev (fun n => ψ m n) q) p = pev (fun n => pev (fun m => ψ m n) p) q
  | [] => by simp only [Qb1]; rw [Qu9]
  | t :: p => by
    simp only [Qai]
    rw [Qlx ψ q p, Qw8 (fun n => t.1 * ψ t.2 n), Qu8]
def Can (p : List Tm) : Prop := ∀ t ∈ p, t.2.getLast? ≠ some 0
def NZ (p : List Tm) : Prop := ∀ t ∈ p, t.1 ≠ 0
structure Nrm (p : List Tm) : Prop where
  c : Can p
  z : NZ p
  s : Qa0 p
theorem Can.cons {t : Tm} {p : List Tm} : Can (t :: p) ↔ t.2.getLast? ≠ some 0 ∧ Can p := by simp [Can]
theorem NZ.cons {t : Tm} {p : List Tm} : NZ (t :: p) ↔ t.1 ≠ 0 ∧ NZ p := by simp [NZ]
theorem Nrm.nil : Nrm [] := ⟨by simp [Can], by simp [NZ], trivial⟩
theorem Nrm.tail {t : Tm} {p : List Tm} (h : Nrm (t :: p)) : Nrm p := ⟨(Can.cons.1 h.c).2, (NZ.cons.1 h.z).2, h.s.2⟩
theorem Nrm.one {t : Tm} (h : t.1 ≠ 0) (hm : t.2.getLast? ≠ some 0) : Nrm [t] := ⟨by simpa [Can] using hm, by simpa [NZ] using h, ⟨by simp, trivial⟩⟩
theorem PVd.nrm {p : List Tm} (h : PVd p) : Nrm p := ⟨fun t ht => Qoi (h.t t ht).m, fun t ht => (h.t t ht).c, h.s⟩
theorem Qso {E : Nat} {a : List Int} (h : MB E a) (hE : E ≤ 1048576) (hl : a.getLast? ≠ some 0) : Qb4 a = true := by
  simp only [Qb4, Bool.and_eq_true, decide_eq_true_eq, List.all_eq_true]
  exact ⟨h.len, hl, fun x hx => ⟨h.lo x hx, by have := h.hi x hx; omega⟩⟩
theorem Qi3 {φ : List Int → Rat} : ∀ {p q : List Tm}, Can p → Can q → pev φ (Q3 p q) = pev φ p + pev φ q := by
  intro p q
  induction p, q using Q3.induct with
  | case1 q => rw [Q3, Qb1]; intros; grind
  | case2 p h => rw [Qco, Qb1]; intros; grind
  | case3 c m p d l q h ih =>
    intro hp hq
    rw [Q3, if_pos h, Qai, Qai, ih (Can.cons.1 hp).2 hq]; grind
  | case4 c m p d l q h1 h2 ih =>
    intro hp hq
    rw [Q3, if_neg h1, if_pos h2, Qai, ih hp (Can.cons.1 hq).2, Qai φ (d, l)]; grind
  | case5 c m p d l q h1 h2 h3 ih =>
    intro hp hq
    have e := Qlo h1 h2 (Can.cons.1 hp).1 (Can.cons.1 hq).1
    rw [Q3, if_neg h1, if_neg h2, if_pos h3, ih (Can.cons.1 hp).2 (Can.cons.1 hq).2, Qai, Qai]
    subst e
    have : c * φ m + d * φ m = 0 := by rw [← Rat.add_mul, h3]; grind
    grind
  | case6 c m p d l q h1 h2 h3 ih =>
    intro hp hq
    have e := Qlo h1 h2 (Can.cons.1 hp).1 (Can.cons.1 hq).1
    rw [Q3, if_neg h1, if_neg h2, if_neg h3, Qai, ih (Can.cons.1 hp).2 (Can.cons.1 hq).2, Qai, Qai]
    subst e
    grind
theorem Qg4 : ∀ {p q : List Tm} {t : Tm}, t ∈ Q3 p q → (∃ s ∈ p, s.2 = t.2) ∨ (∃ s ∈ q, s.2 = t.2) := by
  intro p q
  induction p, q using Q3.induct with
  | case1 q => rw [Q3]; intro t ht; exact Or.inr ⟨t, ht, rfl⟩
  | case2 p h => rw [Qco]; intro t ht; exact Or.inl ⟨t, ht, rfl⟩
  | case3 c m p d l q h ih =>
    intro t ht
    rw [Q3, if_pos h] at ht
    rcases List.mem_cons.1 ht with rfl | ht
    · exact Or.inl ⟨_, by simp, rfl⟩
    · rcases ih ht with ⟨s, h1, h2⟩ | h1
      · exact Or.inl ⟨s, by simp [h1], h2⟩
      · exact Or.inr h1
  | case4 c m p d l q h1 h2 ih =>
    intro t ht
    rw [Q3, if_neg h1, if_pos h2] at ht
    rcases List.mem_cons.1 ht with rfl | ht
    · exact Or.inr ⟨_, by simp, rfl⟩
    · rcases ih ht with h3 | ⟨s, h3, h4⟩
      · exact Or.inl h3
      · exact Or.inr ⟨s, by simp [h3], h4⟩
  | case5 c m p d l q h1 h2 h3 ih =>
    intro t ht
    rw [Q3, if_neg h1, if_neg h2, if_pos h3] at ht
    rcases ih ht with ⟨s, h4, h5⟩ | ⟨s, h4, h5⟩
    · exact Or.inl ⟨s, by simp [h4], h5⟩
    · exact Or.inr ⟨s, by simp [h4], h5⟩
  | case6 c m p d l q h1 h2 h3 ih =>
    intro t ht
    rw [Q3, if_neg h1, if_neg h2, if_neg h3] at ht
    rcases List.mem_cons.1 ht with rfl | ht
    · exact Or.inl ⟨(c, m), by simp, rfl⟩
    · rcases ih ht with ⟨s, h4, h5⟩ | ⟨s, h4, h5⟩
      · exact Or.inl ⟨s, by simp [h4], h5⟩
      · exact Or.inr ⟨s, by simp [h4], h5⟩
theorem Qva {p q : List Tm} (hp : Can p) (hq : Can q) : Can (Q3 p q) := fun t ht => by
  rcases Qg4 ht with ⟨s, h1, h2⟩ | ⟨s, h1, h2⟩
  · rw [← h2]; exact hp s h1
  · rw [← h2]; exact hq s h1
theorem Q7t : ∀ {p q : List Tm}, NZ p → NZ q → NZ (Q3 p q) := by
  intro p q
  induction p, q using Q3.induct with
  | case1 q => rw [Q3]; exact fun _ h => h
  | case2 p h => rw [Qco]; exact fun h _ => h
  | case3 c m p d l q h ih =>
    intro hp hq
    rw [Q3, if_pos h, NZ.cons]
    exact ⟨(NZ.cons.1 hp).1, ih (NZ.cons.1 hp).2 hq⟩
  | case4 c m p d l q h1 h2 ih =>
    intro hp hq
    rw [Q3, if_neg h1, if_pos h2, NZ.cons]
    exact ⟨(NZ.cons.1 hq).1, ih hp (NZ.cons.1 hq).2⟩
  | case5 c m p d l q h1 h2 h3 ih =>
    intro hp hq
    rw [Q3, if_neg h1, if_neg h2, if_pos h3]
    exact ih (NZ.cons.1 hp).2 (NZ.cons.1 hq).2
  | case6 c m p d l q h1 h2 h3 ih =>
    intro hp hq
    rw [Q3, if_neg h1, if_neg h2, if_neg h3, NZ.cons]
    exact ⟨h3, ih (NZ.cons.1 hp).2 (NZ.cons.1 hq).2⟩
theorem Qyo {a b c : List Int} (h : Qag a b = 0) (h2 : 0 < Qag b c) : 0 < Qag a c := by
  have e : ∀ i, eN a i = eN b i := by
    intro i
    have := (Qjo a b _).1 h
    by_cases hi : i < max a.length b.length
    · exact this i hi
    · rw [Qb9 (by omega), Qb9 (by omega)]
  rw [Qx9 e (fun _ => rfl)]; exact h2
theorem Qv9 : ∀ {p q : List Tm}, Qa0 p → Qa0 q → Qa0 (Q3 p q) := by
  intro p q
  induction p, q using Q3.induct with
  | case1 q => rw [Q3]; exact fun _ h => h
  | case2 p h => rw [Qco]; exact fun h _ => h
  | case3 c m p d l q h ih =>
    intro hp hq
    rw [Q3, if_pos h]
    refine ⟨fun t ht => ?_, ih hp.2 hq⟩
    rcases Qg4 ht with ⟨s, h1, h2⟩ | ⟨s, h1, h2⟩
    · rw [← h2]; exact hp.1 s h1
    · rw [← h2]
      rcases List.mem_cons.1 h1 with rfl | h1
      · exact h
      · exact Qdl h (hq.1 s h1)
  | case4 c m p d l q h1 h2 ih =>
    intro hp hq
    rw [Q3, if_neg h1, if_pos h2]
    have h2' : 0 < Qag l m := by have := Qg2 m l; omega
    refine ⟨fun t ht => ?_, ih hp hq.2⟩
    rcases Qg4 ht with ⟨s, h3, h4⟩ | ⟨s, h3, h4⟩
    · rw [← h4]
      rcases List.mem_cons.1 h3 with rfl | h3
      · exact h2'
      · exact Qdl h2' (hp.1 s h3)
    · rw [← h4]; exact hq.1 s h3
  | case5 c m p d l q h1 h2 h3 ih =>
    intro hp hq
    rw [Q3, if_neg h1, if_neg h2, if_pos h3]
    exact ih hp.2 hq.2
  | case6 c m p d l q h1 h2 h3 ih =>
    intro hp hq
    rw [Q3, if_neg h1, if_neg h2, if_neg h3]
    refine ⟨fun t ht => ?_, ih hp.2 hq.2⟩
    rcases Qg4 ht with ⟨s, h4, h5⟩ | ⟨s, h4, h5⟩
    · rw [← h5]; exact hp.1 s h4
    · rw [← h5]; exact Qyo (b := l) (by show Qag m l = 0; omega) (hq.1 s h4)
theorem Qg5 {p q : List Tm} (hp : Nrm p) (hq : Nrm q) : Nrm (Q3 p q) := ⟨Qva hp.c hq.c, Q7t hp.z hq.z, Qv9 hp.s hq.s⟩
def ind (m : List Int) : List Int → Rat := fun n => if n = m then 1 else 0
theorem Qhe {m : List Int} : ∀ {p : List Tm}, (∀ t ∈ p, t.2 ≠ m) → pev (ind m) p = 0
  | [], _ => rfl
  | t :: p, h => by
    rw [Qai, Qhe (p := p) (fun x hx => h x (by simp [hx])), ind, if_neg (h t (by simp))]; grind
theorem Qjs {a b : List Int} (h : 0 < Qag a b) : b ≠ a := by rintro rfl; rw [Qjp] at h; omega
theorem Qex {t : Tm} {p : List Tm} (h : Qa0 (t :: p)) : pev (ind t.2) (t :: p) = t.1 := by
  rw [Qai, Qhe (fun s hs => Qjs (h.1 s hs)), ind, if_pos rfl]; grind
theorem Qnz : ∀ {p q : List Tm}, Nrm p → Nrm q → (∀ φ, pev φ p = pev φ q) → p = q
  | [], [], _, _, _ => rfl
  | [], t :: q, _, hq, h => by
    have := h (ind t.2)
    rw [Qex hq.s, Qb1] at this
    exact absurd this.symm (hq.z t (by simp))
  | t :: p, [], hp, _, h => by
    have := h (ind t.2)
    rw [Qex hp.s, Qb1] at this
    exact absurd this (hp.z t (by simp))
  | s :: p, t :: q, hp, hq, h => by
    by_cases h1 : 0 < Qag s.2 t.2
    · have := h (ind s.2)
      rw [Qex hp.s, Qhe (fun x hx => ?_)] at this
      · exact absurd this (hp.z s (by simp))
      · rcases List.mem_cons.1 hx with rfl | hx
        · exact Qjs h1
        · exact Qjs (Qdl h1 (hq.s.1 x hx))
    · by_cases h2 : Qag s.2 t.2 < 0
      · have h2' : 0 < Qag t.2 s.2 := by have := Qg2 s.2 t.2; omega
        have := h (ind t.2)
        rw [Qex hq.s, Qhe (fun x hx => ?_)] at this
        · exact absurd this.symm (hq.z t (by simp))
        · rcases List.mem_cons.1 hx with rfl | hx
          · exact Qjs h2'
          · exact Qjs (Qdl h2' (hp.s.1 x hx))
      · have e := Qlo h1 h2 (hp.c s (by simp)) (hq.c t (by simp))
        have e2 := h (ind s.2)
        rw [Qex hp.s, e, Qex hq.s] at e2
        have e3 : s = t := Prod.ext e2 e
        subst e3
        rw [Qnz hp.tail hq.tail (fun φ => by have := h φ; rw [Qai, Qai] at this; grind)]
theorem Q05 {φ : List Int → Rat} : ∀ (n : Nat) (l : List (List Tm)), l.length ≤ n → (∀ p ∈ l, Can p) → Can (Qcb l) ∧ pev φ (Qcb l) = (l.map (pev φ)).sum := by
  intro n
  induction n with
  | zero =>
    intro l hl _
    have : l = [] := List.length_eq_zero_iff.1 (by omega)
    subst this
    rw [Qcb]; exact ⟨Nrm.nil.c, rfl⟩
  | succ n ih =>
    intro l hl h
    match l, h with
    | [], _ => rw [Qcb]; exact ⟨Nrm.nil.c, rfl⟩
    | [p], h => rw [Qcb]; exact ⟨h p (by simp), by simp; grind⟩
    | p :: q :: r, h =>
      rw [Qhr (by simp)]
      generalize hL : p :: q :: r = L at *
      have hlen : 2 ≤ L.length := by rw [← hL]; simp
      obtain ⟨a1, a2⟩ := ih (L.take (L.length / 2)) (by rw [List.length_take]; omega) (fun x hx => h x (List.mem_of_mem_take hx))
      obtain ⟨b1, b2⟩ := ih (L.drop (L.length / 2)) (by rw [List.length_drop]; omega) (fun x hx => h x (List.mem_of_mem_drop hx))
      refine ⟨Qva a1 b1, ?_⟩
      rw [Qi3 a1 b1, a2, b2, ← List.sum_append, ← List.map_append, List.take_append_drop]
theorem Q4m : ∀ (n : Nat) (l : List (List Tm)), l.length ≤ n → (∀ p ∈ l, Nrm p) → Nrm (Qcb l) := by
  intro n
  induction n with
  | zero =>
    intro l hl _
    have : l = [] := List.length_eq_zero_iff.1 (by omega)
    subst this
    rw [Qcb]; exact Nrm.nil
  | succ n ih =>
    intro l hl h
    match l, h with
    | [], _ => rw [Qcb]; exact Nrm.nil
    | [p], h => rw [Qcb]; exact h p (by simp)
    | p :: q :: r, h =>
      rw [Qhr (by simp)]
      generalize hL : p :: q :: r = L at *
      have hlen : 2 ≤ L.length := by rw [← hL]; simp
      exact Qg5 (ih (L.take (L.length / 2)) (by rw [List.length_take]; omega) (fun x hx => h x (List.mem_of_mem_take hx)))
        (ih (L.drop (L.length / 2)) (by rw [List.length_drop]; omega) (fun x hx => h x (List.mem_of_mem_drop hx)))
theorem Qid (φ : List Int → Rat) (t : Tm) : ∀ (p : List Tm), pev φ (Q8 p t) = t.1 * pev (fun m => φ (Qar m t.2)) p
  | [] => by rw [Q8, List.filterMap_nil, Qb1, Qb1]; grind
  | s :: p => by
    have ih := Qid φ t p
    rw [Q8] at ih ⊢
    rw [List.filterMap_cons]
    by_cases h : s.1 * t.1 = 0
    · simp only [h, if_true, Qai]
      rw [ih]
      have : t.1 * (s.1 * φ (Qar s.2 t.2)) = (s.1 * t.1) * φ (Qar s.2 t.2) := by grind
      rw [Rat.mul_add, this, h]; grind
    · simp only [h, if_false, Qai]
      rw [ih]; grind
theorem Qly (p : List Tm) (t : Tm) : Can (Q8 p t) := by
  intro x hx
  simp only [Q8, List.mem_filterMap] at hx
  obtain ⟨y, hy, h⟩ := hx
  split at h
  · cases h
  · cases h; exact Qc7 _ _
theorem Q06 (p : List Tm) (t : Tm) : NZ (Q8 p t) := by
  intro x hx
  simp only [Q8, List.mem_filterMap] at hx
  obtain ⟨y, hy, h⟩ := hx
  split at h
  · cases h
  · rename_i h0; cases h; exact h0
theorem Qmd (t : Tm) : ∀ (p : List Tm), Qa0 p → Qa0 (Q8 p t)
  | [], _ => trivial
  | s :: p, hp => by
    have ih := Qmd t p hp.2
    rw [Q8] at ih ⊢
    rw [List.filterMap_cons]
    split
    · exact ih
    · rename_i b hb
      split at hb
      · cases hb
      · cases hb
        refine ⟨fun x hx => ?_, ih⟩
        simp only [List.mem_filterMap] at hx
        obtain ⟨y, hy, h⟩ := hx
        split at h
        · cases h
        · cases h
          simp only [Qo9]
          exact hp.1 y hy
theorem Qlz {p : List Tm} (t : Tm) (hp : Qa0 p) : Nrm (Q8 p t) := ⟨Qly _ _, Q06 _ _, Qmd t p hp⟩
theorem Qql (φ : List Int → Rat) (q : List Tm) : ∀ (p : List Tm), ((p.map (Q8 q)).map (pev φ)).sum = pev (fun m => pev (fun n => φ (Qar m n)) q) p
  | [] => rfl
  | t :: p => by
    rw [List.map_cons, List.map_cons, List.sum_cons, Qql φ q p, Qid, Qai]
    congr 2
    exact Qc9 fun s _ => by rw [Qec]
theorem Qsp (φ : List Int → Rat) (p q : List Tm) : pev φ (Qhd p q) = pev (fun m => pev (fun n => φ (Qar m n)) q) p := by
  rw [Qhd, (Q05 (φ := φ) _ _ (Nat.le_refl _) ?_).2, Qql]
  intro x hx
  obtain ⟨t, _, rfl⟩ := List.mem_map.1 hx
  exact Qly _ _
theorem Qg6 (φ : List Int → Rat) (p q : List Tm) : pev φ (Qaz p q) = pev (fun m => pev (fun n => φ (Qar m n)) q) p := by
  unfold Qaz
  split
  · rw [Qsp, Qlx (fun m n => φ (Qar m n))]
    exact Qc9 fun s _ => Qc9 fun t _ => by rw [Qec]
  · exact Qsp φ p q
theorem Qsq {p q : List Tm} (hq : Qa0 q) : Nrm (Qhd p q) := Q4m _ _ (Nat.le_refl _) fun x hx => by
  obtain ⟨t, _, rfl⟩ := List.mem_map.1 hx
  exact Qlz t hq
theorem Qcc {p q : List Tm} (hp : Qa0 p) (hq : Qa0 q) : Nrm (Qaz p q) := by
  unfold Qaz
  split
  · exact Qsq hp
  · exact Qsq hq
theorem Qyp (φ : List Int → Rat) {p : List Tm} (hp : Can p) (a : Rat) : pev φ (Qbu p a) = a * pev φ p := by
  unfold Qbu
  split
  · rename_i h; rw [h, Qb1]; grind
  · rw [Qid]
    congr 1
    exact Qc9 fun s hs => by rw [Qll (hp s hs)]
theorem Qqm {p : List Tm} (hp : Qa0 p) (a : Rat) : Nrm (Qbu p a) := by
  unfold Qbu
  split
  · exact Nrm.nil
  · exact Qlz _ hp
theorem Q4n (φ : List Int → Rat) {p : List Tm} (hp : Can p) : pev φ (Qix p) = - pev φ p := by
  rw [Qix, Qyp φ hp]; grind
theorem Qvb (φ : List Int → Rat) {p q : List Tm} (hp : Can p) (hq : Nrm q) : pev φ (Qf0 p q) = pev φ p - pev φ q := by
  rw [Qf0, Qi3 hp (show Can (Qix q) from (Qqm hq.s _).c), Q4n φ hq.c]; grind
theorem Qpe {p q : List Tm} (hp : Nrm p) (hq : Nrm q) : Nrm (Qf0 p q) := Qg5 hp (Qqm hq.s _)
def Qfr (p q : List Tm) : List Tm := q.foldl (fun out t => Q3 out (Q8 p t)) []
theorem Qsr (p : List Tm) (hp : Nrm p) : ∀ (q out : List Tm), Nrm out → Nrm (q.foldl (fun out t => Q3 out (Q8 p t)) out) ∧
    ∀ φ, pev φ (q.foldl (fun out t => Q3 out (Q8 p t)) out) = pev φ out + pev (fun m => pev (fun n => φ (Qar n m)) p) q
  | [], out, h => ⟨h, fun φ => by rw [List.foldl_nil, Qb1]; grind⟩
  | t :: q, out, h => by
    obtain ⟨h1, h2⟩ := Qsr p hp q (Q3 out (Q8 p t)) (Qg5 h (Qlz t hp.s))
    refine ⟨h1, fun φ => ?_⟩
    rw [List.foldl_cons, h2, Qi3 h.c (Qly _ _), Qid, Qai]; grind
theorem Ql0 {p q : List Tm} (hp : Nrm p) (hq : Nrm q) : Qfr p q = Qaz p q := by
  obtain ⟨h1, h2⟩ := Qsr p hp q [] Nrm.nil
  refine Qnz h1 (Qcc hp.s hq.s) fun φ => ?_
  rw [Qfr, h2, Qg6, Qb1, Qlx (fun m n => φ (Qar m n))]
  grind
end Go.FW
namespace Go.FW
open Go
variable {C : Ctx} {fr : Fr} {hp : HP} {w : World} {K R : Qh}
theorem Qwa {e by_ ty d : Nat} (h0 : 0 < e) : Qfv e by_ ty .nilS (.sl e []) d fr hp K = K (upd (Qaq d fr) d (.ms d 0)) (Qu hp d ⟨e, ty, [], false⟩) := by
  have := Qh8 (fr := fr) (hp := hp) (K := K) (e := e) (by_ := by_) (ty := ty) (d := d) (x := .sl e []) (ys := []) rfl h0 (by simp) (by simp)
  simpa using this
def Qa3 (p : List Tm) : Bool := decide (4000 < p.length) || p.any fun t => t.2.any fun x => decide (1048576 < x)
end Go.FW
namespace Go.FW
open Go
theorem Qrp {m : List Int} {c : Rat} : ∀ {u v : List Tm}, (∀ t ∈ u, 0 < Qag t.2 m) → (∀ t ∈ v, Qag t.2 m < 0) → Q3 (u ++ v) [(c, m)] = u ++ (c, m) :: v
  | [], [], _, _ => by rw [List.nil_append, Qfb]; rfl
  | [], t :: v, _, hv => by
    have h1 := hv t (by simp)
    rw [List.nil_append, Qhs, if_neg (by show ¬ 0 < Qag t.2 m; omega), if_pos (by exact h1), Qco]; rfl
  | t :: u, v, hu, hv => by
    rw [List.cons_append, Qhs, if_pos (by exact hu t (by simp)), Qrp (fun s hs => hu s (by simp [hs])) hv]; rfl
theorem Qw9 {m : List Int} {c d : Rat} : ∀ {u v : List Tm}, (∀ t ∈ u, 0 < Qag t.2 m) → Q3 (u ++ (d, m) :: v) [(c, m)] = u ++ (if d + c = 0 then [] else [(d + c, m)]) ++ v
  | [], v, _ => by
    have h0 := Qjp m
    rw [List.nil_append, Qhs, if_neg (by show ¬ 0 < Qag m m; omega), if_neg (by show ¬ Qag m m < 0; omega)]
    show (if d + c = 0 then Q3 v [] else (d + c, m) :: Q3 v []) = _
    rw [Qco]
    split <;> rfl
  | t :: u, v, hu => by
    rw [List.cons_append, Qhs, if_pos (by exact hu t (by simp)), Qw9 (fun s hs => hu s (by simp [hs]))]; simp
def Qcy (p : List Tm) (c : Rat) (m : List Int) : List Tm := Q3 p (if c = 0 then [] else [(c, m)])
theorem Qvc {p : List Tm} (hs : Qa0 p) : ∀ {i : Nat} (h : i < p.length), ∀ t ∈ p.take i, 0 < Qag t.2 p[i].2 := by
  induction p with
  | nil => intro i h; simp at h
  | cons s p ih =>
    intro i h t ht
    cases i with
    | zero => simp at ht
    | succ i =>
      simp only [List.take_succ_cons, List.mem_cons] at ht
      have hi : i < p.length := by simpa using h
      show 0 < Qag t.2 p[i].2
      rcases ht with rfl | ht
      · exact hs.1 _ (List.getElem_mem hi)
      · exact ih hs.2 hi t ht
theorem Q07 {c : Rat} {m : List Int} (hl : m.getLast? ≠ some 0) : Nrm (if c = 0 then [] else [(c, m)]) := by
  split
  · exact Nrm.nil
  · rename_i h; exact Nrm.one h hl
theorem Q08 {p : List Tm} {c : Rat} {m : List Int} (hp : Nrm p) (hl : m.getLast? ≠ some 0) : Nrm (Qcy p c m) := Qg5 hp (Q07 hl)
theorem Q09 {φ : List Int → Rat} {p : List Tm} {c : Rat} {m : List Int} (hp : Can p) (hl : m.getLast? ≠ some 0) : pev φ (Qcy p c m) = pev φ p + c * φ m := by
  rw [Qcy, Qi3 hp (Q07 hl).c]
  split
  · rename_i h; rw [h, Qb1]; grind
  · rw [Qai, Qb1]; grind
end Go.FW
